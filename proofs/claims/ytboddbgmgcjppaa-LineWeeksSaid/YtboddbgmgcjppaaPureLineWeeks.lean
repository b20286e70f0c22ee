/- For every day from -3000000 to 2999999, every weekday and every n from 1 to 1000 (so LineWeeks cuts its arguments): the n-th such weekday from the day on has this weekday, the next one is 7 days later, the first one is less than 7 days away, and the last one before it is the same day or 7 days earlier. No conditions. -/
import Derived.Test.YtboddbgmgcjppaaQLineWeeksx7
namespace Go.Proofs.Ytboddbgmgcjppaa.Pure
open Go.RowKit Go.Proofs.Ytboddbgmgcjppaa.QLineWeeks Go.Proofs.YtboddbgmgcjppaaW.PrintWords Go.Proofs.YtboddbgmgcjppaaW.PrintLast

theorem lit64 {a : Int} (h : (Go.Lit.int .i64 a).wf = true) : -9223372036854775808 ≤ a ∧ a ≤ 9223372036854775807 := by
  simp only [Go.Lit.wf, Bool.and_eq_true, decide_eq_true_eq] at h
  have h1 : Go.IntKind.i64.min = -9223372036854775808 := by decide
  have h2 : Go.IntKind.i64.max = 9223372036854775807 := by decide
  omega
theorem w64 {n : Int} (h1 : -9223372036854775808 ≤ n) (h2 : n ≤ 9223372036854775807) : wrap64 n = n := by unfold wrap64; omega
theorem w64r (n : Int) : -9223372036854775808 ≤ wrap64 n ∧ wrap64 n ≤ 9223372036854775807 := by unfold wrap64; omega
theorem tmod_pos {a b : Int} (ha : 0 ≤ a) : Int.tmod a b = a % b := by rw [Int.tmod_eq_emod, if_pos (Or.inl ha)]; simp
theorem tdiv_pos {a b : Int} (ha : 0 ≤ a) : Int.tdiv a b = a / b := by rw [Int.tdiv_eq_ediv, if_pos (Or.inl ha)]; simp
theorem tmod_bounds {a b : Int} (hb : 0 < b) : -b < Int.tmod a b ∧ Int.tmod a b < b ∧ (0 ≤ a → 0 ≤ Int.tmod a b) ∧ (a ≤ 0 → Int.tmod a b ≤ 0) := by
  rw [Int.tmod_eq_emod]
  have h1 := Int.emod_nonneg a (show b ≠ 0 by omega)
  have h2 := Int.emod_lt_of_pos a hb
  split
  · rename_i h
    refine ⟨by omega, by omega, fun _ => by omega, fun h0 => ?_⟩
    rcases h with h | h
    · have : a = 0 := by omega
      subst this; simp
    · rw [Int.emod_eq_zero_of_dvd h]; simp
  · refine ⟨by omega, by omega, fun _ => by omega, fun _ => by omega⟩
/-- tmod and tdiv against emod and ediv, for a positive divisor. -/
theorem tmod_cases {a b : Int} (hb : 0 < b) : (Int.tmod a b = a % b ∧ Int.tdiv a b = a / b ∧ (0 ≤ a ∨ a % b = 0)) ∨ (a < 0 ∧ a % b ≠ 0 ∧ Int.tmod a b = a % b - b ∧ Int.tdiv a b = a / b + 1) := by
  by_cases h : 0 ≤ a ∨ b ∣ a
  · left
    refine ⟨by rw [Int.tmod_eq_emod, if_pos h]; simp, by rw [Int.tdiv_eq_ediv, if_pos h]; simp, h.imp id Int.emod_eq_zero_of_dvd⟩
  · right
    have h' := not_or.mp h
    refine ⟨by omega, fun e => h'.2 (Int.dvd_of_emod_eq_zero e), ?_, ?_⟩
    · rw [Int.tmod_eq_emod, if_neg h]; omega
    · rw [Int.tdiv_eq_ediv, if_neg h, Int.sign_eq_one_of_pos hb]
theorem ediv_range {a b : Int} (hb : 0 < b) (h1 : -9223372036854775808 ≤ a) (h2 : a ≤ 9223372036854775807) : -9223372036854775808 ≤ a / b ∧ a / b ≤ 9223372036854775807 := by
  have e := Int.mul_ediv_add_emod a b
  have l := Int.emod_nonneg a (show b ≠ 0 by omega)
  have u := Int.emod_lt_of_pos a hb
  constructor
  · by_cases c : 0 ≤ a
    · have := Int.ediv_nonneg c (show 0 ≤ b by omega); omega
    · have : a ≤ a / b := by
        rw [Int.le_ediv_iff_mul_le hb]
        have : a * b ≤ a * 1 := Int.mul_le_mul_of_nonpos_left (by omega) (by omega)
        omega
      omega
  · by_cases c : 0 ≤ a
    · have : a / b ≤ a := Int.ediv_le_self b c
      omega
    · have : a / b ≤ 0 := by
        have : a / b < 0 := Int.ediv_neg_of_neg_of_pos (by omega) hb
        omega
      omega
/-- the remainder from 0 on, as the program computes it twice. -/
theorem mod_twice {a b : Int} (hb : 0 < b) (hb2 : b ≤ 4611686018427387904) : Int.tmod (wrap64 ((Int.tmod a b) + b)) b = a % b := by
  have hc := tmod_bounds (a := a) hb
  have h1 := Int.emod_nonneg a (show b ≠ 0 by omega)
  have h2 := Int.emod_lt_of_pos a hb
  rw [w64 (by omega) (by omega)]
  rw [tmod_pos (by omega)]
  rcases tmod_cases (a := a) hb with ⟨e, _, _⟩ | ⟨_, _, e, _⟩
  · rw [e]; simp
  · rw [e, show a % b - b + b = a % b from by omega]; simp

theorem mod_is (a b : Int) (hb : 0 < b) (hb2 : b ≤ 4611686018427387904) : ephemeriskeep1_mod.f a b = some (a % b) := by
  unfold ephemeriskeep1_mod.f
  rw [if_neg (by omega), mod_twice hb hb2]
theorem cut_is (a l n : Int) (hn : 0 < n) (hn2 : n ≤ 4611686018427387904) (h1 : -4611686018427387904 ≤ l) (h2 : l ≤ 4611686018427387904) :
    ∃ r, ephemeriskeep1_cut.f a l n = some r ∧ l ≤ r ∧ r < l + n ∧ r = l + a % n := by
  have h3 := Int.emod_nonneg a (show n ≠ 0 by omega)
  have h4 := Int.emod_lt_of_pos a hn
  refine ⟨l + a % n, ?_, by omega, by omega, rfl⟩
  unfold ephemeriskeep1_cut.f
  rw [mod_is a n hn hn2, Option.bind_some, w64 (by omega) (by omega)]

theorem wmod_is (a b : Int) (hb : 0 < b) (hb2 : b ≤ 4611686018427387904) : whole_Mod.f a b = some (a % b) := by
  have hc := tmod_bounds (a := a) hb
  have h1 := Int.emod_nonneg a (show b ≠ 0 by omega)
  have h2 := Int.emod_lt_of_pos a hb
  unfold whole_Mod.f
  rw [if_neg (by omega)]
  rcases tmod_cases (a := a) hb with ⟨e, _, c⟩ | ⟨c, c', e, _⟩
  · rw [e, if_neg (by omega)]
  · rw [e, if_pos (by omega), w64 (by omega) (by omega)]
    congr 1; omega

theorem check_ok (d : Int) (h1 : -4000000 ≤ d) (h2 : d ≤ 4000000) : line_Check.f d = some 0 := by
  unfold line_Check.f
  rw [if_neg (by omega), if_neg (by omega)]
theorem check_bad (d : Int) (h : d < -4000000 ∨ 4000000 < d) : line_Check.f d = some 3 := by
  unfold line_Check.f
  by_cases c : d < -4000000
  · rw [if_pos c]
  · rw [if_neg c, if_pos (by omega)]

theorem nth_pos (k : Nat) (d w n : Int) (h1 : -4000000 ≤ d) (h2 : d ≤ 4000000) (h3 : 0 ≤ w) (h4 : w ≤ 6) (h5 : 1 ≤ n) (h6 : n ≤ 1000000) (h7 : d + (w - (d - 1)) % 7 + 7 * (n - 1) ≤ 4000000) :
    line_Nth.f (k + 2) d w n = some (d + (w - (d - 1)) % 7 + 7 * (n - 1), 0) := by
  unfold line_Nth.f
  rw [check_ok d h1 h2]
  simp only [Option.bind_some]
  rw [if_pos trivial, if_neg (by omega), if_neg (by omega), show (n == 0) = false from beq_eq_false_iff_ne.mpr (by omega)]
  simp only [line_Nth.j0]
  rw [if_neg (by decide), if_neg (by omega), decide_eq_false (by omega)]
  simp only [line_Nth.j1]
  rw [if_neg (by decide), w64 (n := d - 1) (by omega) (by omega), w64 (n := w - (d - 1)) (by omega) (by omega), wmod_is _ 7 (by omega) (by omega)]
  simp only [Option.bind_some]
  rw [if_neg (by omega), w64 (n := n - 1) (by omega) (by omega), w64 (n := 7 * (n - 1)) (by omega) (by omega), w64 (n := d + (w - (d - 1)) % 7) (by omega) (by omega), w64 (by omega) (by omega), check_ok _ (by omega) h7]
  simp only [Option.bind_some]
  rw [if_pos trivial]
theorem nth_last (k : Nat) (d w : Int) (h1 : -3999990 ≤ d) (h2 : d ≤ 4000000) (h3 : 0 ≤ w) (h4 : w ≤ 6) :
    line_Nth.f (k + 2) d w (-1) = some (d - (d - 1 - w) % 7, 0) := by
  unfold line_Nth.f
  rw [check_ok d (by omega) h2]
  simp only [Option.bind_some]
  rw [if_pos trivial, if_neg (by omega), if_neg (by omega), show ((-1 : Int) == 0) = false from rfl]
  simp only [line_Nth.j0]
  rw [if_neg (by decide), if_neg (by omega), decide_eq_false (by omega)]
  simp only [line_Nth.j1]
  rw [if_neg (by decide), w64 (n := d - 1) (by omega) (by omega), w64 (n := w - (d - 1)) (by omega) (by omega), wmod_is _ 7 (by omega) (by omega)]
  simp only [Option.bind_some]
  rw [if_pos (by omega), w64 (n := d - 1 - w) (by omega) (by omega), wmod_is _ 7 (by omega) (by omega)]
  simp only [Option.bind_some]
  rw [w64 (n := -1 + 1) (by omega) (by omega), w64 (n := 7 * (-1 + 1)) (by omega) (by omega), w64 (n := d - (d - 1 - w) % 7) (by omega) (by omega), w64 (by omega) (by omega), show d - (d - 1 - w) % 7 + 7 * (-1 + 1) = d - (d - 1 - w) % 7 from by omega, check_ok _ (by omega) (by omega)]
  simp only [Option.bind_some]
  rw [if_pos trivial]
theorem weekday_is (d : Int) (h1 : -4000000 ≤ d) (h2 : d ≤ 4000000) : line_Weekday.f d = some ((d - 1) % 7, 0) := by
  unfold line_Weekday.f
  rw [check_ok d h1 h2]
  simp only [Option.bind_some]
  rw [if_pos trivial, w64 (by omega) (by omega), wmod_is _ 7 (by omega) (by omega)]
  simp only [Option.bind_some]

theorem LineWeeks : ephemeriskeep1_LineWeeks.Pure := by
  intro a b c ha hb hc
  refine ⟨4, ?_⟩
  obtain ⟨d, ed, d1, d2, -⟩ := cut_is a (-3000000) 6000000 (by omega) (by omega) (by omega) (by omega)
  obtain ⟨w, ew, w1, w2, -⟩ := cut_is b 0 7 (by omega) (by omega) (by omega) (by omega)
  obtain ⟨n, en, n1, n2, -⟩ := cut_is c 1 1000 (by omega) (by omega) (by omega) (by omega)
  unfold ephemeriskeep1_LineWeeks.f
  rw [nth_pos 2 1 0 1 (by omega) (by omega) (by omega) (by omega) (by omega) (by omega) (by omega)]
  simp only [Option.bind_some]
  rw [if_pos (by decide)]
  simp only [ephemeriskeep1_LineWeeks.j0]
  rw [if_neg (by decide), ed]
  simp only [Option.bind_some]
  rw [ew]
  simp only [Option.bind_some]
  rw [en]
  simp only [Option.bind_some]
  rw [nth_pos 1 d w n (by omega) (by omega) (by omega) (by omega) (by omega) (by omega) (by omega)]
  simp only [Option.bind_some]
  rw [w64 (n := n + 1) (by omega) (by omega), nth_pos 1 d w (n + 1) (by omega) (by omega) (by omega) (by omega) (by omega) (by omega) (by omega)]
  simp only [Option.bind_some]
  rw [weekday_is _ (by omega) (by omega)]
  simp only [Option.bind_some]
  rw [nth_pos 1 d w 1 (by omega) (by omega) (by omega) (by omega) (by omega) (by omega) (by omega)]
  simp only [Option.bind_some]
  rw [nth_last 1 d w (by omega) (by omega) (by omega) (by omega)]
  simp only [Option.bind_some]
  rw [if_pos trivial, if_pos trivial, if_pos trivial, w64 (n := d + (w - (d - 1)) % 7 + 7 * (n - 1) + 7) (by omega) (by omega), if_pos (by omega), if_pos (by omega), if_pos (by omega), w64 (n := d + 7) (by omega) (by omega), if_pos (by omega), if_pos (by omega)]
  rw [show d + (w - (d - 1)) % 7 + 7 * (1 - 1) = d + (w - (d - 1)) % 7 from by omega, w64 (by omega) (by omega)]
  by_cases z : (w - (d - 1)) % 7 = 0
  · have z2 : (d - 1 - w) % 7 = 0 := by omega
    rw [z, z2]
    simp
  · have z2 : (d - 1 - w) % 7 = 7 - (w - (d - 1)) % 7 := by omega
    have e1 : (d + (w - (d - 1)) % 7 == d - (d - 1 - w) % 7) = false := beq_eq_false_iff_ne.mpr (by omega)
    have e2 : (d + (w - (d - 1)) % 7 == d) = false := beq_eq_false_iff_ne.mpr (by omega)
    rw [e1, e2, if_pos (by decide), if_neg (by omega), show d + (w - (d - 1)) % 7 - (d - (d - 1 - w) % 7) = 7 from by omega]
    rfl

end Go.Proofs.Ytboddbgmgcjppaa.Pure
