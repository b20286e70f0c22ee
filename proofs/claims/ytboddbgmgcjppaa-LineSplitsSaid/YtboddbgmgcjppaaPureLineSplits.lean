/- For every day, time of day, cycle length and offset that LineSplits cuts out of its arguments, Split gives back what Instant was made of, and the place in a cycle goes on by one from day to day (or begins again at 0). No conditions. -/
import Derived.Test.YtboddbgmgcjppaaPLineSplitsx1
namespace Go.Proofs.Ytboddbgmgcjppaa.Pure
open Go.RowKit Go.Proofs.Ytboddbgmgcjppaa.PLineSplits Go.Proofs.YtboddbgmgcjppaaW.PrintWords Go.Proofs.YtboddbgmgcjppaaW.PrintLast

theorem lit64 {a : Int} (h : (Go.Lit.int .i64 a).wf = true) : -9223372036854775808 ≤ a ∧ a ≤ 9223372036854775807 := by
  simp only [Go.Lit.wf, Bool.and_eq_true, decide_eq_true_eq] at h
  have h1 : Go.IntKind.i64.min = -9223372036854775808 := by decide
  have h2 : Go.IntKind.i64.max = 9223372036854775807 := by decide
  omega
theorem w64 {n : Int} (h1 : -9223372036854775808 ≤ n) (h2 : n ≤ 9223372036854775807) : wrap64 n = n := by unfold wrap64; omega
theorem w64r (n : Int) : -9223372036854775808 ≤ wrap64 n ∧ wrap64 n ≤ 9223372036854775807 := by unfold wrap64; omega
theorem tmod_pos {a b : Int} (ha : 0 ≤ a) : Int.tmod a b = a % b := by rw [Int.tmod_eq_emod, if_pos (Or.inl ha)]; simp
theorem tdiv_pos {a b : Int} (ha : 0 ≤ a) : Int.tdiv a b = a / b := by rw [Int.tdiv_eq_ediv, if_pos (Or.inl ha)]; simp
theorem tmod_bounds {a b : Int} (hb : 0 < b) : -b < Int.tmod a b ∧ Int.tmod a b < b ∧ (0 ≤ a → 0 ≤ Int.tmod a b) ∧ (a ≤ 0 → Int.tmod a b ≤ 0) := by
  rw [Int.tmod_eq_emod]
  have h1 := Int.emod_nonneg a (show b ≠ 0 by omega)
  have h2 := Int.emod_lt_of_pos a hb
  split
  · rename_i h
    refine ⟨by omega, by omega, fun _ => by omega, fun h0 => ?_⟩
    rcases h with h | h
    · have : a = 0 := by omega
      subst this; simp
    · rw [Int.emod_eq_zero_of_dvd h]; simp
  · refine ⟨by omega, by omega, fun _ => by omega, fun _ => by omega⟩
/-- tmod and tdiv against emod and ediv, for a positive divisor. -/
theorem tmod_cases {a b : Int} (hb : 0 < b) : (Int.tmod a b = a % b ∧ Int.tdiv a b = a / b ∧ (0 ≤ a ∨ a % b = 0)) ∨ (a < 0 ∧ a % b ≠ 0 ∧ Int.tmod a b = a % b - b ∧ Int.tdiv a b = a / b + 1) := by
  by_cases h : 0 ≤ a ∨ b ∣ a
  · left
    refine ⟨by rw [Int.tmod_eq_emod, if_pos h]; simp, by rw [Int.tdiv_eq_ediv, if_pos h]; simp, h.imp id Int.emod_eq_zero_of_dvd⟩
  · right
    have h' := not_or.mp h
    refine ⟨by omega, fun e => h'.2 (Int.dvd_of_emod_eq_zero e), ?_, ?_⟩
    · rw [Int.tmod_eq_emod, if_neg h]; omega
    · rw [Int.tdiv_eq_ediv, if_neg h, Int.sign_eq_one_of_pos hb]
theorem ediv_range {a b : Int} (hb : 0 < b) (h1 : -9223372036854775808 ≤ a) (h2 : a ≤ 9223372036854775807) : -9223372036854775808 ≤ a / b ∧ a / b ≤ 9223372036854775807 := by
  have e := Int.mul_ediv_add_emod a b
  have l := Int.emod_nonneg a (show b ≠ 0 by omega)
  have u := Int.emod_lt_of_pos a hb
  constructor
  · by_cases c : 0 ≤ a
    · have := Int.ediv_nonneg c (show 0 ≤ b by omega); omega
    · have : a ≤ a / b := by
        rw [Int.le_ediv_iff_mul_le hb]
        have : a * b ≤ a * 1 := Int.mul_le_mul_of_nonpos_left (by omega) (by omega)
        omega
      omega
  · by_cases c : 0 ≤ a
    · have : a / b ≤ a := Int.ediv_le_self b c
      omega
    · have : a / b ≤ 0 := by
        have : a / b < 0 := Int.ediv_neg_of_neg_of_pos (by omega) hb
        omega
      omega
/-- the remainder from 0 on, as the program computes it twice. -/
theorem mod_twice {a b : Int} (hb : 0 < b) (hb2 : b ≤ 4611686018427387904) : Int.tmod (wrap64 ((Int.tmod a b) + b)) b = a % b := by
  have hc := tmod_bounds (a := a) hb
  have h1 := Int.emod_nonneg a (show b ≠ 0 by omega)
  have h2 := Int.emod_lt_of_pos a hb
  rw [w64 (by omega) (by omega)]
  rw [tmod_pos (by omega)]
  rcases tmod_cases (a := a) hb with ⟨e, _, _⟩ | ⟨_, _, e, _⟩
  · rw [e]; simp
  · rw [e, show a % b - b + b = a % b from by omega]; simp

theorem mod_is (a b : Int) (hb : 0 < b) (hb2 : b ≤ 4611686018427387904) : ephemeriskeep1_mod.f a b = some (a % b) := by
  unfold ephemeriskeep1_mod.f
  rw [if_neg (by omega), mod_twice hb hb2]
theorem cut_is (a l n : Int) (hn : 0 < n) (hn2 : n ≤ 4611686018427387904) (h1 : -4611686018427387904 ≤ l) (h2 : l ≤ 4611686018427387904) :
    ∃ r, ephemeriskeep1_cut.f a l n = some r ∧ l ≤ r ∧ r < l + n ∧ r = l + a % n := by
  have h3 := Int.emod_nonneg a (show n ≠ 0 by omega)
  have h4 := Int.emod_lt_of_pos a hn
  refine ⟨l + a % n, ?_, by omega, by omega, rfl⟩
  unfold ephemeriskeep1_cut.f
  rw [mod_is a n hn hn2, Option.bind_some, w64 (by omega) (by omega)]

theorem div_is (k : Nat) (a b : Int) (hb : 0 < b) (h1 : -9223372036854775808 ≤ a) (h2 : a ≤ 9223372036854775807) (hb2 : b ≤ 4611686018427387904) :
    whole_Div.f (k + 1) a b = some (a / b, a % b, 0) := by
  have hj : whole_Div.j0 (k + 1) a b false = some (a / b, a % b, 0) := by
    have hm1 := Int.emod_nonneg a (show b ≠ 0 by omega)
    have hm2 := Int.emod_lt_of_pos a hb
    have hr := ediv_range hb h1 h2
    simp only [whole_Div.j0]
    rw [if_neg (by decide), if_neg (by omega)]
    rcases tmod_cases (a := a) hb with ⟨e, e', c⟩ | ⟨c, c', e, e'⟩
    · rw [e, e', w64 hr.1 hr.2]
      by_cases z : a % b = 0
      · rw [if_pos z, z]
      · rw [if_neg z, if_neg]
        have hd1 : decide (a % b < 0) = false := decide_eq_false (by omega)
        have hd2 : decide (b < 0) = false := decide_eq_false (by omega)
        rw [hd1, hd2]; decide
    · rw [e, e']
      have hr2 : a / b < 0 := Int.ediv_neg_of_neg_of_pos c hb
      rw [w64 (by omega) (by omega)]
      have hd1 : decide (a % b - b < 0) = true := decide_eq_true (by omega)
      have hd2 : decide (b < 0) = false := decide_eq_false (by omega)
      rw [if_neg (by omega), hd1, hd2, if_pos (by decide), w64 (by omega) (by omega), w64 (by omega) (by omega)]
      congr 2
      · omega
      · congr 1; omega
  unfold whole_Div.f
  rw [if_neg (by omega)]
  by_cases c : a = -9223372036854775808
  · rw [if_pos c]
    have : (b == -1) = false := beq_eq_false_iff_ne.mpr (by omega)
    rw [this]; exact hj
  · rw [if_neg c]; exact hj

theorem wmod_is (a b : Int) (hb : 0 < b) (hb2 : b ≤ 4611686018427387904) : whole_Mod.f a b = some (a % b) := by
  have hc := tmod_bounds (a := a) hb
  have h1 := Int.emod_nonneg a (show b ≠ 0 by omega)
  have h2 := Int.emod_lt_of_pos a hb
  unfold whole_Mod.f
  rw [if_neg (by omega)]
  rcases tmod_cases (a := a) hb with ⟨e, _, c⟩ | ⟨c, c', e, _⟩
  · rw [e, if_neg (by omega)]
  · rw [e, if_pos (by omega), w64 (by omega) (by omega)]
    congr 1; omega

theorem check_ok (d : Int) (h1 : -4000000 ≤ d) (h2 : d ≤ 4000000) : line_Check.f d = some 0 := by
  unfold line_Check.f
  rw [if_neg (by omega), if_neg (by omega)]
theorem check_bad (d : Int) (h : d < -4000000 ∨ 4000000 < d) : line_Check.f d = some 3 := by
  unfold line_Check.f
  by_cases c : d < -4000000
  · rw [if_pos c]
  · rw [if_neg c, if_pos (by omega)]

theorem split_ok (k : Nat) (t : Int) (h1 : -4000000 ≤ t / 86400000) (h2 : t / 86400000 ≤ 4000000) : line_Split.f (k + 1) t = some (t / 86400000, t % 86400000, 0) := by
  unfold line_Split.f
  rw [div_is k t 86400000 (by omega) (by omega) (by omega) (by omega), Option.bind_some]
  show ((line_Check.f (t / 86400000)).bind _) = _
  rw [check_ok _ h1 h2, Option.bind_some, if_pos rfl]
theorem split_bad (k : Nat) (t : Int) (hl : -9223372036854775808 ≤ t) (hu : t ≤ 9223372036854775807) (h : t / 86400000 < -4000000 ∨ 4000000 < t / 86400000) : line_Split.f (k + 1) t = some (0, 0, 3) := by
  unfold line_Split.f
  rw [div_is k t 86400000 (by omega) hl hu (by omega), Option.bind_some]
  show ((line_Check.f (t / 86400000)).bind _) = _
  rw [check_bad _ h, Option.bind_some, if_neg (by decide)]
theorem instant_ok (d m : Int) (h1 : -4000000 ≤ d) (h2 : d ≤ 4000000) (h3 : 0 ≤ m) (h4 : m < 86400000) : line_Instant.f d m = some (d * 86400000 + m, 0) := by
  unfold line_Instant.f
  rw [check_ok _ h1 h2, Option.bind_some, if_pos rfl, if_neg (by omega), if_neg (by omega), w64 (n := d * 86400000) (by omega) (by omega), w64 (by omega) (by omega)]

theorem cycle_ok (d n o : Int) (h1 : -4000000 ≤ d) (h2 : d ≤ 4000000) (h3 : 1 ≤ n) (h4 : n ≤ 2147483647) (h5 : -2147483647 ≤ o) (h6 : o ≤ 2147483647) : line_Cycle.f d n o = some ((d + o) % n, 0) := by
  unfold line_Cycle.f
  rw [check_ok _ h1 h2, Option.bind_some, if_pos rfl, if_neg (by omega), if_neg (by omega), if_neg (by omega), if_neg (by omega), w64 (by omega) (by omega), wmod_is _ _ (by omega) (by omega), Option.bind_some]

theorem succ_mod (a n : Int) (hn : 0 < n) : ((a + 1) % n = a % n + 1 ∧ a % n + 1 < n) ∨ ((a + 1) % n = 0 ∧ a % n = n - 1) := by
  have h1 := Int.emod_nonneg a (show n ≠ 0 by omega)
  have h2 := Int.emod_lt_of_pos a hn
  rw [Int.add_emod]
  by_cases c : n = 1
  · subst c; right; omega
  · rw [show (1 : Int) % n = 1 from Int.emod_eq_of_lt (by omega) (by omega)]
    by_cases c2 : a % n + 1 = n
    · right; rw [c2]; exact ⟨by simp, by omega⟩
    · left; rw [Int.emod_eq_of_lt (by omega) (by omega)]; omega
theorem LineSplits : ephemeriskeep1_LineSplits.Pure := by
  intro a b c d ha hb hc hd
  refine ⟨4, ?_⟩
  obtain ⟨x, ex, x1, x2, -⟩ := cut_is a (-3999999) 7999998 (by omega) (by omega) (by omega) (by omega)
  obtain ⟨y, ey, y1, y2, -⟩ := cut_is b 0 86400000 (by omega) (by omega) (by omega) (by omega)
  obtain ⟨n, en, n1, n2, -⟩ := cut_is c 1 100000 (by omega) (by omega) (by omega) (by omega)
  obtain ⟨o, eo, o1, o2, -⟩ := cut_is d (-100000) 200001 (by omega) (by omega) (by omega) (by omega)
  unfold ephemeriskeep1_LineSplits.f
  rw [split_ok 3 (-1) (by omega) (by omega)]
  simp only [Option.bind_some, ephemeriskeep1_LineSplits.j0]
  rw [if_pos (by omega), if_pos (by omega), if_neg (by decide), ex]
  simp only [Option.bind_some]
  rw [ey]; simp only [Option.bind_some]
  rw [en]; simp only [Option.bind_some]
  rw [eo]; simp only [Option.bind_some]
  rw [instant_ok x y (by omega) (by omega) (by omega) (by omega)]; simp only [Option.bind_some]
  rw [split_ok 2 (x * 86400000 + y) (by omega) (by omega)]; simp only [Option.bind_some, ephemeriskeep1_LineSplits.j1]
  rw [if_pos trivial, if_pos (by omega), show (x * 86400000 + y) % 86400000 = y from by omega, if_neg (by simp), cycle_ok x n o (by omega) (by omega) (by omega) (by omega) (by omega) (by omega)]
  simp only [Option.bind_some]
  rw [w64 (by omega) (by omega), cycle_ok (x + 1) n o (by omega) (by omega) (by omega) (by omega) (by omega) (by omega)]
  simp only [Option.bind_some]
  have h1 := Int.emod_nonneg (x + o) (show n ≠ 0 by omega)
  have h2 := Int.emod_lt_of_pos (x + o) (show 0 < n by omega)
  rw [if_pos trivial, w64 (by omega) (by omega), w64 (by omega) (by omega), show x + 1 + o = x + o + 1 from by omega]
  rcases succ_mod (x + o) n (by omega) with ⟨e, f⟩ | ⟨e, f⟩
  · rw [e, if_pos rfl, if_pos f]
  · rw [e]
    by_cases z : 0 = (x + o) % n + 1
    · omega
    · rw [if_neg z, if_pos rfl, f]; simp

end Go.Proofs.Ytboddbgmgcjppaa.Pure
