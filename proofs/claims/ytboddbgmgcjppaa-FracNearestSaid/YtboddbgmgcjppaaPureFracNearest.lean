/- FracNearest: Near finds a nearest fraction, over plain values. -/
import Derived.Test.YtboddbgmgcjppaaQFracNearestx15
import Derived.Test.YtboddbgmgcjppaaStmtFracNearest
import Derived.Laws.Bits64b
import Derived.Laws.BitsAllLaws
set_option linter.unusedVariables false
set_option linter.unusedSimpArgs false
namespace Go.Proofs.Ytboddbgmgcjppaa.Pure
open Go.RowKit Go.Proofs.Ytboddbgmgcjppaa.QFracNearest Go.Proofs.YtboddbgmgcjppaaW.PrintWords Go.Proofs.YtboddbgmgcjppaaW.PrintLast

theorem lit64 {a : Int} (h : (Go.Lit.int .i64 a).wf = true) : -9223372036854775808 ≤ a ∧ a ≤ 9223372036854775807 := by
  simp only [Go.Lit.wf, Bool.and_eq_true, decide_eq_true_eq] at h
  have h1 : Go.IntKind.i64.min = -9223372036854775808 := by decide
  have h2 : Go.IntKind.i64.max = 9223372036854775807 := by decide
  omega
theorem w64 {n : Int} (h1 : -9223372036854775808 ≤ n) (h2 : n ≤ 9223372036854775807) : wrap64 n = n := by unfold wrap64; omega
theorem w64r (n : Int) : -9223372036854775808 ≤ wrap64 n ∧ wrap64 n ≤ 9223372036854775807 := by unfold wrap64; omega
theorem tmod_pos {a b : Int} (ha : 0 ≤ a) : Int.tmod a b = a % b := by rw [Int.tmod_eq_emod, if_pos (Or.inl ha)]; simp
theorem tdiv_pos {a b : Int} (ha : 0 ≤ a) : Int.tdiv a b = a / b := by rw [Int.tdiv_eq_ediv, if_pos (Or.inl ha)]; simp
theorem tmod_bounds {a b : Int} (hb : 0 < b) : -b < Int.tmod a b ∧ Int.tmod a b < b ∧ (0 ≤ a → 0 ≤ Int.tmod a b) ∧ (a ≤ 0 → Int.tmod a b ≤ 0) := by
  rw [Int.tmod_eq_emod]
  have h1 := Int.emod_nonneg a (show b ≠ 0 by omega)
  have h2 := Int.emod_lt_of_pos a hb
  split
  · rename_i h
    refine ⟨by omega, by omega, fun _ => by omega, fun h0 => ?_⟩
    rcases h with h | h
    · have : a = 0 := by omega
      subst this; simp
    · rw [Int.emod_eq_zero_of_dvd h]; simp
  · refine ⟨by omega, by omega, fun _ => by omega, fun _ => by omega⟩
/-- tmod and tdiv against emod and ediv, for a positive divisor. -/
theorem tmod_cases {a b : Int} (hb : 0 < b) : (Int.tmod a b = a % b ∧ Int.tdiv a b = a / b ∧ (0 ≤ a ∨ a % b = 0)) ∨ (a < 0 ∧ a % b ≠ 0 ∧ Int.tmod a b = a % b - b ∧ Int.tdiv a b = a / b + 1) := by
  by_cases h : 0 ≤ a ∨ b ∣ a
  · left
    refine ⟨by rw [Int.tmod_eq_emod, if_pos h]; simp, by rw [Int.tdiv_eq_ediv, if_pos h]; simp, h.imp id Int.emod_eq_zero_of_dvd⟩
  · right
    have h' := not_or.mp h
    refine ⟨by omega, fun e => h'.2 (Int.dvd_of_emod_eq_zero e), ?_, ?_⟩
    · rw [Int.tmod_eq_emod, if_neg h]; omega
    · rw [Int.tdiv_eq_ediv, if_neg h, Int.sign_eq_one_of_pos hb]
theorem ediv_range {a b : Int} (hb : 0 < b) (h1 : -9223372036854775808 ≤ a) (h2 : a ≤ 9223372036854775807) : -9223372036854775808 ≤ a / b ∧ a / b ≤ 9223372036854775807 := by
  have e := Int.mul_ediv_add_emod a b
  have l := Int.emod_nonneg a (show b ≠ 0 by omega)
  have u := Int.emod_lt_of_pos a hb
  constructor
  · by_cases c : 0 ≤ a
    · have := Int.ediv_nonneg c (show 0 ≤ b by omega); omega
    · have : a ≤ a / b := by
        rw [Int.le_ediv_iff_mul_le hb]
        have : a * b ≤ a * 1 := Int.mul_le_mul_of_nonpos_left (by omega) (by omega)
        omega
      omega
  · by_cases c : 0 ≤ a
    · have : a / b ≤ a := Int.ediv_le_self b c
      omega
    · have : a / b ≤ 0 := by
        have : a / b < 0 := Int.ediv_neg_of_neg_of_pos (by omega) hb
        omega
      omega
/-- the remainder from 0 on, as the program computes it twice. -/
theorem mod_twice {a b : Int} (hb : 0 < b) (hb2 : b ≤ 4611686018427387904) : Int.tmod (wrap64 ((Int.tmod a b) + b)) b = a % b := by
  have hc := tmod_bounds (a := a) hb
  have h1 := Int.emod_nonneg a (show b ≠ 0 by omega)
  have h2 := Int.emod_lt_of_pos a hb
  rw [w64 (by omega) (by omega)]
  rw [tmod_pos (by omega)]
  rcases tmod_cases (a := a) hb with ⟨e, _, _⟩ | ⟨_, _, e, _⟩
  · rw [e]; simp
  · rw [e, show a % b - b + b = a % b from by omega]; simp

theorem mod_is (a b : Int) (hb : 0 < b) (hb2 : b ≤ 4611686018427387904) : ephemeriskeep1_mod.f a b = some (a % b) := by
  unfold ephemeriskeep1_mod.f
  rw [if_neg (by omega), mod_twice hb hb2]
theorem cut_is (a l n : Int) (hn : 0 < n) (hn2 : n ≤ 4611686018427387904) (h1 : -4611686018427387904 ≤ l) (h2 : l ≤ 4611686018427387904) :
    ∃ r, ephemeriskeep1_cut.f a l n = some r ∧ l ≤ r ∧ r < l + n ∧ r = l + a % n := by
  have h3 := Int.emod_nonneg a (show n ≠ 0 by omega)
  have h4 := Int.emod_lt_of_pos a hn
  refine ⟨l + a % n, ?_, by omega, by omega, rfl⟩
  unfold ephemeriskeep1_cut.f
  rw [mod_is a n hn hn2, Option.bind_some, w64 (by omega) (by omega)]

theorem u64_small {a : Int} (h1 : 0 ≤ a) (h2 : a ≤ 9223372036854775807) : Go.IntKind.u64.wrap a = a := by
  rw [show Go.IntKind.u64.wrap a = a % 18446744073709551616 from by simp [Go.IntKind.wrap, Go.IntKind.signed, Go.IntKind.bits]]
  omega
theorem size_is (a : Int) (h1 : 0 ≤ a) (h2 : a ≤ 9223372036854775807) : whole_size.f a = some a := by
  unfold whole_size.f
  rw [if_neg (by omega), u64_small h1 h2]
theorem gcd_step (x y : Int) (hx : 0 ≤ x) (hy : 0 < y) : Int.gcd y (x % y) = Int.gcd x y := by
  obtain ⟨m, rfl⟩ := Int.eq_ofNat_of_zero_le hx
  obtain ⟨n, rfl⟩ := Int.eq_ofNat_of_zero_le (show 0 ≤ y by omega)
  rw [← Int.natCast_emod]
  simp only [Int.gcd_natCast_natCast]
  rw [Nat.gcd_comm m n, Nat.gcd_comm n (m % n), ← Nat.gcd_rec]
theorem gcd_loop (d : Nat) : ∀ (k : Nat) (x y : Int), 0 ≤ x → x ≤ 9223372036854775807 → 0 ≤ y → y ≤ 9223372036854775807 → y ≤ d → d < k → whole_Gcd.l0 k x y = some ((Int.gcd x y : Int), 0) := by
  have fin : ∀ (k : Nat) (x : Int), 0 ≤ x → x ≤ 9223372036854775807 → whole_Gcd.l0 (k + 1) x 0 = some ((Int.gcd x 0 : Int), 0) := by
    intro k x h0 h1
    simp only [whole_Gcd.l0]
    rw [if_pos trivial, if_neg (by omega), w64 (by omega) h1]
    congr 2
    simp [Int.gcd]; omega
  induction d with
  | zero =>
    intro k x y h0 h1 h2 h4 h3 hk
    obtain ⟨k, rfl⟩ : ∃ m, k = m + 1 := ⟨k - 1, by omega⟩
    obtain rfl : y = 0 := by omega
    exact fin k x h0 h1
  | succ d ih =>
    intro k x y h0 h1 h2 h4 h3 hk
    obtain ⟨k, rfl⟩ : ∃ m, k = m + 1 := ⟨k - 1, by omega⟩
    by_cases z : y = 0
    · subst z
      exact fin k x h0 h1
    · have l := Int.emod_nonneg x z
      have u := Int.emod_lt_of_pos x (show 0 < y by omega)
      simp only [whole_Gcd.l0]
      rw [if_neg z, tmod_pos h0, ih k y (x % y) h2 h4 l (by omega) (by omega) (by omega), gcd_step x y h0 (by omega)]

theorem size_any (a : Int) (h1 : -9223372036854775807 ≤ a) (h2 : a ≤ 9223372036854775807) : whole_size.f a = some (a.natAbs : Int) := by
  unfold whole_size.f
  have e : ∀ x : Int, Go.IntKind.u64.wrap x = x % 18446744073709551616 := fun x => by simp [Go.IntKind.wrap, Go.IntKind.signed, Go.IntKind.bits]
  rw [e, e]
  by_cases c : a < 0
  · rw [if_pos c]; congr 1; omega
  · rw [if_neg c]; congr 1; omega
theorem wgcd_is (k : Nat) (a b : Int) (ha1 : -9223372036854775807 ≤ a) (ha2 : a ≤ 9223372036854775807) (hb1 : -9223372036854775807 ≤ b) (hb2 : b ≤ 9223372036854775807) (hk : b.natAbs < k) :
    whole_Gcd.f k a b = some ((Int.gcd a b : Int), 0) := by
  unfold whole_Gcd.f
  rw [size_any a ha1 ha2, Option.bind_some, size_any b hb1 hb2, Option.bind_some, gcd_loop b.natAbs k _ _ (by omega) (by omega) (by omega) (by omega) (by omega) hk]
  simp [Int.gcd]

theorem dvd_cop {q a b : Int} (h : q ∣ a * b) (hc : Int.gcd q a = 1) : q ∣ b := by
  have h1 : q.natAbs ∣ a.natAbs * b.natAbs := by rw [← Int.natAbs_mul]; exact Int.natAbs_dvd_natAbs.mpr h
  exact Int.natAbs_dvd_natAbs.mp (Nat.Coprime.dvd_of_dvd_mul_left (show Nat.Coprime q.natAbs a.natAbs from hc) h1)

theorem div_is (k : Nat) (a b : Int) (hb : 0 < b) (h1 : -9223372036854775808 ≤ a) (h2 : a ≤ 9223372036854775807) (hb2 : b ≤ 4611686018427387904) :
    whole_Div.f (k + 1) a b = some (a / b, a % b, 0) := by
  have hj : whole_Div.j0 (k + 1) a b false = some (a / b, a % b, 0) := by
    have hm1 := Int.emod_nonneg a (show b ≠ 0 by omega)
    have hm2 := Int.emod_lt_of_pos a hb
    have hr := ediv_range hb h1 h2
    simp only [whole_Div.j0]
    rw [if_neg (by decide), if_neg (by omega)]
    rcases tmod_cases (a := a) hb with ⟨e, e', c⟩ | ⟨c, c', e, e'⟩
    · rw [e, e', w64 hr.1 hr.2]
      by_cases z : a % b = 0
      · rw [if_pos z, z]
      · rw [if_neg z, if_neg]
        have hd1 : decide (a % b < 0) = false := decide_eq_false (by omega)
        have hd2 : decide (b < 0) = false := decide_eq_false (by omega)
        rw [hd1, hd2]; decide
    · rw [e, e']
      have hr2 : a / b < 0 := Int.ediv_neg_of_neg_of_pos c hb
      rw [w64 (by omega) (by omega)]
      have hd1 : decide (a % b - b < 0) = true := decide_eq_true (by omega)
      have hd2 : decide (b < 0) = false := decide_eq_false (by omega)
      rw [if_neg (by omega), hd1, hd2, if_pos (by decide), w64 (by omega) (by omega), w64 (by omega) (by omega)]
      congr 2
      · omega
      · congr 1; omega
  unfold whole_Div.f
  rw [if_neg (by omega)]
  by_cases c : a = -9223372036854775808
  · rw [if_pos c]
    have : (b == -1) = false := beq_eq_false_iff_ne.mpr (by omega)
    rw [this]; exact hj
  · rw [if_neg c]; exact hj

theorem fsize_any (a : Int) (h1 : -9223372036854775807 ≤ a) (h2 : a ≤ 9223372036854775807) : frac_size.f a = some (a.natAbs : Int) := by
  unfold frac_size.f
  have e : ∀ x : Int, Go.IntKind.u64.wrap x = x % 18446744073709551616 := fun x => by simp [Go.IntKind.wrap, Go.IntKind.signed, Go.IntKind.bits]
  rw [e, e]
  by_cases c : a < 0
  · rw [if_pos c]; congr 1; omega
  · rw [if_neg c]; congr 1; omega
theorem low_loop (m : Bool) (n dd : Int) (hn0 : 0 ≤ n) (hn1 : n ≤ 9223372036854775807) (hd0 : 0 ≤ dd) (hd1 : dd ≤ 9223372036854775807) (d : Nat) :
    ∀ (k : Nat) (a b : Int), 0 ≤ a → 0 ≤ b → b ≤ d → d + 1 < k → 0 < Int.gcd a b → n / (Int.gcd a b : Int) ≤ 2147483647 → dd / (Int.gcd a b : Int) ≤ 2147483647 →
      frac_lowest.l0 k m n dd a b = some (if m = true then -(n / (Int.gcd a b : Int)) else n / (Int.gcd a b : Int), dd / (Int.gcd a b : Int), 0) := by
  have fin : ∀ (k : Nat) (a : Int), 0 < a → n / a ≤ 2147483647 → dd / a ≤ 2147483647 → frac_lowest.l0 (k + 2) m n dd a 0 = some (if m = true then -(n / a) else n / a, dd / a, 0) := by
    intro k a h0 h1 h2
    have q1 : 0 ≤ n / a := Int.ediv_nonneg hn0 (by omega)
    have q2 : 0 ≤ dd / a := Int.ediv_nonneg hd0 (by omega)
    simp only [frac_lowest.l0]
    rw [if_pos trivial, if_neg (by omega), tdiv_pos hn0, tdiv_pos hd0, u64_small q1 (by omega), u64_small q2 (by omega), if_neg (by omega), decide_eq_false (by omega)]
    simp only [frac_lowest.j1]
    rw [if_neg (by decide), w64 (n := n / a) (by omega) (by omega), w64 (n := dd / a) (by omega) (by omega), w64 (n := -(n / a)) (by omega) (by omega)]
    split <;> rfl
  have step : ∀ (k : Nat) (a b : Int), b ≠ 0 → 0 ≤ a → frac_lowest.l0 (k + 1) m n dd a b = frac_lowest.l0 k m n dd b (a % b) := by
    intro k a b hb ha
    simp only [frac_lowest.l0]
    rw [if_neg hb, tmod_pos ha]
  have g0 : ∀ a : Int, 0 ≤ a → (Int.gcd a 0 : Int) = a := fun a h => by simp [Int.gcd]; omega
  induction d with
  | zero =>
    intro k a b h0 h2 h3 hk hg q1 q2
    obtain ⟨k, rfl⟩ : ∃ q, k = q + 2 := ⟨k - 2, by omega⟩
    obtain rfl : b = 0 := by omega
    have e := g0 a h0
    rw [e] at q1 q2 ⊢
    exact fin k a (by omega) q1 q2
  | succ d ih =>
    intro k a b h0 h2 h3 hk hg q1 q2
    obtain ⟨k, rfl⟩ : ∃ q, k = q + 2 := ⟨k - 2, by omega⟩
    by_cases z : b = 0
    · subst z
      have e := g0 a h0
      rw [e] at q1 q2 ⊢
      exact fin k a (by omega) q1 q2
    · have l := Int.emod_nonneg a z
      have u := Int.emod_lt_of_pos a (show 0 < b by omega)
      have e := gcd_step a b h0 (by omega)
      have i := ih (k + 1) b (a % b) h2 l (by omega) (by omega) (by rw [e]; exact hg) (by rw [e]; exact q1) (by rw [e]; exact q2)
      rw [e] at i
      rw [step (k + 1) a b z h0]
      exact i
/-- The fraction p / q is n / d in lowest terms. -/
structure IsF (p q n d : Int) : Prop where
  pos : 1 ≤ q
  cop : Int.gcd p q = 1
  eq : p * d = n * q
  le : p.natAbs ≤ n.natAbs
  leq : q ≤ d.natAbs
theorem of_is (k : Nat) (n d : Int) (hd : d ≠ 0) (hn1 : -9223372036854775807 ≤ n) (hn2 : n ≤ 9223372036854775807) (hd1 : -9223372036854775807 ≤ d) (hd2 : d ≤ 9223372036854775807) (hk : d.natAbs + 1 < k)
    (q1 : n.natAbs / Int.gcd n d ≤ 2147483647) (q2 : d.natAbs / Int.gcd n d ≤ 2147483647) : ∃ p q, frac_Of.f k n d = some (p, q, 0) ∧ IsF p q n d := by
  have g0 : 0 < Int.gcd n d := Int.gcd_pos_of_ne_zero_right n hd
  have gn : (Int.gcd n d) ∣ n.natAbs := Nat.gcd_dvd_left ..
  have gd : (Int.gcd n d) ∣ d.natAbs := Nat.gcd_dvd_right ..
  have eg : Int.gcd (n.natAbs : Int) (d.natAbs : Int) = Int.gcd n d := by simp [Int.gcd]
  have key : ∀ m : Bool, frac_lowest.f k m (n.natAbs : Int) (d.natAbs : Int) = some (if m = true then -((n.natAbs / Int.gcd n d : Nat) : Int) else ((n.natAbs / Int.gcd n d : Nat) : Int), ((d.natAbs / Int.gcd n d : Nat) : Int), 0) := by
    intro m
    unfold frac_lowest.f
    rw [low_loop m n.natAbs d.natAbs (by omega) (by omega) (by omega) (by omega) d.natAbs k _ _ (by omega) (by omega) (by omega) hk (by rw [eg]; exact g0) (by rw [eg]; omega) (by rw [eg]; omega), eg]
    simp only [Int.natCast_ediv]
  have hq0 : 0 < d.natAbs / Int.gcd n d := Nat.div_pos (Nat.le_of_dvd (by omega) gd) g0
  have cop : Nat.gcd (n.natAbs / Int.gcd n d) (d.natAbs / Int.gcd n d) = 1 := Nat.coprime_div_gcd_div_gcd (by simpa [Int.gcd] using g0)
  have em : (n.natAbs / Int.gcd n d) * d.natAbs = n.natAbs * (d.natAbs / Int.gcd n d) := by
    obtain ⟨x, hx⟩ := gn
    obtain ⟨y, hy⟩ := gd
    have e1 : n.natAbs / Int.gcd n d = x := by rw [hx]; exact Nat.mul_div_cancel_left x g0
    have e2 : d.natAbs / Int.gcd n d = y := by rw [hy]; exact Nat.mul_div_cancel_left y g0
    rw [e1, e2]
    generalize Int.gcd n d = g at *
    rw [hx, hy]; ac_rfl
  have lp := Nat.div_le_self n.natAbs (Int.gcd n d)
  have lq := Nat.div_le_self d.natAbs (Int.gcd n d)
  generalize hp : n.natAbs / Int.gcd n d = P at *
  generalize hq : d.natAbs / Int.gcd n d = Q at *
  have em2 : (P : Int) * (d.natAbs : Int) = (n.natAbs : Int) * (Q : Int) := by exact_mod_cast em
  have keyT : frac_lowest.f k true (n.natAbs : Int) (d.natAbs : Int) = some (-(P : Int), (Q : Int), 0) := by rw [key]; simp
  have keyF : frac_lowest.f k false (n.natAbs : Int) (d.natAbs : Int) = some ((P : Int), (Q : Int), 0) := by rw [key]; simp
  clear key
  unfold frac_Of.f
  rw [if_neg hd, fsize_any n hn1 hn2, fsize_any d hd1 hd2]
  simp only [Option.bind_some]
  have mk : ∀ s : Int, (s = P ∧ s * d = n * Q ∨ s = -P ∧ s * d = n * Q) → IsF s Q n d := by
    rintro s (⟨rfl, e⟩ | ⟨rfl, e⟩)
    · exact ⟨by omega, by simpa [Int.gcd] using cop, e, by simpa using lp, by omega⟩
    · exact ⟨by omega, by simpa [Int.gcd] using cop, e, by simpa using lp, by omega⟩
  by_cases cn : n < 0 <;> by_cases cd : d < 0
  · rw [decide_eq_true cn, decide_eq_true cd, if_neg (by decide), keyF]
    refine ⟨_, _, rfl, mk _ (.inl ⟨rfl, ?_⟩)⟩
    rw [show (d.natAbs : Int) = -d from by omega, show (n.natAbs : Int) = -n from by omega] at em2
    simp only [Int.mul_neg, Int.neg_mul] at em2
    show (P : Int) * d = n * Q
    omega
  · rw [decide_eq_true cn, decide_eq_false cd, if_pos (by decide), show (n != 0) = true from bne_iff_ne.mpr (by omega), keyT]
    refine ⟨_, _, rfl, mk _ (.inr ⟨rfl, ?_⟩)⟩
    rw [show (d.natAbs : Int) = d from by omega, show (n.natAbs : Int) = -n from by omega] at em2
    simp only [Int.neg_mul] at em2
    rw [Int.neg_mul]
    omega
  · rw [decide_eq_false cn, decide_eq_true cd, if_pos (by decide)]
    rw [show (d.natAbs : Int) = -d from by omega, show (n.natAbs : Int) = n from by omega] at em2
    simp only [Int.mul_neg] at em2
    by_cases z : n = 0
    · subst z
      have hP : P = 0 := by simp at hp; omega
      rw [show ((0 : Int) != 0) = false from rfl, keyF]
      refine ⟨_, _, rfl, mk _ (.inl ⟨rfl, ?_⟩)⟩
      show (P : Int) * d = 0 * Q
      rw [hP]; simp
    · rw [show (n != 0) = true from bne_iff_ne.mpr z, keyT]
      refine ⟨_, _, rfl, mk _ (.inr ⟨rfl, ?_⟩)⟩
      rw [Int.neg_mul]
      omega
  · rw [decide_eq_false cn, decide_eq_false cd, if_neg (by decide), keyF]
    refine ⟨_, _, rfl, mk _ (.inl ⟨rfl, ?_⟩)⟩
    rw [show (d.natAbs : Int) = d from by omega, show (n.natAbs : Int) = n from by omega] at em2
    exact em2
/-- Two fractions in lowest terms that are equal are the same. -/
theorem frac_unique {p q p' q' : Int} (hq : 1 ≤ q) (hq' : 1 ≤ q') (h : Int.gcd p q = 1) (h' : Int.gcd p' q' = 1) (e : p * q' = p' * q) : p = p' ∧ q = q' := by
  have d1 : q ∣ q' := by
    have : q ∣ p * q' := by rw [e]; exact Int.dvd_mul_left ..
    exact dvd_cop this (by rw [Int.gcd_comm]; exact h)
  have d2 : q' ∣ q := by
    have : q' ∣ p' * q := by rw [← e]; exact Int.dvd_mul_left ..
    exact dvd_cop this (by rw [Int.gcd_comm]; exact h')
  have hqq : q = q' := Int.le_antisymm (Int.le_of_dvd (by omega) d1) (Int.le_of_dvd (by omega) d2)
  subst hqq
  exact ⟨Int.eq_of_mul_eq_mul_right (by omega) e, rfl⟩
theorem fcheck_ok (k : Nat) (p q : Int) (h1 : 1 ≤ q) (h2 : q ≤ 2147483647) (h3 : -2147483647 ≤ p) (h4 : p ≤ 2147483647) (hg : Int.gcd p q = 1) (hk : q + 1 < k) : frac_Check.f k p q = some 0 := by
  obtain ⟨k, rfl⟩ : ∃ j, k = j + 1 := ⟨k - 1, by omega⟩
  unfold frac_Check.f
  rw [if_neg (by omega), if_neg (by omega), if_neg (by omega), decide_eq_false (by omega)]
  simp only [frac_Check.j0]
  rw [if_neg (by decide), wgcd_is k p q (by omega) (by omega) (by omega) (by omega) (by omega), hg]
  simp only [Option.bind_some]
  rw [if_pos (by decide)]
theorem both_ok (k : Nat) (p q p' q' : Int) (h1 : 1 ≤ q) (h2 : q ≤ 2147483647) (h3 : -2147483647 ≤ p) (h4 : p ≤ 2147483647) (hg : Int.gcd p q = 1) (hk : q + 1 < k)
    (h1' : 1 ≤ q') (h2' : q' ≤ 2147483647) (h3' : -2147483647 ≤ p') (h4' : p' ≤ 2147483647) (hg' : Int.gcd p' q' = 1) (hk' : q' + 1 < k) : frac_both.f k p q p' q' = some 0 := by
  unfold frac_both.f
  rw [fcheck_ok k p q h1 h2 h3 h4 hg hk]
  simp only [Option.bind_some]
  rw [if_pos trivial, fcheck_ok k p' q' h1' h2' h3' h4' hg' hk']
  simp only [Option.bind_some]
/-- A fraction that is small enough: |p| at most A, q at most B. -/
structure Sm (p q A B : Int) : Prop where
  q1 : 1 ≤ q
  qB : q ≤ B
  pl : -A ≤ p
  pu : p ≤ A
  g : Int.gcd p q = 1
theorem Sm.mk_of {p q n d A B : Int} (h : IsF p q n d) (hA : (n.natAbs : Int) ≤ A) (hB : (d.natAbs : Int) ≤ B) : Sm p q A B := ⟨h.pos, by have := h.leq; omega, by have := h.le; omega, by have := h.le; omega, h.cop⟩
theorem mul_bd {a b A B : Int} (h1 : -A ≤ a) (h2 : a ≤ A) (h3 : -B ≤ b) (h4 : b ≤ B) : -(A * B) ≤ a * b ∧ a * b ≤ A * B := by
  have e : ((a * b).natAbs : Int) = (a.natAbs : Int) * (b.natAbs : Int) := by rw [Int.natAbs_mul]; simp
  have : (a.natAbs : Int) * (b.natAbs : Int) ≤ A * B := Int.mul_le_mul (by omega) (by omega) (by omega) (by omega)
  omega
theorem of_sm (k : Nat) (n d A B : Int) (hd : d ≠ 0) (hA : (n.natAbs : Int) ≤ A) (hB : (d.natAbs : Int) ≤ B) (hA2 : A ≤ 2147483647) (hB2 : B ≤ 2147483647) (hk : B + 1 < k) :
    ∃ p q, frac_Of.f k n d = some (p, q, 0) ∧ IsF p q n d ∧ Sm p q A B := by
  have l1 := Nat.div_le_self n.natAbs (Int.gcd n d)
  have l2 := Nat.div_le_self d.natAbs (Int.gcd n d)
  obtain ⟨p, q, e, h⟩ := of_is k n d hd (by omega) (by omega) (by omega) (by omega) (by omega) (by omega) (by omega)
  exact ⟨p, q, e, h, Sm.mk_of h hA hB⟩

theorem sub_sm (k : Nat) {a b c d A B C D : Int} (hx : Sm a b A B) (hy : Sm c d C D) (h1 : A * D + C * B ≤ 2147483647) (h2 : B * D ≤ 2147483647) (hA : 1 ≤ A) (hC : 1 ≤ C) (hk : B * D + 1 < k) (hk1 : B + 1 < k) (hk2 : D + 1 < k) (hA3 : A ≤ 2147483647) (hB3 : B ≤ 2147483647) (hC3 : C ≤ 2147483647) (hD3 : D ≤ 2147483647) :
    ∃ p q, frac_Sub.f k a b c d = some (p, q, 0) ∧ IsF p q (a * d - c * b) (b * d) ∧ Sm p q (A * D + C * B) (B * D) := by
  obtain ⟨x1, x2, x3, x4, xg⟩ := hx
  obtain ⟨y1, y2, y3, y4, yg⟩ := hy
  have m1 := mul_bd x3 x4 (show -D ≤ d by omega) y2
  have m2 := mul_bd y3 y4 (show -B ≤ b by omega) x2
  have m3 := mul_bd (show -B ≤ b by omega) x2 (show -D ≤ d by omega) y2
  have m4 : 0 < b * d := Int.mul_pos (by omega) (by omega)
  obtain ⟨p, q, e, h, s⟩ := of_sm k (a * d - c * b) (b * d) (A * D + C * B) (B * D) (by omega) (by omega) (by omega) h1 h2 hk
  refine ⟨p, q, ?_, h, s⟩
  unfold frac_Sub.f
  rw [both_ok k a b c d x1 (by omega) (by omega) (by omega) xg (by omega) y1 (by omega) (by omega) (by omega) yg (by omega)]
  simp only [Option.bind_some]
  rw [if_pos trivial, w64 (n := a * d) (by omega) (by omega), w64 (n := c * b) (by omega) (by omega), w64 (by omega) (by omega), w64 (n := b * d) (by omega) (by omega), e]
  simp only [Option.bind_some]

/-- With enough rounds. -/
def Ev (p : Nat → Prop) : Prop := ∃ K, ∀ k, K ≤ k → p k
theorem Ev.of {p : Nat → Prop} (h : ∀ k, p k) : Ev p := ⟨0, fun k _ => h k⟩
theorem Ev.and {p q : Nat → Prop} (h : Ev p) (g : Ev q) : Ev (fun k => p k ∧ q k) := by
  obtain ⟨K, hK⟩ := h
  obtain ⟨L, hL⟩ := g
  exact ⟨max K L, fun k hk => ⟨hK k (by omega), hL k (by omega)⟩⟩
theorem Ev.imp {p q : Nat → Prop} (h : Ev p) (g : ∀ k, p k → q k) : Ev q := by
  obtain ⟨K, hK⟩ := h
  exact ⟨K, fun k hk => g k (hK k hk)⟩
/-- One round more. -/
theorem Ev.up {p q : Nat → Prop} (h : Ev p) (g : ∀ k, p k → q (k + 1)) : Ev q := by
  obtain ⟨K, hK⟩ := h
  refine ⟨K + 1, fun k hk => ?_⟩
  obtain ⟨j, rfl⟩ : ∃ j, k = j + 1 := ⟨k - 1, by omega⟩
  exact g j (hK j (by omega))
theorem Ev.up0 {q : Nat → Prop} (g : ∀ k, q (k + 1)) : Ev q := Ev.up (p := fun _ => True) (Ev.of fun _ => trivial) (fun k _ => g k)
theorem Ev.ex {p : Nat → Prop} (h : Ev p) : ∃ k, p k := by
  obtain ⟨K, hK⟩ := h
  exact ⟨K, hK K (Nat.le_refl _)⟩
theorem Ev.mono {α : Type} {g : Nat → Option α} (hm : ∀ k, LeO (g k) (g (k + 1))) {k : Nat} {r : α} (h : g k = some r) : Ev (fun k => g k = some r) := by
  refine ⟨k, fun j hj => ?_⟩
  obtain ⟨d, rfl⟩ : ∃ d, j = k + d := ⟨j - k, by omega⟩
  clear hj
  induction d with
  | zero => exact h
  | succ d ih => exact hm _ _ ih
/-- Whatever the answer is, it is there with enough rounds. -/
def Tot {α : Type} (g : Nat → Option α) : Prop := ∃ t, Ev (fun k => g k = some t)
theorem tot_some {α : Type} (v : α) : Tot (fun _ => some v) := ⟨v, Ev.of fun _ => rfl⟩
theorem tot_ite {α : Type} {c : Prop} [Decidable c] {a b : Nat → Option α} (h : c → Tot a) (g : ¬ c → Tot b) : Tot (fun k => if c then a k else b k) := by
  by_cases z : c
  · obtain ⟨t, ht⟩ := h z
    exact ⟨t, ht.imp fun k hk => by show (if c then a k else b k) = some t; rw [if_pos z]; exact hk⟩
  · obtain ⟨t, ht⟩ := g z
    exact ⟨t, ht.imp fun k hk => by show (if c then a k else b k) = some t; rw [if_neg z]; exact hk⟩
theorem tot_bind {α β : Type} {a : Nat → Option α} {b : Nat → α → Option β} (h : Tot a) (g : ∀ x, Ev (fun k => a k = some x) → Tot (fun k => b k x)) : Tot (fun k => (a k).bind (b k)) := by
  obtain ⟨x, hx⟩ := h
  obtain ⟨t, ht⟩ := g x hx
  exact ⟨t, (hx.and ht).imp fun k hk => by show (a k).bind (b k) = some t; rw [hk.1]; exact hk.2⟩
theorem tot_up {α : Type} {a : Nat → Option α} (h : Tot (fun k => a (k + 1))) : Tot a := by
  obtain ⟨t, ht⟩ := h
  exact ⟨t, ht.up fun k hk => hk⟩
theorem Ev.inj {α : Type} {g : Nat → Option α} {s t : α} (h : Ev (fun k => g k = some s)) (h' : Ev (fun k => g k = some t)) : s = t := by
  obtain ⟨k, a, b⟩ := (h.and h').ex
  exact Option.some.inj (a.symm.trans b)
theorem Ev.ite_pos {α : Type} {c : Prop} [Decidable c] {a b : Nat → Option α} {t : α} (hc : c) (h : Ev (fun k => a k = some t)) : Ev (fun k => (if c then a k else b k) = some t) := h.imp fun k hk => by rw [if_pos hc]; exact hk
theorem Ev.ite_neg {α : Type} {c : Prop} [Decidable c] {a b : Nat → Option α} {t : α} (hc : ¬ c) (h : Ev (fun k => b k = some t)) : Ev (fun k => (if c then a k else b k) = some t) := h.imp fun k hk => by rw [if_neg hc]; exact hk
theorem Ev.bind {α β : Type} {a : Nat → Option α} {b : Nat → α → Option β} {x : α} {t : β} (h : Ev (fun k => a k = some x)) (g : Ev (fun k => b k x = some t)) : Ev (fun k => (a k).bind (b k) = some t) := (h.and g).imp fun k hk => by rw [hk.1]; exact hk.2

theorem pos_of_mul {a b : Int} (h : 0 < a * b) (hb : 0 ≤ b) : 1 ≤ a := by
  by_cases c : a ≤ 0
  · have := Int.mul_le_mul_of_nonneg_right c hb
    rw [Int.zero_mul] at this
    omega
  · omega
theorem le_mul_one {a b : Int} (h : 1 ≤ a) (hb : 0 ≤ b) : b ≤ b * a := by
  have := Int.mul_le_mul_of_nonneg_left h hb
  rwa [Int.mul_one] at this
theorem le_of_mul {a b c : Int} (h : a * c ≤ b * c) (hc : 0 < c) : a ≤ b := Int.le_of_mul_le_mul_right h hc
/-- Two neighbours around r / D: a fraction p / Q with a small denominator lies outside of them. -/
theorem near_side {D r ln ld hn hd d p Q : Int} (hD : 0 < D) (det : hn * ld - ln * hd = 1) (hA : 0 < r * ld - ln * D) (hB : 0 < hn * D - r * hd) (hld : 0 < ld) (hhd : 0 < hd) (hd' : d < ld + hd) (hQ1 : 1 ≤ Q) (hQ : Q ≤ d) :
    (p * D - r * Q ≤ 0 → p * ld ≤ ln * Q) ∧ (0 ≤ p * D - r * Q → hn * Q ≤ p * hd) := by
  have e : Q = ld * (hn * Q - p * hd) + hd * (p * ld - ln * Q) := by grind
  have both : 1 ≤ p * ld - ln * Q → 1 ≤ hn * Q - p * hd → False := by
    intro c1 c2
    have m1 := le_mul_one c2 (show 0 ≤ ld by omega)
    have m2 := le_mul_one c1 (show 0 ≤ hd by omega)
    omega
  constructor
  · intro h
    by_cases c : p * ld ≤ ln * Q
    · exact c
    refine (both (by omega) ?_).elim
    refine pos_of_mul (b := D) ?_ (by omega)
    have h1 : 0 < (hn * D - r * hd) * Q := Int.mul_pos hB (by omega)
    have h2 := Int.mul_le_mul_of_nonneg_right h (show 0 ≤ hd by omega)
    rw [Int.zero_mul] at h2
    have h3 : (hn * Q - p * hd) * D = (hn * D - r * hd) * Q - (p * D - r * Q) * hd := by grind
    omega
  · intro h
    by_cases c : hn * Q ≤ p * hd
    · exact c
    refine (both ?_ (by omega)).elim
    refine pos_of_mul (b := D) ?_ (by omega)
    have h1 : 0 < (r * ld - ln * D) * Q := Int.mul_pos hA (by omega)
    have h2 := Int.mul_nonneg h (show 0 ≤ ld by omega)
    have h3 : (p * ld - ln * Q) * D = (r * ld - ln * D) * Q + (p * D - r * Q) * ld := by grind
    omega
/-- Y / E is a best approximation of X / D. -/
def Best (Y E X D d : Int) : Prop := ∀ P Q : Int, 1 ≤ Q → Q ≤ d → ((Y * D - X * E).natAbs : Int) * Q ≤ ((P * D - X * Q).natAbs : Int) * E
theorem best_low {D r ln ld hn hd d q : Int} (hD : 0 < D) (det : hn * ld - ln * hd = 1) (hA : 0 < r * ld - ln * D) (hB : 0 < hn * D - r * hd) (hld : 0 < ld) (hhd : 0 < hd) (hd' : d < ld + hd)
    (hc : (r * ld - ln * D) * hd ≤ (hn * D - r * hd) * ld) : Best (q * ld + ln) ld (q * D + r) D d := by
  intro P Q hQ1 hQ
  obtain ⟨s1, s2⟩ := near_side (p := P - q * Q) hD det hA hB hld hhd hd' hQ1 hQ
  have eT : P * D - (q * D + r) * Q = (P - q * Q) * D - r * Q := by grind
  have eA : (q * ld + ln) * D - (q * D + r) * ld = -(r * ld - ln * D) := by grind
  rw [eT, eA]
  generalize hT : (P - q * Q) * D - r * Q = T at *
  generalize hAA : r * ld - ln * D = A at *
  generalize hp : P - q * Q = p at *
  rw [show ((-A).natAbs : Int) = A by omega]
  by_cases c : T ≤ 0
  · rw [show (T.natAbs : Int) = -T by omega]
    have h1 := Int.mul_le_mul_of_nonneg_right (s1 c) (show 0 ≤ D by omega)
    have e1 : A * Q = r * Q * ld - ln * Q * D := by rw [← hAA]; grind
    have e2 : -T * ld = r * Q * ld - p * ld * D := by rw [← hT]; grind
    omega
  · rw [show (T.natAbs : Int) = T by omega]
    have h1 := Int.mul_le_mul_of_nonneg_right (s2 (by omega)) (show 0 ≤ D by omega)
    have e1 : (hn * D - r * hd) * Q = hn * Q * D - r * Q * hd := by grind
    have e2 : T * hd = p * hd * D - r * Q * hd := by rw [← hT]; grind
    have h3 := Int.mul_le_mul_of_nonneg_right (show (hn * D - r * hd) * Q ≤ T * hd by omega) (show 0 ≤ ld by omega)
    have h4 := Int.mul_le_mul_of_nonneg_right hc (show 0 ≤ Q by omega)
    refine le_of_mul (c := hd) ?_ hhd
    rw [show A * Q * hd = A * hd * Q by grind, show T * ld * hd = T * hd * ld by grind]
    rw [show (hn * D - r * hd) * Q * ld = (hn * D - r * hd) * ld * Q by grind] at h3
    exact Int.le_trans h4 h3
theorem best_high {D r ln ld hn hd d q : Int} (hD : 0 < D) (det : hn * ld - ln * hd = 1) (hA : 0 < r * ld - ln * D) (hB : 0 < hn * D - r * hd) (hld : 0 < ld) (hhd : 0 < hd) (hd' : d < ld + hd)
    (hc : (hn * D - r * hd) * ld ≤ (r * ld - ln * D) * hd) : Best (q * hd + hn) hd (q * D + r) D d := by
  intro P Q hQ1 hQ
  obtain ⟨s1, s2⟩ := near_side (p := P - q * Q) hD det hA hB hld hhd hd' hQ1 hQ
  have eT : P * D - (q * D + r) * Q = (P - q * Q) * D - r * Q := by grind
  have eA : (q * hd + hn) * D - (q * D + r) * hd = hn * D - r * hd := by grind
  rw [eT, eA]
  generalize hT : (P - q * Q) * D - r * Q = T at *
  generalize hAA : hn * D - r * hd = B at *
  generalize hp : P - q * Q = p at *
  rw [show (B.natAbs : Int) = B by omega]
  by_cases c : 0 ≤ T
  · rw [show (T.natAbs : Int) = T by omega]
    have h1 := Int.mul_le_mul_of_nonneg_right (s2 c) (show 0 ≤ D by omega)
    have e1 : B * Q = hn * Q * D - r * Q * hd := by rw [← hAA]; grind
    have e2 : T * hd = p * hd * D - r * Q * hd := by rw [← hT]; grind
    omega
  · rw [show (T.natAbs : Int) = -T by omega]
    have h1 := Int.mul_le_mul_of_nonneg_right (s1 (by omega)) (show 0 ≤ D by omega)
    have e1 : (r * ld - ln * D) * Q = r * Q * ld - ln * Q * D := by grind
    have e2 : -T * ld = r * Q * ld - p * ld * D := by rw [← hT]; grind
    have h3 := Int.mul_le_mul_of_nonneg_right (show (r * ld - ln * D) * Q ≤ -T * ld by omega) (show 0 ≤ hd by omega)
    have h4 := Int.mul_le_mul_of_nonneg_right hc (show 0 ≤ Q by omega)
    refine le_of_mul (c := ld) ?_ hld
    rw [show B * Q * ld = B * ld * Q by grind, show -T * hd * ld = -T * ld * hd by grind]
    rw [show (r * ld - ln * D) * Q * hd = (r * ld - ln * D) * hd * Q by grind] at h3
    exact Int.le_trans h4 h3
theorem mn_le (a b : Int) : mn a b ≤ a ∧ mn a b ≤ b ∧ (mn a b = a ∨ mn a b = b) := by
  unfold mn
  split <;> omega
/-- One round of the loop of Near. -/
theorem near_step (k : Nat) {d q r ln ld hn hd X D K1 K2 : Int} (hd0 : 1 ≤ d) (hd2 : d ≤ 100) (hr : 0 < r) (hrD : r < D) (hD : D ≤ 10000) (l0 : 0 ≤ ln) (l1 : ln ≤ ld) (l2 : 1 ≤ ld) (l3 : ld ≤ d) (h0 : 0 ≤ hn) (h1 : hn ≤ hd) (h2 : 1 ≤ hd) (h3 : hd ≤ d)
    (hA : 0 < r * ld - ln * D) (hB : 0 < hn * D - r * hd) (hs : ld + hd ≤ d)
    (e1 : K1 = mn ((hn * D - r * hd - 1) / (r * ld - ln * D)) ((d - hd) / ld)) (e2 : K2 = mn ((r * ld - ln * D - 1) / ((hn + K1 * ln) * D - r * (hd + K1 * ld))) ((d - ld) / (hd + K1 * ld))) :
    frac_Near.l0 (k + 1) d q r ln ld hn hd X D = frac_Near.l0 k d q r (ln + K2 * (hn + K1 * ln)) (ld + K2 * (hd + K1 * ld)) (hn + K1 * ln) (hd + K1 * ld) X D ∧
      0 ≤ K1 ∧ hd + K1 * ld ≤ d ∧ 0 < (hn + K1 * ln) * D - r * (hd + K1 * ld) ∧ 0 ≤ K2 ∧ ld + K2 * (hd + K1 * ld) ≤ d ∧ 0 < r * (ld + K2 * (hd + K1 * ld)) - (ln + K2 * (hn + K1 * ln)) * D := by
  obtain ⟨A, eA⟩ : ∃ A, r * ld - ln * D = A := ⟨_, rfl⟩
  obtain ⟨B, eB⟩ : ∃ B, hn * D - r * hd = B := ⟨_, rfl⟩
  have b1 := mul_bd (a := r) (b := ld) (A := 10000) (B := 100) (by omega) (by omega) (by omega) (by omega)
  have b2 := mul_bd (a := ln) (b := D) (A := 100) (B := 10000) (by omega) (by omega) (by omega) (by omega)
  have b3 := mul_bd (a := hn) (b := D) (A := 100) (B := 10000) (by omega) (by omega) (by omega) (by omega)
  have b4 := mul_bd (a := r) (b := hd) (A := 10000) (B := 100) (by omega) (by omega) (by omega) (by omega)
  rw [eA] at hA e1 e2
  rw [eB] at hB e1
  obtain ⟨m1, m2, m3⟩ := mn_le ((B - 1) / A) ((d - hd) / ld)
  rw [← e1] at m1 m2 m3
  have k10 : 0 ≤ K1 := by
    have := Int.ediv_nonneg (show 0 ≤ B - 1 by omega) (show 0 ≤ A by omega)
    have := Int.ediv_nonneg (show 0 ≤ d - hd by omega) (show 0 ≤ ld by omega)
    omega
  have k1A : K1 * A ≤ B - 1 := Int.le_trans (Int.mul_le_mul_of_nonneg_right m1 (by omega)) (Int.ediv_mul_le _ (by omega))
  have k1l : K1 * ld ≤ d - hd := Int.le_trans (Int.mul_le_mul_of_nonneg_right m2 (by omega)) (Int.ediv_mul_le _ (by omega))
  have k1b : K1 ≤ 100 := by
    have := Int.mul_le_mul_of_nonneg_left l2 k10
    rw [Int.mul_one] at this
    omega
  have k1n : K1 * ln ≤ K1 * ld := Int.mul_le_mul_of_nonneg_left l1 k10
  have k1n0 : 0 ≤ K1 * ln := Int.mul_nonneg k10 l0
  have k1l0 : 0 ≤ K1 * ld := Int.mul_nonneg k10 (by omega)
  obtain ⟨hn', en⟩ : ∃ x, hn + K1 * ln = x := ⟨_, rfl⟩
  obtain ⟨hd', ed⟩ : ∃ x, hd + K1 * ld = x := ⟨_, rfl⟩
  rw [en, ed] at e2 ⊢
  have c3 := mul_bd (a := hn') (b := D) (A := 100) (B := 10000) (by omega) (by omega) (by omega) (by omega)
  have c4 := mul_bd (a := r) (b := hd') (A := 10000) (B := 100) (by omega) (by omega) (by omega) (by omega)
  obtain ⟨B', eB'⟩ : ∃ x, hn' * D - r * hd' = x := ⟨_, rfl⟩
  have hB' : B' = B - K1 * A := by rw [← eB', ← en, ← ed, ← eB, ← eA]; grind
  rw [eB'] at e2 ⊢
  obtain ⟨n1, n2, n3⟩ := mn_le ((A - 1) / B') ((d - ld) / hd')
  rw [← e2] at n1 n2 n3
  have k20 : 0 ≤ K2 := by
    have := Int.ediv_nonneg (show 0 ≤ A - 1 by omega) (show 0 ≤ B' by omega)
    have := Int.ediv_nonneg (show 0 ≤ d - ld by omega) (show 0 ≤ hd' by omega)
    omega
  have k2B : K2 * B' ≤ A - 1 := Int.le_trans (Int.mul_le_mul_of_nonneg_right n1 (by omega)) (Int.ediv_mul_le _ (by omega))
  have k2h : K2 * hd' ≤ d - ld := Int.le_trans (Int.mul_le_mul_of_nonneg_right n2 (by omega)) (Int.ediv_mul_le _ (by omega))
  have k2n : K2 * hn' ≤ K2 * hd' := Int.mul_le_mul_of_nonneg_left (by omega) k20
  have k2n0 : 0 ≤ K2 * hn' := Int.mul_nonneg k20 (by omega)
  have k2h0 : 0 ≤ K2 * hd' := Int.mul_nonneg k20 (by omega)
  refine ⟨?_, k10, by omega, by omega, k20, by omega, ?_⟩
  · have q1 := ediv_range (a := B - 1) (b := A) hA (by omega) (by omega)
    have q2 := ediv_range (a := d - hd) (b := ld) (by omega) (by omega) (by omega)
    have q3 := ediv_range (a := A - 1) (b := B') (by omega) (by omega) (by omega)
    have q4 := ediv_range (a := d - ld) (b := hd') (by omega) (by omega) (by omega)
    simp only [frac_Near.l0]
    rw [w64 (n := ld + hd) (by omega) (by omega), if_pos hs]
    rw [w64 (n := r * ld) (by omega) (by omega), w64 (n := ln * D) (by omega) (by omega), w64 (n := hn * D) (by omega) (by omega), w64 (n := r * hd) (by omega) (by omega), eA, eB]
    rw [w64 (n := A) (by omega) (by omega), w64 (n := B) (by omega) (by omega), w64 (n := B - 1) (by omega) (by omega), w64 (n := A - 1) (by omega) (by omega)]
    rw [w64 (n := d - hd) (by omega) (by omega), w64 (n := d - ld) (by omega) (by omega), tdiv_pos (a := B - 1) (by omega), tdiv_pos (a := d - hd) (by omega), tdiv_pos (a := A - 1) (by omega), tdiv_pos (a := d - ld) (by omega)]
    rw [w64 (n := (B - 1) / A) q1.1 q1.2, w64 (n := (d - hd) / ld) q2.1 q2.2, ← e1]
    rw [w64 (n := K1 * ln) (by omega) (by omega), w64 (n := K1 * ld) (by omega) (by omega), en, ed]
    rw [w64 (n := hn') (by omega) (by omega), w64 (n := hd') (by omega) (by omega)]
    rw [w64 (n := hn' * D) (by omega) (by omega), w64 (n := r * hd') (by omega) (by omega), eB', w64 (n := B') (by omega) (by omega)]
    rw [w64 (n := (A - 1) / B') q3.1 q3.2, w64 (n := (d - ld) / hd') q4.1 q4.2, ← e2]
    rw [w64 (n := K2 * hn') (by omega) (by omega), w64 (n := K2 * hd') (by omega) (by omega), w64 (n := ln + K2 * hn') (by omega) (by omega), w64 (n := ld + K2 * hd') (by omega) (by omega)]
    rw [if_neg (by omega), if_neg (by omega), if_neg (by omega), if_neg (by omega)]
  · have : r * (ld + K2 * hd') - (ln + K2 * hn') * D = A - K2 * B' := by rw [← eA, ← eB']; grind
    omega
theorem mask32 {a : Int} (h0 : 0 ≤ a) (h1 : a ≤ 4294967295) : Go.bits .and .u64 a 4294967295 = a := by
  obtain ⟨n, rfl⟩ := Int.eq_ofNat_of_zero_le h0
  have := Go.bits_and_u64_nat n 4294967295 (by omega) (by omega)
  rw [Go.nat_mask32] at this
  have e : (n % 4294967296 : Nat) = n := Nat.mod_eq_of_lt (by omega)
  rw [e] at this
  exact this
theorem mul64_small {a b : Int} (ha0 : 0 ≤ a) (ha : a ≤ 1000000) (hb0 : 0 ≤ b) (hb : b ≤ 1000) : bits_Mul64.f a b = some (0, a * b) := by
  unfold bits_Mul64.f
  have m := mul_bd (a := a) (b := b) (A := 1000000) (B := 1000) (by omega) ha (by omega) hb
  have m0 := Int.mul_nonneg ha0 hb0
  rw [mask32 ha0 (by omega), mask32 hb0 (by omega), show a / 4294967296 = 0 by omega, show b / 4294967296 = 0 by omega]
  rw [Int.zero_mul, Int.zero_mul, Int.mul_zero]
  rw [u64_small (a := a * b) m0 (by omega), show a * b / 4294967296 = 0 by omega]
  rfl
theorem cmp2_small {a b c e : Int} (ha0 : 0 ≤ a) (ha : a ≤ 1000000) (hb0 : 0 ≤ b) (hb : b ≤ 1000) (hc0 : 0 ≤ c) (hc : c ≤ 1000000) (he0 : 0 ≤ e) (he : e ≤ 1000) : ∃ t, frac_cmp2.f a b c e = some t ∧ (0 < t → c * e ≤ a * b) ∧ (t = 0 → a * b = c * e) ∧ (t < 0 → a * b ≤ c * e) := by
  unfold frac_cmp2.f
  rw [mul64_small ha0 ha hb0 hb, mul64_small hc0 hc he0 he]
  simp only [Option.bind_some]
  rw [if_pos trivial]
  split
  · exact ⟨_, rfl, by omega, by omega, by omega⟩
  · split
    · exact ⟨_, rfl, by omega, by omega, by omega⟩
    · exact ⟨_, rfl, by omega, by omega, by omega⟩
theorem cop_of {Y E a b : Int} (h : E * a - Y * b = 1) : Int.gcd Y E = 1 := by
  have h1 : (Int.gcd Y E : Int) ∣ Y := Int.gcd_dvd_left ..
  have h2 : (Int.gcd Y E : Int) ∣ E := Int.gcd_dvd_right ..
  have h3 : (Int.gcd Y E : Int) ∣ 1 := by
    rw [← h]
    exact Int.dvd_sub (Int.dvd_trans h2 (Int.dvd_mul_right ..)) (Int.dvd_trans h1 (Int.dvd_mul_right ..))
  have h4 := Int.le_of_dvd (by omega) h3
  have h5 : Int.gcd Y E ≠ 0 := by
    intro z
    rw [z] at h3
    have h6 : (1 : Int) = 0 := Int.zero_dvd.mp h3
    omega
  omega
theorem near_loop {d q r X D : Int} (hd0 : 1 ≤ d) (hd2 : d ≤ 100) (hr : 0 < r) (hrD : r < D) (hD : D ≤ 10000) (hdD : d < D) (hX : X = q * D + r) (hg : Int.gcd X D = 1) (hq1 : -200000 ≤ q) (hq2 : q ≤ 200000) (N : Nat) : ∀ (k : Nat) (ln ld hn hd : Int), (d - ld) + (d - hd) < N → N < k →
    0 ≤ ln → ln ≤ ld → 1 ≤ ld → ld ≤ d → 0 ≤ hn → hn ≤ hd → 1 ≤ hd → hd ≤ d → hn * ld - ln * hd = 1 → 0 < r * ld - ln * D → 0 < hn * D - r * hd →
    ∃ Y E, frac_Near.l0 k d q r ln ld hn hd X D = some (Y, E, 0) ∧ 1 ≤ E ∧ E ≤ d ∧ Int.gcd Y E = 1 ∧ Best Y E X D d ∧ ((Y * D - X * E).natAbs : Int) ≤ 1000000 := by
  have fin : ∀ (k : Nat) (ln ld hn hd : Int), d < ld + hd → 0 ≤ ln → ln ≤ ld → 1 ≤ ld → ld ≤ d → 0 ≤ hn → hn ≤ hd → 1 ≤ hd → hd ≤ d → hn * ld - ln * hd = 1 → 0 < r * ld - ln * D → 0 < hn * D - r * hd →
      ∃ Y E, frac_Near.l0 (k + 1) d q r ln ld hn hd X D = some (Y, E, 0) ∧ 1 ≤ E ∧ E ≤ d ∧ Int.gcd Y E = 1 ∧ Best Y E X D d ∧ ((Y * D - X * E).natAbs : Int) ≤ 1000000 := by
    intro k ln ld hn hd hs l0 l1 l2 l3 h0 h1 h2 h3 det hA hB
    have b1 := mul_bd (a := r) (b := ld) (A := 10000) (B := 100) (by omega) (by omega) (by omega) (by omega)
    have b2 := mul_bd (a := ln) (b := D) (A := 100) (B := 10000) (by omega) (by omega) (by omega) (by omega)
    have b3 := mul_bd (a := hn) (b := D) (A := 100) (B := 10000) (by omega) (by omega) (by omega) (by omega)
    have b4 := mul_bd (a := r) (b := hd) (A := 10000) (B := 100) (by omega) (by omega) (by omega) (by omega)
    have b5 := mul_bd (a := q) (b := ld) (A := 200000) (B := 100) (by omega) (by omega) (by omega) (by omega)
    have b6 := mul_bd (a := q) (b := hd) (A := 200000) (B := 100) (by omega) (by omega) (by omega) (by omega)
    have p2 := Int.mul_nonneg l0 (show 0 ≤ D by omega)
    have p4 := Int.mul_nonneg (show 0 ≤ r by omega) (show 0 ≤ hd by omega)
    obtain ⟨t, ht, t1, t2, t3⟩ := cmp2_small (a := r * ld - ln * D) (b := hd) (c := hn * D - r * hd) (e := ld) (by omega) (by omega) (by omega) (by omega) (by omega) (by omega) (by omega) (by omega)
    have low : (r * ld - ln * D) * hd ≤ (hn * D - r * hd) * ld → ∃ Y E, (some (q * ld + ln, ld, 0) : Option (Int × Int × Int)) = some (Y, E, 0) ∧ 1 ≤ E ∧ E ≤ d ∧ Int.gcd Y E = 1 ∧ Best Y E X D d ∧ ((Y * D - X * E).natAbs : Int) ≤ 1000000 := by
      intro hc
      refine ⟨_, _, rfl, l2, l3, cop_of (a := hn + q * hd) (b := hd) (by grind), by rw [hX]; exact best_low (by omega) det hA hB (by omega) (by omega) hs hc, ?_⟩
      have e : (q * ld + ln) * D - X * ld = -(r * ld - ln * D) := by rw [hX]; grind
      rw [e]
      omega
    have high : (hn * D - r * hd) * ld ≤ (r * ld - ln * D) * hd → ∃ Y E, (some (q * hd + hn, hd, 0) : Option (Int × Int × Int)) = some (Y, E, 0) ∧ 1 ≤ E ∧ E ≤ d ∧ Int.gcd Y E = 1 ∧ Best Y E X D d ∧ ((Y * D - X * E).natAbs : Int) ≤ 1000000 := by
      intro hc
      refine ⟨_, _, rfl, h2, h3, cop_of (a := -(q * ld + ln)) (b := -ld) (by grind), by rw [hX]; exact best_high (by omega) det hA hB (by omega) (by omega) hs hc, ?_⟩
      have e : (q * hd + hn) * D - X * hd = hn * D - r * hd := by rw [hX]; grind
      rw [e]
      omega
    simp only [frac_Near.l0]
    rw [w64 (n := ld + hd) (by omega) (by omega), if_neg (by omega)]
    rw [w64 (n := r * ld) (by omega) (by omega), w64 (n := ln * D) (by omega) (by omega), w64 (n := hn * D) (by omega) (by omega), w64 (n := r * hd) (by omega) (by omega)]
    rw [w64 (n := r * ld - ln * D) (by omega) (by omega), w64 (n := hn * D - r * hd) (by omega) (by omega), u64_small (a := r * ld - ln * D) (by omega) (by omega), u64_small (a := hn * D - r * hd) (by omega) (by omega), u64_small (a := ld) (by omega) (by omega), u64_small (a := hd) (by omega) (by omega), ht]
    simp only [Option.bind_some]
    rw [w64 (n := q * hd) (by omega) (by omega), w64 (n := q * hd + hn) (by omega) (by omega), w64 (n := q * ld) (by omega) (by omega), w64 (n := q * ld + ln) (by omega) (by omega)]
    by_cases c1 : t > 0
    · rw [if_pos c1]; exact high (t1 c1)
    · rw [if_neg c1]
      by_cases c2 : t = 0
      · rw [if_pos c2]
        have := t2 c2
        split
        · exact high (by omega)
        · exact low (by omega)
      · rw [if_neg c2]; exact low (t3 (by omega))
  induction N with
  | zero => intro k ln ld hn hd hN; omega
  | succ N ih =>
    intro k ln ld hn hd hN hk l0 l1 l2 l3 h0 h1 h2 h3 det hA hB
    obtain ⟨k, rfl⟩ : ∃ j, k = j + 1 := ⟨k - 1, by omega⟩
    by_cases hs : ld + hd ≤ d
    rotate_left
    · exact fin k ln ld hn hd (by omega) l0 l1 l2 l3 h0 h1 h2 h3 det hA hB
    obtain ⟨e, k10, s1, s2, k20, s3, s4⟩ := near_step k (q := q) (X := X) hd0 hd2 hr hrD hD l0 l1 l2 l3 h0 h1 h2 h3 hA hB hs rfl rfl
    generalize hK1 : mn ((hn * D - r * hd - 1) / (r * ld - ln * D)) ((d - hd) / ld) = K1 at *
    generalize hK2 : mn ((r * ld - ln * D - 1) / ((hn + K1 * ln) * D - r * (hd + K1 * ld))) ((d - ld) / (hd + K1 * ld)) = K2 at *
    rw [e]
    have k1n : K1 * ln ≤ K1 * ld := Int.mul_le_mul_of_nonneg_left l1 k10
    have k1n0 : 0 ≤ K1 * ln := Int.mul_nonneg k10 l0
    have k1l0 : 0 ≤ K1 * ld := Int.mul_nonneg k10 (by omega)
    have k2n : K2 * (hn + K1 * ln) ≤ K2 * (hd + K1 * ld) := Int.mul_le_mul_of_nonneg_left (by omega) k20
    have k2n0 : 0 ≤ K2 * (hn + K1 * ln) := Int.mul_nonneg k20 (by omega)
    have k2h0 : 0 ≤ K2 * (hd + K1 * ld) := Int.mul_nonneg k20 (by omega)
    refine ih k _ _ _ _ ?_ (by omega) (by omega) (by omega) (by omega) s3 (by omega) (by omega) (by omega) s1 ?_ s4 s2
    · have prog : 1 ≤ K1 ∨ 1 ≤ K2 := by
        by_cases c : 1 ≤ K1
        · exact .inl c
        right
        obtain rfl : K1 = 0 := by omega
        obtain ⟨m1, m2, m3⟩ := mn_le ((hn * D - r * hd - 1) / (r * ld - ln * D)) ((d - hd) / ld)
        rw [hK1] at m1 m2 m3
        have q2 : 1 ≤ (d - hd) / ld := by rw [Int.le_ediv_iff_mul_le (by omega)]; omega
        have q3 : (hn * D - r * hd - 1) / (r * ld - ln * D) = 0 := by omega
        have q4 : hn * D - r * hd - 1 < r * ld - ln * D := by
          have := Int.lt_ediv_add_one_mul_self (hn * D - r * hd - 1) hA
          rw [q3] at this
          omega
        have q5 : hn * D - r * hd ≠ r * ld - ln * D := by
          intro z
          have z2 : (hn + ln) * D = r * (ld + hd) := by grind
          have hgr : Int.gcd r D = 1 := by
            have : Int.gcd X D = Int.gcd r D := by rw [hX, Int.add_comm, Int.gcd_comm, Int.gcd_comm r D]; exact Int.gcd_add_mul_right_right ..
            rw [← this]; exact hg
          have hdv : D ∣ r * (ld + hd) := ⟨hn + ln, by rw [← z2, Int.mul_comm]⟩
          have := dvd_cop hdv (by rw [Int.gcd_comm]; exact hgr)
          have := Int.le_of_dvd (by omega) this
          omega
        obtain ⟨n1, n2, n3⟩ := mn_le ((r * ld - ln * D - 1) / ((hn + 0 * ln) * D - r * (hd + 0 * ld))) ((d - ld) / (hd + 0 * ld))
        rw [hK2] at n1 n2 n3
        simp only [Int.zero_mul, Int.add_zero] at n1 n2 n3
        have q6 : 1 ≤ (d - ld) / hd := by rw [Int.le_ediv_iff_mul_le (by omega)]; omega
        have q7 : 1 ≤ (r * ld - ln * D - 1) / (hn * D - r * hd) := by rw [Int.le_ediv_iff_mul_le (by omega)]; omega
        omega
      rcases prog with c | c
      · have := le_mul_one c (show 0 ≤ ld by omega)
        have e' : ld * K1 = K1 * ld := Int.mul_comm _ _
        omega
      · have := le_mul_one c (show 0 ≤ hd + K1 * ld by omega)
        have e' : (hd + K1 * ld) * K2 = K2 * (hd + K1 * ld) := Int.mul_comm _ _
        omega
    · grind

theorem near_triv (k : Nat) (X D d : Int) (h1 : 1 ≤ D) (h2 : D ≤ d) (hd2 : d ≤ 2147483647) (h3 : -2147483647 ≤ X) (h4 : X ≤ 2147483647) (hg : Int.gcd X D = 1) (hk : D + 1 < k) : frac_Near.f k X D d = some (X, D, 0) := by
  obtain ⟨k, rfl⟩ : ∃ j, k = j + 1 := ⟨k - 1, by omega⟩
  unfold frac_Near.f
  rw [fcheck_ok (k + 1) X D h1 (by omega) h3 h4 hg hk]
  simp only [Option.bind_some]
  rw [if_pos trivial, if_neg (by omega), decide_eq_false (by omega)]
  simp only [frac_Near.j0]
  rw [if_neg (by decide), if_pos h2]
theorem near_is (k : Nat) (X D d : Int) (h1 : 1 ≤ D) (h2 : D ≤ 10000) (hd1 : 1 ≤ d) (hd2 : d ≤ 100) (h3 : -100000 ≤ X) (h4 : X ≤ 100000) (hg : Int.gcd X D = 1) (hk : 20000 < k) :
    ∃ Y E, frac_Near.f k X D d = some (Y, E, 0) ∧ 1 ≤ E ∧ E ≤ d ∧ Int.gcd Y E = 1 ∧ Best Y E X D d ∧ ((Y * D - X * E).natAbs : Int) ≤ 1000000 := by
  by_cases c : D ≤ d
  · refine ⟨X, D, near_triv k X D d h1 c (by omega) (by omega) (by omega) hg (by omega), h1, c, hg, ?_, by rw [Int.sub_self]; decide⟩
    intro P Q hQ1 hQ
    rw [Int.sub_self]
    have := Int.mul_nonneg (show 0 ≤ ((P * D - X * Q).natAbs : Int) by omega) (show 0 ≤ D by omega)
    simpa using this
  · obtain ⟨k, rfl⟩ : ∃ j, k = j + 2 := ⟨k - 2, by omega⟩
    have e := Int.mul_ediv_add_emod X D
    have r0 := Int.emod_nonneg X (show D ≠ 0 by omega)
    have r1 := Int.emod_lt_of_pos X (show 0 < D by omega)
    have qb : -200000 ≤ X / D ∧ X / D ≤ 200000 := by
      constructor
      · rw [Int.le_ediv_iff_mul_le (by omega)]; omega
      · have : X / D < 200001 := by rw [Int.ediv_lt_iff_lt_mul (by omega)]; omega
        omega
    have rp : 0 < X % D := by
      by_cases z : X % D = 0
      · have hdv : D ∣ X := Int.dvd_of_emod_eq_zero z
        have h5 : (Int.gcd X D : Int) = D := by
          rw [Int.gcd_comm]
          have := Int.gcd_eq_left (show 0 ≤ D by omega) hdv
          simpa using this
        rw [hg] at h5
        omega
      · omega
    obtain ⟨Y, E, hy, a1, a2, a3, a4, a5⟩ := near_loop (d := d) (q := X / D) (r := X % D) (X := X) (D := D) hd1 hd2 rp r1 h2 (by omega) (by rw [Int.mul_comm]; omega) hg qb.1 qb.2 300 (k + 1) 0 1 1 1 (by omega) (by omega) (by omega) (by omega) (by omega) hd1 (by omega) (by omega) (by omega) hd1 (by omega) (by omega) (by omega)
    refine ⟨Y, E, ?_, a1, a2, a3, a4, a5⟩
    unfold frac_Near.f
    rw [fcheck_ok (k + 2) X D h1 (by omega) (by omega) (by omega) hg (by omega)]
    simp only [Option.bind_some]
    rw [if_pos trivial, if_neg (by omega), decide_eq_false (by omega)]
    simp only [frac_Near.j0]
    rw [if_neg (by decide), if_neg c, div_is k X D (by omega) (by omega) (by omega) (by omega)]
    simp only [Option.bind_some]
    exact hy
theorem sub_is (k : Nat) {a b c e : Int} (hx : Sm a b 20000000 10000) (hy : Sm c e 20000000 10000) (hn : ((a * e - c * b).natAbs : Int) ≤ 2147483647) (hk : 100000002 < k) : ∃ p q, frac_Sub.f k a b c e = some (p, q, 0) ∧ IsF p q (a * e - c * b) (b * e) := by
  obtain ⟨x1, x2, x3, x4, xg⟩ := hx
  obtain ⟨y1, y2, y3, y4, yg⟩ := hy
  have m1 := mul_bd (a := a) (b := e) (A := 20000000) (B := 10000) x3 x4 (by omega) y2
  have m2 := mul_bd (a := c) (b := b) (A := 20000000) (B := 10000) y3 y4 (by omega) x2
  have m3 := mul_bd (a := b) (b := e) (A := 10000) (B := 10000) (by omega) x2 (by omega) y2
  have m4 : 0 < b * e := Int.mul_pos (by omega) (by omega)
  have l1 := Nat.div_le_self (a * e - c * b).natAbs (Int.gcd (a * e - c * b) (b * e))
  have l2 := Nat.div_le_self (b * e).natAbs (Int.gcd (a * e - c * b) (b * e))
  obtain ⟨p, q, h, s⟩ := of_is k (a * e - c * b) (b * e) (by omega) (by omega) (by omega) (by omega) (by omega) (by omega) (by omega) (by omega)
  refine ⟨p, q, ?_, s⟩
  unfold frac_Sub.f
  rw [both_ok k a b c e x1 (by omega) (by omega) (by omega) xg (by omega) y1 (by omega) (by omega) (by omega) yg (by omega)]
  simp only [Option.bind_some]
  rw [if_pos trivial, w64 (n := a * e) (by omega) (by omega), w64 (n := c * b) (by omega) (by omega), w64 (by omega) (by omega), w64 (n := b * e) (by omega) (by omega), h]
  simp only [Option.bind_some]
theorem cmp_is (k : Nat) {a b c e : Int} (hx : Sm a b 20000000 100000000) (hy : Sm c e 20000000 100000000) (h : a * e ≤ c * b) (hk : 100000002 < k) : ∃ t, frac_Cmp.f k a b c e = some (t, 0) ∧ t ≤ 0 := by
  obtain ⟨x1, x2, x3, x4, xg⟩ := hx
  obtain ⟨y1, y2, y3, y4, yg⟩ := hy
  have m1 := mul_bd (a := a) (b := e) (A := 20000000) (B := 100000000) x3 x4 (by omega) y2
  have m2 := mul_bd (a := c) (b := b) (A := 20000000) (B := 100000000) y3 y4 (by omega) x2
  unfold frac_Cmp.f
  rw [both_ok k a b c e x1 (by omega) (by omega) (by omega) xg (by omega) y1 (by omega) (by omega) (by omega) yg (by omega)]
  simp only [Option.bind_some]
  rw [if_pos trivial, w64 (n := a * e) (by omega) (by omega), w64 (n := c * b) (by omega) (by omega)]
  split
  · exact ⟨_, rfl, by omega⟩
  · split
    · exact absurd h (by omega)
    · exact ⟨_, rfl, by omega⟩
theorem mx_abs (s : Int) (h1 : -20000000 ≤ s) (h2 : s ≤ 20000000) : mx s (wrap64 (-s)) = (s.natAbs : Int) := by
  rw [w64 (by omega) (by omega)]
  unfold mx
  split <;> omega
theorem abs_sm {s q A B : Int} (h : Sm s q A B) : Sm (s.natAbs : Int) q A B := ⟨h.q1, h.qB, by have := h.pl; have := h.pu; omega, by have := h.pl; have := h.pu; omega, by have := h.g; simpa [Int.gcd] using this⟩
theorem natAbs_le_of {N M w q : Int} (hw : 1 ≤ w) (hq : w ≤ q) (h : N * q = w * M) : (N.natAbs : Int) ≤ (M.natAbs : Int) := by
  have e : (N.natAbs : Int) * q = w * (M.natAbs : Int) := by
    have := congrArg (fun x : Int => (x.natAbs : Int)) h
    simp only [Int.natAbs_mul, Int.natCast_mul] at this
    rwa [show (q.natAbs : Int) = q by omega, show (w.natAbs : Int) = w by omega] at this
  have m := Int.mul_le_mul_of_nonneg_right hq (show 0 ≤ (M.natAbs : Int) by omega)
  refine le_of_mul (c := q) ?_ (by omega)
  rw [e, Int.mul_comm (M.natAbs : Int) q]
  exact m
theorem cross_le {s1 s2 u1 u2 Y E X D Z W : Int} (hE : 1 ≤ E) (hD : 1 ≤ D) (hW : 1 ≤ W) (h2 : 1 ≤ s2) (h4 : 1 ≤ u2) (hs : s1 * (E * D) = (Y * D - X * E) * s2) (hu : u1 * (W * D) = (Z * D - X * W) * u2)
    (hb : ((Y * D - X * E).natAbs : Int) * W ≤ ((Z * D - X * W).natAbs : Int) * E) : (s1.natAbs : Int) * u2 ≤ (u1.natAbs : Int) * s2 := by
  have p1 : 0 < E * D := Int.mul_pos (by omega) (by omega)
  have p2 : 0 < W * D := Int.mul_pos (by omega) (by omega)
  have e1 : (s1.natAbs : Int) * (E * D) = ((Y * D - X * E).natAbs : Int) * s2 := by
    have := congrArg (fun x : Int => (x.natAbs : Int)) hs
    simp only [Int.natAbs_mul s1, Int.natAbs_mul (Y * D - X * E), Int.natCast_mul] at this
    rwa [show ((E * D).natAbs : Int) = E * D by omega, show (s2.natAbs : Int) = s2 by omega] at this
  have e2 : (u1.natAbs : Int) * (W * D) = ((Z * D - X * W).natAbs : Int) * u2 := by
    have := congrArg (fun x : Int => (x.natAbs : Int)) hu
    simp only [Int.natAbs_mul u1, Int.natAbs_mul (Z * D - X * W), Int.natCast_mul] at this
    rwa [show ((W * D).natAbs : Int) = W * D by omega, show (u2.natAbs : Int) = u2 by omega] at this
  generalize (s1.natAbs : Int) = a at *
  generalize (u1.natAbs : Int) = b at *
  generalize ((Y * D - X * E).natAbs : Int) = t at *
  generalize ((Z * D - X * W).natAbs : Int) = v at *
  clear hs hu
  have m := Int.mul_le_mul_of_nonneg_right hb (show 0 ≤ s2 * u2 * D from Int.mul_nonneg (Int.mul_nonneg (by omega) (by omega)) (by omega))
  refine le_of_mul (c := (E * D) * (W * D)) ?_ (Int.mul_pos p1 p2)
  have f1 : a * u2 * ((E * D) * (W * D)) = t * W * (s2 * u2 * D) := by
    rw [show a * u2 * ((E * D) * (W * D)) = (a * (E * D)) * (u2 * (W * D)) by grind, e1]; grind
  have f2 : b * s2 * ((E * D) * (W * D)) = v * E * (s2 * u2 * D) := by
    rw [show b * s2 * ((E * D) * (W * D)) = (b * (W * D)) * (s2 * (E * D)) by grind, e2]; grind
  rw [f1, f2]
  exact m
theorem Sm.up {p q A B A' B' : Int} (h : Sm p q A B) (hA : A ≤ A') (hB : B ≤ B') : Sm p q A' B' := ⟨h.q1, by have := h.qB; omega, by have := h.pl; omega, by have := h.pu; omega, h.g⟩
theorem FracNearest : ephemeriskeep1_FracNearest.Pure := by
  intro a0 a1 a2 a3 a4 _ _ _ _ _
  obtain ⟨K, hK⟩ : Ev (fun k => frac_Near.f k 7 5 2 = some (3, 2, 0)) := Ev.mono (k := 20) (fun k => frac_Near.mono _ _ _ k) (by decide +kernel)
  obtain ⟨k, hk1, hk2⟩ : ∃ k, K ≤ k ∧ 200000000 < k := ⟨K + 200000001, by omega, by omega⟩
  refine ⟨k, ?_⟩
  have h7 := hK k hk1
  obtain ⟨n, hn, n1, n2, _⟩ := cut_is a0 (-100000) 200001 (by omega) (by omega) (by omega) (by omega)
  obtain ⟨m, hm, m1, m2, _⟩ := cut_is a1 1 10000 (by omega) (by omega) (by omega) (by omega)
  obtain ⟨d, hd, d1, d2, _⟩ := cut_is a2 1 100 (by omega) (by omega) (by omega) (by omega)
  obtain ⟨p, hp, p1, p2, _⟩ := cut_is a3 (-10) 21 (by omega) (by omega) (by omega) (by omega)
  obtain ⟨q, hq, q1, q2, _⟩ := cut_is a4 1 d (by omega) (by omega) (by omega) (by omega)
  obtain ⟨X, D, hX, iX, sX⟩ := of_sm k n m 100000 10000 (by omega) (by omega) (by omega) (by omega) (by omega) (by omega)
  have D1 := sX.q1
  have D2 := sX.qB
  have X1 := sX.pl
  have X2 := sX.pu
  obtain ⟨Y, E, hY, E1, E2, eg, best, near⟩ := near_is k X D d D1 D2 (by omega) (by omega) X1 X2 sX.g (by omega)
  have bXE := mul_bd (a := X) (b := E) (A := 100000) (B := 100) (by omega) (by omega) (by omega) (by omega)
  have bY : (Y.natAbs : Int) ≤ 11000000 := by
    have h1 := le_mul_one (a := D) (b := (Y.natAbs : Int)) (by omega) (by omega)
    have h2 : ((Y * D).natAbs : Int) = (Y.natAbs : Int) * D := by rw [Int.natAbs_mul, Int.natCast_mul, show (D.natAbs : Int) = D by omega]
    omega
  obtain ⟨Z, W, hZ, iZ, sZ⟩ := of_sm k (p + Y) q 11000020 100 (by omega) (by omega) (by omega) (by omega) (by omega) (by omega)
  have W1 := sZ.q1
  have W2 := iZ.leq
  have bZ : ((Z * D - X * W).natAbs : Int) ≤ 12000000 := by
    have h1 := natAbs_le_of (N := Z * D - X * W) (M := (p + Y) * D - X * q) (w := W) (q := q) W1 (by omega) (by have := iZ.eq; grind)
    have h2 := mul_bd (a := p) (b := D) (A := 10) (B := 10000) (by omega) (by omega) (by omega) (by omega)
    have h3 := mul_bd (a := X) (b := E - q) (A := 100000) (B := 100) (by omega) (by omega) (by omega) (by omega)
    have h4 : (p + Y) * D - X * q = p * D + (Y * D - X * E) + X * (E - q) := by grind
    omega
  have sX' := sX.up (A' := 20000000) (B' := 10000) (by omega) (by omega)
  have sY' : Sm Y E 20000000 10000 := ⟨E1, by omega, by omega, by omega, eg⟩
  have sZ' := sZ.up (A' := 20000000) (B' := 10000) (by omega) (by omega)
  obtain ⟨s1, s2, hs, is⟩ := sub_is k sY' sX' (by omega) (by omega)
  obtain ⟨u1, u2, hu, iu⟩ := sub_is k sZ' sX' (by omega) (by omega)
  have bED := mul_bd (a := E) (b := D) (A := 100) (B := 10000) (by omega) (by omega) (by omega) (by omega)
  have bWD := mul_bd (a := W) (b := D) (A := 100) (B := 10000) (by omega) (by omega) (by omega) (by omega)
  have ss : Sm s1 s2 20000000 100000000 := Sm.mk_of is (by omega) (by omega)
  have su : Sm u1 u2 20000000 100000000 := Sm.mk_of iu (by omega) (by omega)
  obtain ⟨t, ht, t0⟩ := cmp_is k (abs_sm ss) (abs_sm su) (cross_le E1 D1 W1 ss.q1 su.q1 is.eq iu.eq (best Z W W1 (by omega))) (by omega)
  have hself := near_triv k Y E d E1 E2 (by omega) (by omega) (by omega) eg (by omega)
  unfold ephemeriskeep1_FracNearest.f
  rw [h7]
  simp only [Option.bind_some]
  rw [if_pos trivial, hn]
  simp only [Option.bind_some]
  rw [hm]
  simp only [Option.bind_some]
  rw [hX]
  simp only [Option.bind_some]
  rw [hd]
  simp only [Option.bind_some]
  rw [hY]
  simp only [Option.bind_some]
  rw [if_pos ⟨trivial, E2⟩, hp]
  simp only [Option.bind_some]
  rw [hq]
  simp only [Option.bind_some]
  rw [w64 (n := p + Y) (by omega) (by omega), hZ]
  simp only [Option.bind_some]
  rw [hs]
  simp only [Option.bind_some]
  rw [hu]
  simp only [Option.bind_some]
  rw [mx_abs s1 ss.pl ss.pu, mx_abs u1 su.pl su.pu, ht]
  simp only [Option.bind_some]
  rw [if_pos ⟨trivial, t0⟩, hself]
  simp only [Option.bind_some]
  rw [if_pos ⟨trivial, trivial⟩]

end Go.Proofs.Ytboddbgmgcjppaa.Pure
