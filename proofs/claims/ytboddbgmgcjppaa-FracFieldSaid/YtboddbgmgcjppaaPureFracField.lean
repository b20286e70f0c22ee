/- For all fractions with numerators from -500 to 500 and denominators from 1 to 60 (so FracField cuts its arguments), addition is commutative, multiplication distributes over it, and subtraction and division undo addition and multiplication. No conditions. -/
import Derived.Test.YtboddbgmgcjppaaQFracFieldx16
set_option linter.unusedVariables false
set_option linter.unusedSimpArgs false
namespace Go.Proofs.Ytboddbgmgcjppaa.Pure
open Go.RowKit Go.Proofs.Ytboddbgmgcjppaa.QFracField Go.Proofs.YtboddbgmgcjppaaW.PrintWords Go.Proofs.YtboddbgmgcjppaaW.PrintLast

theorem lit64 {a : Int} (h : (Go.Lit.int .i64 a).wf = true) : -9223372036854775808 ≤ a ∧ a ≤ 9223372036854775807 := by
  simp only [Go.Lit.wf, Bool.and_eq_true, decide_eq_true_eq] at h
  have h1 : Go.IntKind.i64.min = -9223372036854775808 := by decide
  have h2 : Go.IntKind.i64.max = 9223372036854775807 := by decide
  omega
theorem w64 {n : Int} (h1 : -9223372036854775808 ≤ n) (h2 : n ≤ 9223372036854775807) : wrap64 n = n := by unfold wrap64; omega
theorem w64r (n : Int) : -9223372036854775808 ≤ wrap64 n ∧ wrap64 n ≤ 9223372036854775807 := by unfold wrap64; omega
theorem tmod_pos {a b : Int} (ha : 0 ≤ a) : Int.tmod a b = a % b := by rw [Int.tmod_eq_emod, if_pos (Or.inl ha)]; simp
theorem tdiv_pos {a b : Int} (ha : 0 ≤ a) : Int.tdiv a b = a / b := by rw [Int.tdiv_eq_ediv, if_pos (Or.inl ha)]; simp
theorem tmod_bounds {a b : Int} (hb : 0 < b) : -b < Int.tmod a b ∧ Int.tmod a b < b ∧ (0 ≤ a → 0 ≤ Int.tmod a b) ∧ (a ≤ 0 → Int.tmod a b ≤ 0) := by
  rw [Int.tmod_eq_emod]
  have h1 := Int.emod_nonneg a (show b ≠ 0 by omega)
  have h2 := Int.emod_lt_of_pos a hb
  split
  · rename_i h
    refine ⟨by omega, by omega, fun _ => by omega, fun h0 => ?_⟩
    rcases h with h | h
    · have : a = 0 := by omega
      subst this; simp
    · rw [Int.emod_eq_zero_of_dvd h]; simp
  · refine ⟨by omega, by omega, fun _ => by omega, fun _ => by omega⟩
/-- tmod and tdiv against emod and ediv, for a positive divisor. -/
theorem tmod_cases {a b : Int} (hb : 0 < b) : (Int.tmod a b = a % b ∧ Int.tdiv a b = a / b ∧ (0 ≤ a ∨ a % b = 0)) ∨ (a < 0 ∧ a % b ≠ 0 ∧ Int.tmod a b = a % b - b ∧ Int.tdiv a b = a / b + 1) := by
  by_cases h : 0 ≤ a ∨ b ∣ a
  · left
    refine ⟨by rw [Int.tmod_eq_emod, if_pos h]; simp, by rw [Int.tdiv_eq_ediv, if_pos h]; simp, h.imp id Int.emod_eq_zero_of_dvd⟩
  · right
    have h' := not_or.mp h
    refine ⟨by omega, fun e => h'.2 (Int.dvd_of_emod_eq_zero e), ?_, ?_⟩
    · rw [Int.tmod_eq_emod, if_neg h]; omega
    · rw [Int.tdiv_eq_ediv, if_neg h, Int.sign_eq_one_of_pos hb]
theorem ediv_range {a b : Int} (hb : 0 < b) (h1 : -9223372036854775808 ≤ a) (h2 : a ≤ 9223372036854775807) : -9223372036854775808 ≤ a / b ∧ a / b ≤ 9223372036854775807 := by
  have e := Int.mul_ediv_add_emod a b
  have l := Int.emod_nonneg a (show b ≠ 0 by omega)
  have u := Int.emod_lt_of_pos a hb
  constructor
  · by_cases c : 0 ≤ a
    · have := Int.ediv_nonneg c (show 0 ≤ b by omega); omega
    · have : a ≤ a / b := by
        rw [Int.le_ediv_iff_mul_le hb]
        have : a * b ≤ a * 1 := Int.mul_le_mul_of_nonpos_left (by omega) (by omega)
        omega
      omega
  · by_cases c : 0 ≤ a
    · have : a / b ≤ a := Int.ediv_le_self b c
      omega
    · have : a / b ≤ 0 := by
        have : a / b < 0 := Int.ediv_neg_of_neg_of_pos (by omega) hb
        omega
      omega
/-- the remainder from 0 on, as the program computes it twice. -/
theorem mod_twice {a b : Int} (hb : 0 < b) (hb2 : b ≤ 4611686018427387904) : Int.tmod (wrap64 ((Int.tmod a b) + b)) b = a % b := by
  have hc := tmod_bounds (a := a) hb
  have h1 := Int.emod_nonneg a (show b ≠ 0 by omega)
  have h2 := Int.emod_lt_of_pos a hb
  rw [w64 (by omega) (by omega)]
  rw [tmod_pos (by omega)]
  rcases tmod_cases (a := a) hb with ⟨e, _, _⟩ | ⟨_, _, e, _⟩
  · rw [e]; simp
  · rw [e, show a % b - b + b = a % b from by omega]; simp

theorem mod_is (a b : Int) (hb : 0 < b) (hb2 : b ≤ 4611686018427387904) : ephemeriskeep1_mod.f a b = some (a % b) := by
  unfold ephemeriskeep1_mod.f
  rw [if_neg (by omega), mod_twice hb hb2]
theorem cut_is (a l n : Int) (hn : 0 < n) (hn2 : n ≤ 4611686018427387904) (h1 : -4611686018427387904 ≤ l) (h2 : l ≤ 4611686018427387904) :
    ∃ r, ephemeriskeep1_cut.f a l n = some r ∧ l ≤ r ∧ r < l + n ∧ r = l + a % n := by
  have h3 := Int.emod_nonneg a (show n ≠ 0 by omega)
  have h4 := Int.emod_lt_of_pos a hn
  refine ⟨l + a % n, ?_, by omega, by omega, rfl⟩
  unfold ephemeriskeep1_cut.f
  rw [mod_is a n hn hn2, Option.bind_some, w64 (by omega) (by omega)]

theorem u64_small {a : Int} (h1 : 0 ≤ a) (h2 : a ≤ 9223372036854775807) : Go.IntKind.u64.wrap a = a := by
  rw [show Go.IntKind.u64.wrap a = a % 18446744073709551616 from by simp [Go.IntKind.wrap, Go.IntKind.signed, Go.IntKind.bits]]
  omega
theorem size_is (a : Int) (h1 : 0 ≤ a) (h2 : a ≤ 9223372036854775807) : whole_size.f a = some a := by
  unfold whole_size.f
  rw [if_neg (by omega), u64_small h1 h2]
theorem gcd_step (x y : Int) (hx : 0 ≤ x) (hy : 0 < y) : Int.gcd y (x % y) = Int.gcd x y := by
  obtain ⟨m, rfl⟩ := Int.eq_ofNat_of_zero_le hx
  obtain ⟨n, rfl⟩ := Int.eq_ofNat_of_zero_le (show 0 ≤ y by omega)
  rw [← Int.natCast_emod]
  simp only [Int.gcd_natCast_natCast]
  rw [Nat.gcd_comm m n, Nat.gcd_comm n (m % n), ← Nat.gcd_rec]
theorem gcd_loop (d : Nat) : ∀ (k : Nat) (x y : Int), 0 ≤ x → x ≤ 9223372036854775807 → 0 ≤ y → y ≤ 9223372036854775807 → y ≤ d → d < k → whole_Gcd.l0 k x y = some ((Int.gcd x y : Int), 0) := by
  have fin : ∀ (k : Nat) (x : Int), 0 ≤ x → x ≤ 9223372036854775807 → whole_Gcd.l0 (k + 1) x 0 = some ((Int.gcd x 0 : Int), 0) := by
    intro k x h0 h1
    simp only [whole_Gcd.l0]
    rw [if_pos trivial, if_neg (by omega), w64 (by omega) h1]
    congr 2
    simp [Int.gcd]; omega
  induction d with
  | zero =>
    intro k x y h0 h1 h2 h4 h3 hk
    obtain ⟨k, rfl⟩ : ∃ m, k = m + 1 := ⟨k - 1, by omega⟩
    obtain rfl : y = 0 := by omega
    exact fin k x h0 h1
  | succ d ih =>
    intro k x y h0 h1 h2 h4 h3 hk
    obtain ⟨k, rfl⟩ : ∃ m, k = m + 1 := ⟨k - 1, by omega⟩
    by_cases z : y = 0
    · subst z
      exact fin k x h0 h1
    · have l := Int.emod_nonneg x z
      have u := Int.emod_lt_of_pos x (show 0 < y by omega)
      simp only [whole_Gcd.l0]
      rw [if_neg z, tmod_pos h0, ih k y (x % y) h2 h4 l (by omega) (by omega) (by omega), gcd_step x y h0 (by omega)]

theorem size_any (a : Int) (h1 : -9223372036854775807 ≤ a) (h2 : a ≤ 9223372036854775807) : whole_size.f a = some (a.natAbs : Int) := by
  unfold whole_size.f
  have e : ∀ x : Int, Go.IntKind.u64.wrap x = x % 18446744073709551616 := fun x => by simp [Go.IntKind.wrap, Go.IntKind.signed, Go.IntKind.bits]
  rw [e, e]
  by_cases c : a < 0
  · rw [if_pos c]; congr 1; omega
  · rw [if_neg c]; congr 1; omega
theorem wgcd_is (k : Nat) (a b : Int) (ha1 : -9223372036854775807 ≤ a) (ha2 : a ≤ 9223372036854775807) (hb1 : -9223372036854775807 ≤ b) (hb2 : b ≤ 9223372036854775807) (hk : b.natAbs < k) :
    whole_Gcd.f k a b = some ((Int.gcd a b : Int), 0) := by
  unfold whole_Gcd.f
  rw [size_any a ha1 ha2, Option.bind_some, size_any b hb1 hb2, Option.bind_some, gcd_loop b.natAbs k _ _ (by omega) (by omega) (by omega) (by omega) (by omega) hk]
  simp [Int.gcd]

theorem fsize_any (a : Int) (h1 : -9223372036854775807 ≤ a) (h2 : a ≤ 9223372036854775807) : frac_size.f a = some (a.natAbs : Int) := by
  unfold frac_size.f
  have e : ∀ x : Int, Go.IntKind.u64.wrap x = x % 18446744073709551616 := fun x => by simp [Go.IntKind.wrap, Go.IntKind.signed, Go.IntKind.bits]
  rw [e, e]
  by_cases c : a < 0
  · rw [if_pos c]; congr 1; omega
  · rw [if_neg c]; congr 1; omega
theorem low_loop (m : Bool) (n dd : Int) (hn0 : 0 ≤ n) (hn1 : n ≤ 9223372036854775807) (hd0 : 0 ≤ dd) (hd1 : dd ≤ 9223372036854775807) (d : Nat) :
    ∀ (k : Nat) (a b : Int), 0 ≤ a → 0 ≤ b → b ≤ d → d + 1 < k → 0 < Int.gcd a b → n / (Int.gcd a b : Int) ≤ 2147483647 → dd / (Int.gcd a b : Int) ≤ 2147483647 →
      frac_lowest.l0 k m n dd a b = some (if m = true then -(n / (Int.gcd a b : Int)) else n / (Int.gcd a b : Int), dd / (Int.gcd a b : Int), 0) := by
  have fin : ∀ (k : Nat) (a : Int), 0 < a → n / a ≤ 2147483647 → dd / a ≤ 2147483647 → frac_lowest.l0 (k + 2) m n dd a 0 = some (if m = true then -(n / a) else n / a, dd / a, 0) := by
    intro k a h0 h1 h2
    have q1 : 0 ≤ n / a := Int.ediv_nonneg hn0 (by omega)
    have q2 : 0 ≤ dd / a := Int.ediv_nonneg hd0 (by omega)
    simp only [frac_lowest.l0]
    rw [if_pos trivial, if_neg (by omega), tdiv_pos hn0, tdiv_pos hd0, u64_small q1 (by omega), u64_small q2 (by omega), if_neg (by omega), decide_eq_false (by omega)]
    simp only [frac_lowest.j1]
    rw [if_neg (by decide), w64 (n := n / a) (by omega) (by omega), w64 (n := dd / a) (by omega) (by omega), w64 (n := -(n / a)) (by omega) (by omega)]
    split <;> rfl
  have step : ∀ (k : Nat) (a b : Int), b ≠ 0 → 0 ≤ a → frac_lowest.l0 (k + 1) m n dd a b = frac_lowest.l0 k m n dd b (a % b) := by
    intro k a b hb ha
    simp only [frac_lowest.l0]
    rw [if_neg hb, tmod_pos ha]
  have g0 : ∀ a : Int, 0 ≤ a → (Int.gcd a 0 : Int) = a := fun a h => by simp [Int.gcd]; omega
  induction d with
  | zero =>
    intro k a b h0 h2 h3 hk hg q1 q2
    obtain ⟨k, rfl⟩ : ∃ q, k = q + 2 := ⟨k - 2, by omega⟩
    obtain rfl : b = 0 := by omega
    have e := g0 a h0
    rw [e] at q1 q2 ⊢
    exact fin k a (by omega) q1 q2
  | succ d ih =>
    intro k a b h0 h2 h3 hk hg q1 q2
    obtain ⟨k, rfl⟩ : ∃ q, k = q + 2 := ⟨k - 2, by omega⟩
    by_cases z : b = 0
    · subst z
      have e := g0 a h0
      rw [e] at q1 q2 ⊢
      exact fin k a (by omega) q1 q2
    · have l := Int.emod_nonneg a z
      have u := Int.emod_lt_of_pos a (show 0 < b by omega)
      have e := gcd_step a b h0 (by omega)
      have i := ih (k + 1) b (a % b) h2 l (by omega) (by omega) (by rw [e]; exact hg) (by rw [e]; exact q1) (by rw [e]; exact q2)
      rw [e] at i
      rw [step (k + 1) a b z h0]
      exact i
/-- The fraction p / q is n / d in lowest terms. -/
structure IsF (p q n d : Int) : Prop where
  pos : 1 ≤ q
  cop : Int.gcd p q = 1
  eq : p * d = n * q
  le : p.natAbs ≤ n.natAbs
  leq : q ≤ d.natAbs
theorem of_is (k : Nat) (n d : Int) (hd : d ≠ 0) (hn1 : -9223372036854775807 ≤ n) (hn2 : n ≤ 9223372036854775807) (hd1 : -9223372036854775807 ≤ d) (hd2 : d ≤ 9223372036854775807) (hk : d.natAbs + 1 < k)
    (q1 : n.natAbs / Int.gcd n d ≤ 2147483647) (q2 : d.natAbs / Int.gcd n d ≤ 2147483647) : ∃ p q, frac_Of.f k n d = some (p, q, 0) ∧ IsF p q n d := by
  have g0 : 0 < Int.gcd n d := Int.gcd_pos_of_ne_zero_right n hd
  have gn : (Int.gcd n d) ∣ n.natAbs := Nat.gcd_dvd_left ..
  have gd : (Int.gcd n d) ∣ d.natAbs := Nat.gcd_dvd_right ..
  have eg : Int.gcd (n.natAbs : Int) (d.natAbs : Int) = Int.gcd n d := by simp [Int.gcd]
  have key : ∀ m : Bool, frac_lowest.f k m (n.natAbs : Int) (d.natAbs : Int) = some (if m = true then -((n.natAbs / Int.gcd n d : Nat) : Int) else ((n.natAbs / Int.gcd n d : Nat) : Int), ((d.natAbs / Int.gcd n d : Nat) : Int), 0) := by
    intro m
    unfold frac_lowest.f
    rw [low_loop m n.natAbs d.natAbs (by omega) (by omega) (by omega) (by omega) d.natAbs k _ _ (by omega) (by omega) (by omega) hk (by rw [eg]; exact g0) (by rw [eg]; omega) (by rw [eg]; omega), eg]
    simp only [Int.natCast_ediv]
  have hq0 : 0 < d.natAbs / Int.gcd n d := Nat.div_pos (Nat.le_of_dvd (by omega) gd) g0
  have cop : Nat.gcd (n.natAbs / Int.gcd n d) (d.natAbs / Int.gcd n d) = 1 := Nat.coprime_div_gcd_div_gcd (by simpa [Int.gcd] using g0)
  have em : (n.natAbs / Int.gcd n d) * d.natAbs = n.natAbs * (d.natAbs / Int.gcd n d) := by
    obtain ⟨x, hx⟩ := gn
    obtain ⟨y, hy⟩ := gd
    have e1 : n.natAbs / Int.gcd n d = x := by rw [hx]; exact Nat.mul_div_cancel_left x g0
    have e2 : d.natAbs / Int.gcd n d = y := by rw [hy]; exact Nat.mul_div_cancel_left y g0
    rw [e1, e2]
    generalize Int.gcd n d = g at *
    rw [hx, hy]; ac_rfl
  have lp := Nat.div_le_self n.natAbs (Int.gcd n d)
  have lq := Nat.div_le_self d.natAbs (Int.gcd n d)
  generalize hp : n.natAbs / Int.gcd n d = P at *
  generalize hq : d.natAbs / Int.gcd n d = Q at *
  have em2 : (P : Int) * (d.natAbs : Int) = (n.natAbs : Int) * (Q : Int) := by exact_mod_cast em
  have keyT : frac_lowest.f k true (n.natAbs : Int) (d.natAbs : Int) = some (-(P : Int), (Q : Int), 0) := by rw [key]; simp
  have keyF : frac_lowest.f k false (n.natAbs : Int) (d.natAbs : Int) = some ((P : Int), (Q : Int), 0) := by rw [key]; simp
  clear key
  unfold frac_Of.f
  rw [if_neg hd, fsize_any n hn1 hn2, fsize_any d hd1 hd2]
  simp only [Option.bind_some]
  have mk : ∀ s : Int, (s = P ∧ s * d = n * Q ∨ s = -P ∧ s * d = n * Q) → IsF s Q n d := by
    rintro s (⟨rfl, e⟩ | ⟨rfl, e⟩)
    · exact ⟨by omega, by simpa [Int.gcd] using cop, e, by simpa using lp, by omega⟩
    · exact ⟨by omega, by simpa [Int.gcd] using cop, e, by simpa using lp, by omega⟩
  by_cases cn : n < 0 <;> by_cases cd : d < 0
  · rw [decide_eq_true cn, decide_eq_true cd, if_neg (by decide), keyF]
    refine ⟨_, _, rfl, mk _ (.inl ⟨rfl, ?_⟩)⟩
    rw [show (d.natAbs : Int) = -d from by omega, show (n.natAbs : Int) = -n from by omega] at em2
    simp only [Int.mul_neg, Int.neg_mul] at em2
    show (P : Int) * d = n * Q
    omega
  · rw [decide_eq_true cn, decide_eq_false cd, if_pos (by decide), show (n != 0) = true from bne_iff_ne.mpr (by omega), keyT]
    refine ⟨_, _, rfl, mk _ (.inr ⟨rfl, ?_⟩)⟩
    rw [show (d.natAbs : Int) = d from by omega, show (n.natAbs : Int) = -n from by omega] at em2
    simp only [Int.neg_mul] at em2
    rw [Int.neg_mul]
    omega
  · rw [decide_eq_false cn, decide_eq_true cd, if_pos (by decide)]
    rw [show (d.natAbs : Int) = -d from by omega, show (n.natAbs : Int) = n from by omega] at em2
    simp only [Int.mul_neg] at em2
    by_cases z : n = 0
    · subst z
      have hP : P = 0 := by simp at hp; omega
      rw [show ((0 : Int) != 0) = false from rfl, keyF]
      refine ⟨_, _, rfl, mk _ (.inl ⟨rfl, ?_⟩)⟩
      show (P : Int) * d = 0 * Q
      rw [hP]; simp
    · rw [show (n != 0) = true from bne_iff_ne.mpr z, keyT]
      refine ⟨_, _, rfl, mk _ (.inr ⟨rfl, ?_⟩)⟩
      rw [Int.neg_mul]
      omega
  · rw [decide_eq_false cn, decide_eq_false cd, if_neg (by decide), keyF]
    refine ⟨_, _, rfl, mk _ (.inl ⟨rfl, ?_⟩)⟩
    rw [show (d.natAbs : Int) = d from by omega, show (n.natAbs : Int) = n from by omega] at em2
    exact em2
theorem dvd_cop {q a b : Int} (h : q ∣ a * b) (hc : Int.gcd q a = 1) : q ∣ b := by
  have h1 : q.natAbs ∣ a.natAbs * b.natAbs := by rw [← Int.natAbs_mul]; exact Int.natAbs_dvd_natAbs.mpr h
  exact Int.natAbs_dvd_natAbs.mp (Nat.Coprime.dvd_of_dvd_mul_left (show Nat.Coprime q.natAbs a.natAbs from hc) h1)
/-- Two fractions in lowest terms that are equal are the same. -/
theorem frac_unique {p q p' q' : Int} (hq : 1 ≤ q) (hq' : 1 ≤ q') (h : Int.gcd p q = 1) (h' : Int.gcd p' q' = 1) (e : p * q' = p' * q) : p = p' ∧ q = q' := by
  have d1 : q ∣ q' := by
    have : q ∣ p * q' := by rw [e]; exact Int.dvd_mul_left ..
    exact dvd_cop this (by rw [Int.gcd_comm]; exact h)
  have d2 : q' ∣ q := by
    have : q' ∣ p' * q := by rw [← e]; exact Int.dvd_mul_left ..
    exact dvd_cop this (by rw [Int.gcd_comm]; exact h')
  have hqq : q = q' := Int.le_antisymm (Int.le_of_dvd (by omega) d1) (Int.le_of_dvd (by omega) d2)
  subst hqq
  exact ⟨Int.eq_of_mul_eq_mul_right (by omega) e, rfl⟩
theorem fcheck_ok (k : Nat) (p q : Int) (h1 : 1 ≤ q) (h2 : q ≤ 2147483647) (h3 : -2147483647 ≤ p) (h4 : p ≤ 2147483647) (hg : Int.gcd p q = 1) (hk : q + 1 < k) : frac_Check.f k p q = some 0 := by
  obtain ⟨k, rfl⟩ : ∃ j, k = j + 1 := ⟨k - 1, by omega⟩
  unfold frac_Check.f
  rw [if_neg (by omega), if_neg (by omega), if_neg (by omega), decide_eq_false (by omega)]
  simp only [frac_Check.j0]
  rw [if_neg (by decide), wgcd_is k p q (by omega) (by omega) (by omega) (by omega) (by omega), hg]
  simp only [Option.bind_some]
  rw [if_pos (by decide)]
theorem both_ok (k : Nat) (p q p' q' : Int) (h1 : 1 ≤ q) (h2 : q ≤ 2147483647) (h3 : -2147483647 ≤ p) (h4 : p ≤ 2147483647) (hg : Int.gcd p q = 1) (hk : q + 1 < k)
    (h1' : 1 ≤ q') (h2' : q' ≤ 2147483647) (h3' : -2147483647 ≤ p') (h4' : p' ≤ 2147483647) (hg' : Int.gcd p' q' = 1) (hk' : q' + 1 < k) : frac_both.f k p q p' q' = some 0 := by
  unfold frac_both.f
  rw [fcheck_ok k p q h1 h2 h3 h4 hg hk]
  simp only [Option.bind_some]
  rw [if_pos trivial, fcheck_ok k p' q' h1' h2' h3' h4' hg' hk']
  simp only [Option.bind_some]
/-- A fraction that is small enough: |p| at most A, q at most B. -/
structure Sm (p q A B : Int) : Prop where
  q1 : 1 ≤ q
  qB : q ≤ B
  pl : -A ≤ p
  pu : p ≤ A
  g : Int.gcd p q = 1
theorem Sm.mk_of {p q n d A B : Int} (h : IsF p q n d) (hA : (n.natAbs : Int) ≤ A) (hB : (d.natAbs : Int) ≤ B) : Sm p q A B := ⟨h.pos, by have := h.leq; omega, by have := h.le; omega, by have := h.le; omega, h.cop⟩
theorem mul_bd {a b A B : Int} (h1 : -A ≤ a) (h2 : a ≤ A) (h3 : -B ≤ b) (h4 : b ≤ B) : -(A * B) ≤ a * b ∧ a * b ≤ A * B := by
  have e : ((a * b).natAbs : Int) = (a.natAbs : Int) * (b.natAbs : Int) := by rw [Int.natAbs_mul]; simp
  have : (a.natAbs : Int) * (b.natAbs : Int) ≤ A * B := Int.mul_le_mul (by omega) (by omega) (by omega) (by omega)
  omega
theorem of_sm (k : Nat) (n d A B : Int) (hd : d ≠ 0) (hA : (n.natAbs : Int) ≤ A) (hB : (d.natAbs : Int) ≤ B) (hA2 : A ≤ 2147483647) (hB2 : B ≤ 2147483647) (hk : B + 1 < k) :
    ∃ p q, frac_Of.f k n d = some (p, q, 0) ∧ IsF p q n d ∧ Sm p q A B := by
  have l1 := Nat.div_le_self n.natAbs (Int.gcd n d)
  have l2 := Nat.div_le_self d.natAbs (Int.gcd n d)
  obtain ⟨p, q, e, h⟩ := of_is k n d hd (by omega) (by omega) (by omega) (by omega) (by omega) (by omega) (by omega)
  exact ⟨p, q, e, h, Sm.mk_of h hA hB⟩

theorem add_sm (k : Nat) {a b c d A B C D : Int} (hx : Sm a b A B) (hy : Sm c d C D) (h1 : A * D + C * B ≤ 2147483647) (h2 : B * D ≤ 2147483647) (hA : 1 ≤ A) (hC : 1 ≤ C) (hk : B * D + 1 < k) (hk1 : B + 1 < k) (hk2 : D + 1 < k) (hA3 : A ≤ 2147483647) (hB3 : B ≤ 2147483647) (hC3 : C ≤ 2147483647) (hD3 : D ≤ 2147483647) :
    ∃ p q, frac_Add.f k a b c d = some (p, q, 0) ∧ IsF p q (a * d + c * b) (b * d) ∧ Sm p q (A * D + C * B) (B * D) := by
  obtain ⟨x1, x2, x3, x4, xg⟩ := hx
  obtain ⟨y1, y2, y3, y4, yg⟩ := hy
  have m1 := mul_bd x3 x4 (show -D ≤ d by omega) y2
  have m2 := mul_bd y3 y4 (show -B ≤ b by omega) x2
  have m3 := mul_bd (show -B ≤ b by omega) x2 (show -D ≤ d by omega) y2
  have m4 : 0 < b * d := Int.mul_pos (by omega) (by omega)
  obtain ⟨p, q, e, h, s⟩ := of_sm k (a * d + c * b) (b * d) (A * D + C * B) (B * D) (by omega) (by omega) (by omega) h1 h2 hk
  refine ⟨p, q, ?_, h, s⟩
  unfold frac_Add.f
  rw [both_ok k a b c d x1 (by omega) (by omega) (by omega) xg (by omega) y1 (by omega) (by omega) (by omega) yg (by omega)]
  simp only [Option.bind_some]
  rw [if_pos trivial, w64 (n := a * d) (by omega) (by omega), w64 (n := c * b) (by omega) (by omega), w64 (by omega) (by omega), w64 (n := b * d) (by omega) (by omega), e]
  simp only [Option.bind_some]
theorem sub_sm (k : Nat) {a b c d A B C D : Int} (hx : Sm a b A B) (hy : Sm c d C D) (h1 : A * D + C * B ≤ 2147483647) (h2 : B * D ≤ 2147483647) (hA : 1 ≤ A) (hC : 1 ≤ C) (hk : B * D + 1 < k) (hk1 : B + 1 < k) (hk2 : D + 1 < k) (hA3 : A ≤ 2147483647) (hB3 : B ≤ 2147483647) (hC3 : C ≤ 2147483647) (hD3 : D ≤ 2147483647) :
    ∃ p q, frac_Sub.f k a b c d = some (p, q, 0) ∧ IsF p q (a * d - c * b) (b * d) ∧ Sm p q (A * D + C * B) (B * D) := by
  obtain ⟨x1, x2, x3, x4, xg⟩ := hx
  obtain ⟨y1, y2, y3, y4, yg⟩ := hy
  have m1 := mul_bd x3 x4 (show -D ≤ d by omega) y2
  have m2 := mul_bd y3 y4 (show -B ≤ b by omega) x2
  have m3 := mul_bd (show -B ≤ b by omega) x2 (show -D ≤ d by omega) y2
  have m4 : 0 < b * d := Int.mul_pos (by omega) (by omega)
  obtain ⟨p, q, e, h, s⟩ := of_sm k (a * d - c * b) (b * d) (A * D + C * B) (B * D) (by omega) (by omega) (by omega) h1 h2 hk
  refine ⟨p, q, ?_, h, s⟩
  unfold frac_Sub.f
  rw [both_ok k a b c d x1 (by omega) (by omega) (by omega) xg (by omega) y1 (by omega) (by omega) (by omega) yg (by omega)]
  simp only [Option.bind_some]
  rw [if_pos trivial, w64 (n := a * d) (by omega) (by omega), w64 (n := c * b) (by omega) (by omega), w64 (by omega) (by omega), w64 (n := b * d) (by omega) (by omega), e]
  simp only [Option.bind_some]
theorem mul_sm (k : Nat) {a b c d A B C D : Int} (hx : Sm a b A B) (hy : Sm c d C D) (h1 : A * C ≤ 2147483647) (h2 : B * D ≤ 2147483647) (hA : 1 ≤ A) (hC : 1 ≤ C) (hk : B * D + 1 < k) (hk1 : B + 1 < k) (hk2 : D + 1 < k) (hA3 : A ≤ 2147483647) (hB3 : B ≤ 2147483647) (hC3 : C ≤ 2147483647) (hD3 : D ≤ 2147483647) :
    ∃ p q, frac_Mul.f k a b c d = some (p, q, 0) ∧ IsF p q (a * c) (b * d) ∧ Sm p q (A * C) (B * D) := by
  obtain ⟨x1, x2, x3, x4, xg⟩ := hx
  obtain ⟨y1, y2, y3, y4, yg⟩ := hy
  have m1 := mul_bd x3 x4 y3 y4
  have m3 := mul_bd (show -B ≤ b by omega) x2 (show -D ≤ d by omega) y2
  have m4 : 0 < b * d := Int.mul_pos (by omega) (by omega)
  obtain ⟨p, q, e, h, s⟩ := of_sm k (a * c) (b * d) (A * C) (B * D) (by omega) (by omega) (by omega) h1 h2 hk
  refine ⟨p, q, ?_, h, s⟩
  unfold frac_Mul.f
  rw [both_ok k a b c d x1 (by omega) (by omega) (by omega) xg (by omega) y1 (by omega) (by omega) (by omega) yg (by omega)]
  simp only [Option.bind_some]
  rw [if_pos trivial, w64 (n := a * c) (by omega) (by omega), w64 (n := b * d) (by omega) (by omega), e]
  simp only [Option.bind_some]
theorem div_sm (k : Nat) {a b c d A B C D : Int} (hx : Sm a b A B) (hy : Sm c d C D) (hc : c ≠ 0) (h1 : A * D ≤ 2147483647) (h2 : B * C ≤ 2147483647) (hA : 1 ≤ A) (hC : 1 ≤ C) (hk : B * C + 1 < k) (hk1 : B + 1 < k) (hk2 : D + 1 < k) (hA3 : A ≤ 2147483647) (hB3 : B ≤ 2147483647) (hC3 : C ≤ 2147483647) (hD3 : D ≤ 2147483647) :
    ∃ p q, frac_Div.f k a b c d = some (p, q, 0) ∧ IsF p q (a * d) (b * c) := by
  obtain ⟨x1, x2, x3, x4, xg⟩ := hx
  obtain ⟨y1, y2, y3, y4, yg⟩ := hy
  have m1 := mul_bd x3 x4 (show -D ≤ d by omega) y2
  have m3 := mul_bd (show -B ≤ b by omega) x2 y3 y4
  have m4 : b * c ≠ 0 := Int.mul_ne_zero (by omega) hc
  obtain ⟨p, q, e, h, s⟩ := of_sm k (a * d) (b * c) (A * D) (B * C) m4 (by omega) (by omega) h1 h2 hk
  refine ⟨p, q, ?_, h⟩
  unfold frac_Div.f
  rw [both_ok k a b c d x1 (by omega) (by omega) (by omega) xg (by omega) y1 (by omega) (by omega) (by omega) yg (by omega)]
  simp only [Option.bind_some]
  rw [if_pos trivial, w64 (n := a * d) (by omega) (by omega), w64 (n := b * c) (by omega) (by omega), e]
  simp only [Option.bind_some]

theorem small_is (k : Nat) (a b : Int) (hk : 61 < k) : ∃ p q, ephemeriskeep1_small.f k a b = some (p, q) ∧ Sm p q 500 60 := by
  obtain ⟨n, en, n1, n2, -⟩ := cut_is a (-500) 1001 (by omega) (by omega) (by omega) (by omega)
  obtain ⟨d, ed, d1, d2, -⟩ := cut_is b 1 60 (by omega) (by omega) (by omega) (by omega)
  obtain ⟨p, q, e, -, s⟩ := of_sm k n d 500 60 (by omega) (by omega) (by omega) (by omega) (by omega) (by omega)
  refine ⟨p, q, ?_, s⟩
  unfold ephemeriskeep1_small.f
  rw [en]; simp only [Option.bind_some]
  rw [ed]; simp only [Option.bind_some]
  rw [e]; simp only [Option.bind_some]
theorem distrib {x1 x2 y1 y2 z1 z2 s1 s2 l1 l2 u1 u2 v1 v2 r1 r2 : Int} (hx : 1 ≤ x2) (hy : 1 ≤ y2) (hz : 1 ≤ z2) (hs : 1 ≤ s2) (hu : 1 ≤ u2) (hv : 1 ≤ v2)
    (es : s1 * (x2 * y2) = (x1 * y2 + y1 * x2) * s2) (el : l1 * (s2 * z2) = s1 * z1 * l2) (eu : u1 * (x2 * z2) = x1 * z1 * u2) (ev : v1 * (y2 * z2) = y1 * z1 * v2) (er : r1 * (u2 * v2) = (u1 * v2 + v1 * u2) * r2) :
    l1 * r2 = r1 * l2 := by
  have a : l1 * (x2 * y2 * z2) = (x1 * y2 + y1 * x2) * z1 * l2 := by
    apply Int.eq_of_mul_eq_mul_right (show s2 ≠ 0 by omega)
    grind
  have b : r1 * (x2 * y2 * z2) = (x1 * y2 + y1 * x2) * z1 * r2 := by
    apply Int.eq_of_mul_eq_mul_right (show u2 * v2 * z2 ≠ 0 from Int.mul_ne_zero (Int.mul_ne_zero (by omega) (by omega)) (by omega))
    grind
  apply Int.eq_of_mul_eq_mul_right (show x2 * y2 * z2 ≠ 0 from Int.mul_ne_zero (Int.mul_ne_zero (by omega) (by omega)) (by omega))
  grind
theorem back_eq {x1 x2 y1 y2 s1 s2 b1 b2 : Int} (hx : 1 ≤ x2) (hy : 1 ≤ y2) (hs : 1 ≤ s2) (es : s1 * (x2 * y2) = (x1 * y2 + y1 * x2) * s2) (eb : b1 * (s2 * y2) = (s1 * y2 - y1 * s2) * b2) : b1 * x2 = x1 * b2 := by
  apply Int.eq_of_mul_eq_mul_right (show s2 * y2 * y2 ≠ 0 from Int.mul_ne_zero (Int.mul_ne_zero (by omega) (by omega)) (by omega))
  grind
theorem quot_eq {x1 x2 z1 z2 u1 u2 q1 q2 : Int} (hz : 1 ≤ z2) (hu : 1 ≤ u2) (h0 : z1 ≠ 0) (eu : u1 * (x2 * z2) = x1 * z1 * u2) (eq : q1 * (u2 * z1) = u1 * z2 * q2) : q1 * x2 = x1 * q2 := by
  apply Int.eq_of_mul_eq_mul_right (show u2 * z1 ≠ 0 from Int.mul_ne_zero (by omega) h0)
  grind
theorem FracField : ephemeriskeep1_FracField.Pure := by
  intro a b c d e f ha hb hc hd he hf
  refine ⟨100000002, ?_⟩
  have half : Sm 1 2 1 2 := ⟨by omega, by omega, by omega, by omega, by decide⟩
  obtain ⟨p, q, e0, i0, -⟩ := add_sm 100000002 half half (by omega) (by omega) (by omega) (by omega) (by omega) (by omega) (by omega) (by omega) (by omega) (by omega) (by omega)
  obtain ⟨rfl, rfl⟩ := frac_unique i0.pos (show (1 : Int) ≤ 1 by omega) i0.cop (by decide) (show p * 1 = 1 * q by have := i0.eq; omega)
  obtain ⟨x1, x2, ex, sx⟩ := small_is 100000001 a b (by omega)
  obtain ⟨y1, y2, ey, sy⟩ := small_is 100000001 c d (by omega)
  obtain ⟨z1, z2, ez, sz⟩ := small_is 100000001 e f (by omega)
  obtain ⟨s1, s2, es, is, ss⟩ := add_sm 100000001 sx sy (by omega) (by omega) (by omega) (by omega) (by omega) (by omega) (by omega) (by omega) (by omega) (by omega) (by omega)
  obtain ⟨t1, t2, et, it, st⟩ := add_sm 100000001 sy sx (by omega) (by omega) (by omega) (by omega) (by omega) (by omega) (by omega) (by omega) (by omega) (by omega) (by omega)
  obtain ⟨l1, l2, el, il, sl⟩ := mul_sm 100000001 ss sz (by omega) (by omega) (by omega) (by omega) (by omega) (by omega) (by omega) (by omega) (by omega) (by omega) (by omega)
  obtain ⟨u1, u2, eu, iu, su⟩ := mul_sm 100000001 sx sz (by omega) (by omega) (by omega) (by omega) (by omega) (by omega) (by omega) (by omega) (by omega) (by omega) (by omega)
  obtain ⟨v1, v2, ev, iv, sv⟩ := mul_sm 100000001 sy sz (by omega) (by omega) (by omega) (by omega) (by omega) (by omega) (by omega) (by omega) (by omega) (by omega) (by omega)
  obtain ⟨r1, r2, er, ir, -⟩ := add_sm 100000001 su sv (by omega) (by omega) (by omega) (by omega) (by omega) (by omega) (by omega) (by omega) (by omega) (by omega) (by omega)
  obtain ⟨b1, b2, eb, ib, -⟩ := sub_sm 100000000 ss sy (by omega) (by omega) (by omega) (by omega) (by omega) (by omega) (by omega) (by omega) (by omega) (by omega) (by omega)
  obtain ⟨rfl, rfl⟩ := frac_unique it.pos is.pos it.cop is.cop (show t1 * s2 = s1 * t2 by
    have e1 := is.eq
    have e2 := it.eq
    have := sx.q1
    have := sy.q1
    apply Int.eq_of_mul_eq_mul_right (show x2 * y2 ≠ 0 from Int.mul_ne_zero (by omega) (by omega))
    grind)
  obtain ⟨rfl, rfl⟩ := frac_unique il.pos ir.pos il.cop ir.cop (distrib sx.q1 sy.q1 sz.q1 ss.q1 su.q1 sv.q1 is.eq il.eq iu.eq iv.eq ir.eq)
  obtain ⟨rfl, rfl⟩ := frac_unique ib.pos sx.q1 ib.cop sx.g (back_eq sx.q1 sy.q1 ss.q1 is.eq ib.eq)
  unfold ephemeriskeep1_FracField.f
  rw [e0]
  simp only [Option.bind_some]
  rw [if_neg (by decide)]
  simp only [ephemeriskeep1_FracField.j0]
  rw [if_neg (by decide), ex]
  simp only [Option.bind_some]
  rw [ey]
  simp only [Option.bind_some]
  rw [ez]
  simp only [Option.bind_some]
  rw [es]
  simp only [Option.bind_some]
  rw [et]
  simp only [Option.bind_some]
  rw [el]
  simp only [Option.bind_some]
  rw [eu]
  simp only [Option.bind_some]
  rw [ev]
  simp only [Option.bind_some]
  rw [er]
  simp only [Option.bind_some]
  rw [if_neg (by simp)]
  simp only [ephemeriskeep1_FracField.j1]
  rw [if_neg (by simp), eb]
  simp only [Option.bind_some]
  rw [if_neg (by simp)]
  by_cases z0 : z1 = 0
  · rw [if_pos z0]
  · rw [if_neg z0]
    obtain ⟨q1, q2, eq, iq⟩ := div_sm 100000000 su sz z0 (by omega) (by omega) (by omega) (by omega) (by omega) (by omega) (by omega) (by omega) (by omega) (by omega) (by omega)
    obtain ⟨rfl, rfl⟩ := frac_unique iq.pos sx.q1 iq.cop sx.g (quot_eq sz.q1 su.q1 z0 iu.eq iq.eq)
    rw [eq]
    simp only [Option.bind_some]
    rw [if_pos trivial]
    simp

end Go.Proofs.Ytboddbgmgcjppaa.Pure
