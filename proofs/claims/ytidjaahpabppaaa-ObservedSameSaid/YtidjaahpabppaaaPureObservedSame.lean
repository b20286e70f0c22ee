/- ObservedSame: the table of a rule gives the dates of the rule, over plain values. -/
import Derived.Test.YtidjaahpabppaaaQObservedSamex24
import Derived.Test.YtidjaahpabppaaaStmtObservedSame
set_option linter.unusedVariables false
set_option linter.unusedSimpArgs false
namespace Go.Proofs.Ytidjaahpabppaaa.Pure
open Go.RowKit Go.Proofs.Ytidjaahpabppaaa.QObservedSame Go.Proofs.YtidjaahpabppaaaW.PrintWords Go.Proofs.YtidjaahpabppaaaW.PrintLast
theorem lit64 {a : Int} (h : (Go.Lit.int .i64 a).wf = true) : -9223372036854775808 ≤ a ∧ a ≤ 9223372036854775807 := by
 simp only [Go.Lit.wf, Bool.and_eq_true, decide_eq_true_eq] at h
 have h1 : Go.IntKind.i64.min = -9223372036854775808 := by decide
 have h2 : Go.IntKind.i64.max = 9223372036854775807 := by decide
 omega
theorem w64 {n : Int} (h1 : -9223372036854775808 ≤ n) (h2 : n ≤ 9223372036854775807) : wrap64 n = n := by unfold wrap64; omega
theorem tmod_pos {a b : Int} (ha : 0 ≤ a) : Int.tmod a b = a % b := by rw [Int.tmod_eq_emod, if_pos (Or.inl ha)]; simp
theorem tdiv_pos {a b : Int} (ha : 0 ≤ a) : Int.tdiv a b = a / b := by rw [Int.tdiv_eq_ediv, if_pos (Or.inl ha)]; simp
theorem tmod_bounds {a b : Int} (hb : 0 < b) : -b < Int.tmod a b ∧ Int.tmod a b < b ∧ (0 ≤ a → 0 ≤ Int.tmod a b) ∧ (a ≤ 0 → Int.tmod a b ≤ 0) := by
 rw [Int.tmod_eq_emod]
 have h1 := Int.emod_nonneg a (show b ≠ 0 by omega)
 have h2 := Int.emod_lt_of_pos a hb
 split
 ·rename_i h
  refine ⟨by omega, by omega, fun _ => by omega, fun h0 => ?_⟩
  rcases h with h | h
  ·have : a = 0 := by omega
   subst this; simp
  ·rw [Int.emod_eq_zero_of_dvd h]; simp
 ·refine ⟨by omega, by omega, fun _ => by omega, fun _ => by omega⟩
theorem tmod_cases {a b : Int} (hb : 0 < b) : (Int.tmod a b = a % b ∧ Int.tdiv a b = a / b ∧ (0 ≤ a ∨ a % b = 0)) ∨ (a < 0 ∧ a % b ≠ 0 ∧ Int.tmod a b = a % b - b ∧ Int.tdiv a b = a / b + 1) := by
 by_cases h : 0 ≤ a ∨ b ∣ a
 ·left
  refine ⟨by rw [Int.tmod_eq_emod, if_pos h]; simp, by rw [Int.tdiv_eq_ediv, if_pos h]; simp, h.imp id Int.emod_eq_zero_of_dvd⟩
 ·right
  have h' := not_or.mp h
  refine ⟨by omega, fun e => h'.2 (Int.dvd_of_emod_eq_zero e), ?_, ?_⟩
  ·rw [Int.tmod_eq_emod, if_neg h]; omega
  ·rw [Int.tdiv_eq_ediv, if_neg h, Int.sign_eq_one_of_pos hb]
theorem ediv_range {a b : Int} (hb : 0 < b) (h1 : -9223372036854775808 ≤ a) (h2 : a ≤ 9223372036854775807) : -9223372036854775808 ≤ a / b ∧ a / b ≤ 9223372036854775807 := by
 have e := Int.mul_ediv_add_emod a b
 have l := Int.emod_nonneg a (show b ≠ 0 by omega)
 have u := Int.emod_lt_of_pos a hb
 constructor
 ·by_cases c : 0 ≤ a
  ·have := Int.ediv_nonneg c (show 0 ≤ b by omega); omega
  ·have : a ≤ a / b := by
    rw [Int.le_ediv_iff_mul_le hb]
    have : a * b ≤ a * 1 := Int.mul_le_mul_of_nonpos_left (by omega) (by omega)
    omega
   omega
 ·by_cases c : 0 ≤ a
  ·have : a / b ≤ a := Int.ediv_le_self b c
   omega
  ·have : a / b ≤ 0 := by
    have : a / b < 0 := Int.ediv_neg_of_neg_of_pos (by omega) hb
    omega
   omega
theorem mod_twice {a b : Int} (hb : 0 < b) (hb2 : b ≤ 4611686018427387904) : Int.tmod (wrap64 ((Int.tmod a b) + b)) b = a % b := by
 have hc := tmod_bounds (a := a) hb
 have h1 := Int.emod_nonneg a (show b ≠ 0 by omega)
 have h2 := Int.emod_lt_of_pos a hb
 rw [w64 (by omega) (by omega)]
 rw [tmod_pos (by omega)]
 rcases tmod_cases (a := a) hb with ⟨e, _, _⟩ | ⟨_, _, e, _⟩
 ·rw [e]; simp
 ·rw [e, show a % b - b + b = a % b from by omega]; simp
theorem mod_is (a b : Int) (hb : 0 < b) (hb2 : b ≤ 4611686018427387904) : ephemeriskeep1_mod.f a b = some (a % b) := by
 unfold ephemeriskeep1_mod.f
 rw [if_neg (by omega), mod_twice hb hb2]
theorem cut_is (a l n : Int) (hn : 0 < n) (hn2 : n ≤ 4611686018427387904) (h1 : -4611686018427387904 ≤ l) (h2 : l ≤ 4611686018427387904) :
  ∃ r, ephemeriskeep1_cut.f a l n = some r ∧ l ≤ r ∧ r < l + n ∧ r = l + a % n := by
 have h3 := Int.emod_nonneg a (show n ≠ 0 by omega)
 have h4 := Int.emod_lt_of_pos a hn
 refine ⟨l + a % n, ?_, by omega, by omega, rfl⟩
 unfold ephemeriskeep1_cut.f
 rw [mod_is a n hn hn2, Option.bind_some, w64 (by omega) (by omega)]
theorem gcd_step (x y : Int) (hx : 0 ≤ x) (hy : 0 < y) : Int.gcd y (x % y) = Int.gcd x y := by
 obtain ⟨m, rfl⟩ := Int.eq_ofNat_of_zero_le hx
 obtain ⟨n, rfl⟩ := Int.eq_ofNat_of_zero_le (show 0 ≤ y by omega)
 rw [← Int.natCast_emod]
 simp only [Int.gcd_natCast_natCast]
 rw [Nat.gcd_comm m n, Nat.gcd_comm n (m % n), ← Nat.gcd_rec]
theorem gcd_loop (d : Nat) : ∀ (k : Nat) (x y : Int), 0 ≤ x → x ≤ 9223372036854775807 → 0 ≤ y → y ≤ 9223372036854775807 → y ≤ d → d < k → whole_Gcd.l0 k x y = some ((Int.gcd x y : Int), 0) := by
 have fin : ∀ (k : Nat) (x : Int), 0 ≤ x → x ≤ 9223372036854775807 → whole_Gcd.l0 (k + 1) x 0 = some ((Int.gcd x 0 : Int), 0) := by
  intro k x h0 h1
  simp only [whole_Gcd.l0]
  rw [if_pos trivial, if_neg (by omega), w64 (by omega) h1]
  congr 2
  simp [Int.gcd]; omega
 induction d with
 | zero =>
  intro k x y h0 h1 h2 h4 h3 hk
  obtain ⟨k, rfl⟩ : ∃ m, k = m + 1 := ⟨k - 1, by omega⟩
  obtain rfl : y = 0 := by omega
  exact fin k x h0 h1
 | succ d ih =>
  intro k x y h0 h1 h2 h4 h3 hk
  obtain ⟨k, rfl⟩ : ∃ m, k = m + 1 := ⟨k - 1, by omega⟩
  by_cases z : y = 0
  ·subst z
   exact fin k x h0 h1
  ·have l := Int.emod_nonneg x z
   have u := Int.emod_lt_of_pos x (show 0 < y by omega)
   simp only [whole_Gcd.l0]
   rw [if_neg z, tmod_pos h0, ih k y (x % y) h2 h4 l (by omega) (by omega) (by omega), gcd_step x y h0 (by omega)]
theorem size_any (a : Int) (h1 : -9223372036854775807 ≤ a) (h2 : a ≤ 9223372036854775807) : whole_size.f a = some (a.natAbs : Int) := by
 unfold whole_size.f
 have e : ∀ x : Int, Go.IntKind.u64.wrap x = x % 18446744073709551616 := fun x => by simp [Go.IntKind.wrap, Go.IntKind.signed, Go.IntKind.bits]
 rw [e, e]
 by_cases c : a < 0
 ·rw [if_pos c]; congr 1; omega
 ·rw [if_neg c]; congr 1; omega
theorem wgcd_is (k : Nat) (a b : Int) (ha1 : -9223372036854775807 ≤ a) (ha2 : a ≤ 9223372036854775807) (hb1 : -9223372036854775807 ≤ b) (hb2 : b ≤ 9223372036854775807) (hk : b.natAbs < k) :
  whole_Gcd.f k a b = some ((Int.gcd a b : Int), 0) := by
 unfold whole_Gcd.f
 rw [size_any a ha1 ha2, Option.bind_some, size_any b hb1 hb2, Option.bind_some, gcd_loop b.natAbs k _ _ (by omega) (by omega) (by omega) (by omega) (by omega) hk]
 simp [Int.gcd]
theorem div_is (k : Nat) (a b : Int) (hb : 0 < b) (h1 : -9223372036854775808 ≤ a) (h2 : a ≤ 9223372036854775807) (hb2 : b ≤ 4611686018427387904) :
  whole_Div.f (k + 1) a b = some (a / b, a % b, 0) := by
 have hj : whole_Div.j0 (k + 1) a b false = some (a / b, a % b, 0) := by
  have hm1 := Int.emod_nonneg a (show b ≠ 0 by omega)
  have hm2 := Int.emod_lt_of_pos a hb
  have hr := ediv_range hb h1 h2
  simp only [whole_Div.j0]
  rw [if_neg (by decide), if_neg (by omega)]
  rcases tmod_cases (a := a) hb with ⟨e, e', c⟩ | ⟨c, c', e, e'⟩
  ·rw [e, e', w64 hr.1 hr.2]
   by_cases z : a % b = 0
   ·rw [if_pos z, z]
   ·rw [if_neg z, if_neg]
    have hd1 : decide (a % b < 0) = false := decide_eq_false (by omega)
    have hd2 : decide (b < 0) = false := decide_eq_false (by omega)
    rw [hd1, hd2]; decide
  ·rw [e, e']
   have hr2 : a / b < 0 := Int.ediv_neg_of_neg_of_pos c hb
   rw [w64 (by omega) (by omega)]
   have hd1 : decide (a % b - b < 0) = true := decide_eq_true (by omega)
   have hd2 : decide (b < 0) = false := decide_eq_false (by omega)
   rw [if_neg (by omega), hd1, hd2, if_pos (by decide), w64 (by omega) (by omega), w64 (by omega) (by omega)]
   congr 2
   ·omega
   ·congr 1; omega
 unfold whole_Div.f
 rw [if_neg (by omega)]
 by_cases c : a = -9223372036854775808
 ·rw [if_pos c]
  have : (b == -1) = false := beq_eq_false_iff_ne.mpr (by omega)
  rw [this]; exact hj
 ·rw [if_neg c]; exact hj
theorem wmod_is (a b : Int) (hb : 0 < b) (hb2 : b ≤ 4611686018427387904) : whole_Mod.f a b = some (a % b) := by
 have hc := tmod_bounds (a := a) hb
 have h1 := Int.emod_nonneg a (show b ≠ 0 by omega)
 have h2 := Int.emod_lt_of_pos a hb
 unfold whole_Mod.f
 rw [if_neg (by omega)]
 rcases tmod_cases (a := a) hb with ⟨e, _, c⟩ | ⟨c, c', e, _⟩
 ·rw [e, if_neg (by omega)]
 ·rw [e, if_pos (by omega), w64 (by omega) (by omega)]
  congr 1; omega
theorem check_ok (d : Int) (h1 : -4000000 ≤ d) (h2 : d ≤ 4000000) : line_Check.f d = some 0 := by
 unfold line_Check.f
 rw [if_neg (by omega), if_neg (by omega)]
theorem check_bad (d : Int) (h : d < -4000000 ∨ 4000000 < d) : line_Check.f d = some 3 := by
 unfold line_Check.f
 by_cases c : d < -4000000
 ·rw [if_pos c]
 ·rw [if_neg c, if_pos (by omega)]
/-! A rule of a calendar by mean months. -/
theorem mulb {a b A B : Int} (h1 : -A ≤ a) (h2 : a ≤ A) (h3 : 0 ≤ b) (h4 : b ≤ B) (hA : 0 ≤ A) : -(A * B) ≤ a * b ∧ a * b ≤ A * B := by
 have e1 : a * b ≤ A * b := Int.mul_le_mul_of_nonneg_right h2 h3
 have e2 : A * b ≤ A * B := Int.mul_le_mul_of_nonneg_left h4 hA
 have e3 : -A * b ≤ a * b := Int.mul_le_mul_of_nonneg_right h1 h3
 rw [Int.neg_mul] at e3
 omega
theorem fcheck_any (k : Nat) (p q : Int) (hp1 : -9223372036854775808 ≤ p) (hp2 : p ≤ 9223372036854775807) (hk : 2147483650 < k) :
  (frac_Check.f k p q = some 0 ∧ 1 ≤ q ∧ q ≤ 2147483647 ∧ -2147483647 ≤ p ∧ p ≤ 2147483647 ∧ Int.gcd p q = 1) ∨ (¬ (1 ≤ q ∧ q ≤ 2147483647 ∧ -2147483647 ≤ p ∧ p ≤ 2147483647 ∧ Int.gcd p q = 1) ∧ ∃ c, c ≠ 0 ∧ frac_Check.f k p q = some c) := by
 obtain ⟨k, rfl⟩ : ∃ m, k = m + 1 := ⟨k - 1, by omega⟩
 unfold frac_Check.f
 simp only [frac_Check.j0]
 by_cases c1 : q < 1
 ·rw [if_pos c1, if_pos trivial]; exact .inr ⟨by omega, 8, by omega, rfl⟩
 rw [if_neg c1]
 by_cases c2 : q > 2147483647
 ·rw [if_pos c2, if_pos trivial]; exact .inr ⟨by omega, 8, by omega, rfl⟩
 rw [if_neg c2]
 by_cases c3 : p < -2147483647
 ·rw [if_pos c3, if_pos trivial]; exact .inr ⟨by omega, 8, by omega, rfl⟩
 rw [if_neg c3]
 by_cases c4 : p > 2147483647
 ·rw [decide_eq_true c4, if_pos rfl]; exact .inr ⟨by omega, 8, by omega, rfl⟩
 rw [decide_eq_false c4, if_neg (by decide), wgcd_is k p q (by omega) (by omega) (by omega) (by omega) (by omega)]
 simp only [Option.bind_some]
 by_cases c5 : Int.gcd p q = 1
 ·rw [if_pos (by rw [c5]; rfl)]; exact .inl ⟨rfl, by omega, by omega, by omega, by omega, c5⟩
 ·rw [if_neg (by omega)]; exact .inr ⟨fun h => c5 h.2.2.2.2, 8, by omega, rfl⟩
structure Rise (l : List Int) (lo hi : Int) : Prop where
 bd : ∀ i : Int, 0 ≤ i → i < l.length → lo ≤ rd l i ∧ rd l i ≤ hi
 up : ∀ i : Int, 0 < i → i < l.length → rd l (i - 1) < rd l i
theorem rising_loop (l : List Int) (lo hi : Int) (hn : l.length ≤ 140737488351232) (d : Nat) : ∀ (k : Nat) (j : Int), 0 ≤ j → j + d = l.length → 2 * d + 1 < k →
  (∀ i : Int, 0 ≤ i → i < j → lo ≤ rd l i ∧ rd l i ≤ hi) → (∀ i : Int, 0 < i → i < j → rd l (i - 1) < rd l i) →
  (lunisolar_rising.l0 k l lo hi l (l.length : Int) j = some 0 ∧ Rise l lo hi) ∨ (¬ Rise l lo hi ∧ ∃ c, c ≠ 0 ∧ lunisolar_rising.l0 k l lo hi l (l.length : Int) j = some c) := by
 induction d with
 | zero =>
  intro k j h0 h1 hk a b
  obtain ⟨k, rfl⟩ : ∃ q, k = q + 1 := ⟨k - 1, by omega⟩
  obtain rfl : j = l.length := by omega
  simp only [lunisolar_rising.l0]
  rw [if_neg (by omega)]
  exact .inl ⟨rfl, a, b⟩
 | succ d ih =>
  intro k j h0 h1 hk a b
  obtain ⟨k, rfl⟩ : ∃ q, k = q + 2 := ⟨k - 2, by omega⟩
  have e : lunisolar_rising.l0 (k + 2) l lo hi l (l.length : Int) j = lunisolar_rising.j1 (k + 1) l lo hi j (rd l j) l (l.length : Int) j (decide (rd l j < lo ∨ rd l j > hi)) := by
   conv => lhs; simp only [lunisolar_rising.l0]
   rw [if_pos (by omega), if_pos h0, if_pos (by omega)]
   by_cases c : rd l j < lo
   ·rw [if_pos c, decide_eq_true (Or.inl c)]
   ·rw [if_neg c]
    congr 1
    simp [c]
  rw [e]
  simp only [lunisolar_rising.j1]
  by_cases c : rd l j < lo ∨ rd l j > hi
  ·rw [decide_eq_true c, if_pos rfl]
   refine .inr ⟨fun r => ?_, 3, by omega, rfl⟩
   have := r.bd j h0 (by omega)
   omega
  ·rw [decide_eq_false c, if_neg (by decide)]
   have next : (∀ i : Int, 0 < i → i < j + 1 → rd l (i - 1) < rd l i) → (lunisolar_rising.l0 k l lo hi l (l.length : Int) (wrap64 (j + 1)) = some 0 ∧ Rise l lo hi) ∨ (¬ Rise l lo hi ∧ ∃ c, c ≠ 0 ∧ lunisolar_rising.l0 k l lo hi l (l.length : Int) (wrap64 (j + 1)) = some c) := by
    intro b'
    rw [w64 (n := j + 1) (by omega) (by omega)]
    refine ih k (j + 1) (by omega) (by omega) (by omega) (fun i x y => ?_) b'
    by_cases z : i = j
    ·subst z; omega
    ·exact a i x (by omega)
   by_cases cj : j > 0
   ·rw [if_pos cj, w64 (n := j - 1) (by omega) (by omega), if_pos (by omega), if_pos (by omega)]
    by_cases cu : rd l j ≤ rd l (j - 1)
    ·rw [if_pos cu]
     refine .inr ⟨fun r => ?_, 9, by omega, rfl⟩
     have := r.up j cj (by omega)
     omega
    ·rw [if_neg cu]
     refine next fun i x y => ?_
     by_cases z : i = j
     ·subst z; omega
     ·exact b i x (by omega)
   ·rw [if_neg cj]
    exact next fun i x y => by omega
theorem rising_is (k : Nat) (l : List Int) (lo hi : Int) (hn : l.length ≤ 140737488351232) (hk : 2 * l.length + 1 < k) :
  (lunisolar_rising.f k l lo hi = some 0 ∧ Rise l lo hi) ∨ (¬ Rise l lo hi ∧ ∃ c, c ≠ 0 ∧ lunisolar_rising.f k l lo hi = some c) := by
 unfold lunisolar_rising.f
 exact rising_loop l lo hi hn l.length k 0 (by omega) (by omega) hk (fun i a b => by omega) (fun i a b => by omega)
theorem Rise.lt {l : List Int} {lo hi : Int} (r : Rise l lo hi) (d : Nat) : ∀ i : Int, 0 ≤ i → i + (d : Int) + 1 < l.length → rd l i + d < rd l (i + d + 1) := by
 induction d with
 | zero =>
  intro i h0 h1
  have := r.up (i + 1) (by omega) (by omega)
  rw [show i + 1 - 1 = i from by omega] at this
  simpa using this
 | succ d ih =>
  intro i h0 h1
  have a := ih i h0 (by omega)
  have := r.up (i + d + 1 + 1) (by omega) (by omega)
  rw [show i + (d : Int) + 1 + 1 - 1 = i + d + 1 from by omega] at this
  rw [show i + ((d + 1 : Nat) : Int) + 1 = i + d + 1 + 1 from by omega]
  omega
theorem Rise.len {l : List Int} {lo hi : Int} (r : Rise l lo hi) (h : lo ≤ hi + 1) : (l.length : Int) ≤ hi - lo + 1 := by
 by_cases c : l.length = 0
 ·omega
 by_cases c1 : l.length = 1
 ·have := r.bd 0 (by omega) (by omega); omega
 ·have a := r.lt (l.length - 2) 0 (by omega) (by omega)
  have b := r.bd 0 (by omega) (by omega)
  have b' := r.bd (0 + ((l.length - 2 : Nat) : Int) + 1) (by omega) (by omega)
  omega
theorem Rise.pairwise {l : List Int} {lo hi : Int} (r : Rise l lo hi) : l.Pairwise (· < ·) := by
 rw [List.pairwise_iff_getElem]
 intro i j hi hj hij
 have a := r.lt (j - i - 1) i (by omega) (by omega)
 rw [show (i : Int) + ((j - i - 1 : Nat) : Int) + 1 = j from by omega] at a
 unfold rd at a
 rw [List.getD_eq_getElem?_getD, List.getElem?_eq_getElem (by simpa using hi), List.getD_eq_getElem?_getD, List.getElem?_eq_getElem (by simpa using hj)] at a
 simp only [Option.getD_some, Int.toNat_natCast] at a
 omega
def cn (l : List Int) (x : Int) : Int := ((l.countP (fun y => !decide (x ≤ y)) : Nat) : Int)
theorem cnt_char (l : List Int) (h : l.Pairwise (· < ·)) (x : Int) : ∀ (i : Nat) (hi : i < l.length), (i < l.countP (fun y => !decide (x ≤ y)) ↔ l[i] < x) := by
 induction l with
 | nil => intro i hi; simp at hi
 | cons a t ih =>
  intro i hi
  have hp := List.pairwise_cons.mp h
  by_cases c : x ≤ a
  ·have z : t.countP (fun y => !decide (x ≤ y)) = 0 := by
    rw [List.countP_eq_zero]
    intro y hy
    have := hp.1 y hy
    simp; omega
   rw [List.countP_cons_of_neg (by simp [c]), z]
   have : a ≤ (a :: t)[i] := by
    cases i with
    | zero => simp
    | succ i =>
     have := hp.1 _ (List.getElem_mem (l := t) (by simpa using hi))
     simp only [List.getElem_cons_succ]; omega
   omega
  ·rw [List.countP_cons_of_pos (by simpa using c)]
   cases i with
   | zero => simp; omega
   | succ i =>
    have := ih hp.2 i (by simpa using hi)
    simp only [List.getElem_cons_succ]
    omega
theorem cn_bd (l : List Int) (x : Int) : 0 ≤ cn l x ∧ cn l x ≤ l.length := by
 unfold cn
 have := List.countP_le_length (p := fun y => !decide (x ≤ y)) (l := l)
 omega
theorem cn_char {l : List Int} {lo hi : Int} (r : Rise l lo hi) (x i : Int) (h0 : 0 ≤ i) (h1 : i < l.length) : (i < cn l x ↔ rd l i < x) := by
 have := cnt_char l r.pairwise x i.toNat (by omega)
 unfold cn rd
 rw [List.getD_eq_getElem?_getD, List.getElem?_eq_getElem (by omega)]
 simp only [Option.getD_some]
 omega
theorem cn_low {l : List Int} {lo hi : Int} (r : Rise l lo hi) : cn l lo = 0 := by
 have b := cn_bd l lo
 by_cases c : 0 < cn l lo
 ·have := (cn_char r lo 0 (by omega) (by omega)).mp c
  have := r.bd 0 (by omega) (by omega)
  omega
 ·omega
theorem cn_high {l : List Int} {lo hi : Int} (r : Rise l lo hi) : cn l (hi + 1) = l.length := by
 have b := cn_bd l (hi + 1)
 by_cases c : cn l (hi + 1) < l.length
 ·have h := r.bd _ b.1 c
  have := (cn_char r (hi + 1) _ b.1 c).mpr (by omega)
  omega
 ·omega
theorem cn_step {l : List Int} {lo hi : Int} (r : Rise l lo hi) (x : Int) :
  (cn l x < l.length ∧ rd l (cn l x) = x ∧ cn l (x + 1) = cn l x + 1) ∨ ((cn l x < l.length → rd l (cn l x) ≠ x) ∧ cn l (x + 1) = cn l x) := by
 have b := cn_bd l x
 have b' := cn_bd l (x + 1)
 have mono : cn l x ≤ cn l (x + 1) := by
  by_cases c : cn l (x + 1) < cn l x
  ·have h1 := (cn_char r x (cn l (x + 1)) b'.1 (by omega)).mp c
   have h2 := (cn_char r (x + 1) (cn l (x + 1)) b'.1 (by omega)).mpr (by omega)
   omega
  ·omega
 by_cases c : cn l x < l.length ∧ rd l (cn l x) = x
 ·left
  refine ⟨c.1, c.2, ?_⟩
  have h1 := (cn_char r (x + 1) (cn l x) b.1 c.1).mpr (by omega)
  by_cases c2 : cn l x + 1 < cn l (x + 1)
  ·have h2 := (cn_char r (x + 1) (cn l x + 1) (by omega) (by omega)).mp c2
   have h3 := r.up (cn l x + 1) (by omega) (by omega)
   rw [show cn l x + 1 - 1 = cn l x from by omega] at h3
   omega
  ·omega
 ·right
  refine ⟨fun h1 h2 => c ⟨h1, h2⟩, ?_⟩
  by_cases c2 : cn l x < cn l (x + 1)
  ·have h1 := (cn_char r (x + 1) (cn l x) b.1 (by omega)).mp c2
   have h2 := fun h => (cn_char r x (cn l x) b.1 (by omega)).mpr h
   have h3 : ¬ rd l (cn l x) < x := fun h => by have := h2 h; omega
   exact absurd ⟨by omega, by omega⟩ c
  ·omega
theorem search_is {l : List Int} {lo hi : Int} (r : Rise l lo hi) (h : l.length ≤ 1000000) (x : Int) : sort_SearchInts.f l x = some (cn l x) := by
 unfold sort_SearchInts.f
 rw [if_pos ⟨r.pairwise.imp (fun h => Int.le_of_lt h), by omega⟩]
 rfl
def lc (n d : Int) : Int := n / (Int.gcd n d : Int) * d
def lbad (n d : Int) : Prop := n / (Int.gcd n d : Int) > 1000000 / d
instance (n d : Int) : Decidable (lbad n d) := by unfold lbad; infer_instance
theorem lc_ok (n d : Int) (h1 : 1 ≤ n) (h3 : 1 ≤ d) (hb : ¬ lbad n d) : 1 ≤ lc n d ∧ lc n d ≤ 1000000 ∧ n ∣ lc n d ∧ d ∣ lc n d := by
 unfold lbad at hb
 unfold lc
 have hg : 0 < (Int.gcd n d : Int) := by
  have := Int.gcd_pos_of_ne_zero_left d (show n ≠ 0 by omega)
  omega
 have gn : (Int.gcd n d : Int) ∣ n := Int.gcd_dvd_left ..
 have gd : (Int.gcd n d : Int) ∣ d := Int.gcd_dvd_right ..
 obtain ⟨a, ha⟩ := gn
 obtain ⟨b, hb'⟩ := gd
 generalize (Int.gcd n d : Int) = g at *
 have e : n / g = a := by rw [ha, Int.mul_ediv_cancel_left _ (by omega)]
 rw [e] at hb ⊢
 have ha1 : 1 ≤ a := by
  by_cases c : a ≤ 0
  ·have : g * a ≤ 0 := Int.mul_nonpos_of_nonneg_of_nonpos (by omega) c
   omega
  ·omega
 refine ⟨?_, ?_, ?_, ⟨a, by rw [Int.mul_comm]⟩⟩
 ·have := Int.mul_le_mul_of_nonneg_right ha1 (show 0 ≤ d by omega)
  omega
 ·have h1 : a * d ≤ (1000000 / d) * d := Int.mul_le_mul_of_nonneg_right (by omega) (by omega)
  have := Int.ediv_mul_le 1000000 (show d ≠ 0 by omega)
  omega
 ·exact ⟨b, by rw [hb', ha]; rw [Int.mul_comm g a, Int.mul_assoc]⟩
def PN (SD MD LD : Int) : Int := if lbad 1 SD then 0 else if lbad (lc 1 SD) MD then 0 else if lbad (lc (lc 1 SD) MD) LD then 0 else lc (lc (lc 1 SD) MD) LD
theorem PN_ok {SD MD LD : Int} (h1 : 1 ≤ SD) (h2 : 1 ≤ MD) (h3 : 1 ≤ LD) (h : PN SD MD LD ≠ 0) : 1 ≤ PN SD MD LD ∧ PN SD MD LD ≤ 1000000 ∧ SD ∣ PN SD MD LD ∧ MD ∣ PN SD MD LD ∧ LD ∣ PN SD MD LD := by
 unfold PN at h ⊢
 by_cases c1 : lbad 1 SD
 ·rw [if_pos c1] at h; exact absurd rfl h
 rw [if_neg c1] at h ⊢
 have a1 := lc_ok 1 SD (by omega) h1 c1
 by_cases c2 : lbad (lc 1 SD) MD
 ·rw [if_pos c2] at h; exact absurd rfl h
 rw [if_neg c2] at h ⊢
 have a2 := lc_ok _ MD a1.1 h2 c2
 by_cases c3 : lbad (lc (lc 1 SD) MD) LD
 ·rw [if_pos c3] at h; exact absurd rfl h
 rw [if_neg c3]
 have a3 := lc_ok _ LD a2.1 h3 c3
 exact ⟨a3.1, a3.2.1, Int.dvd_trans a1.2.2.2 (Int.dvd_trans a2.2.2.1 a3.2.2.1), Int.dvd_trans a2.2.2.2 a3.2.2.1, a3.2.2.2⟩
theorem parts_step (k : Nat) (n : Int) (ys : List S23) (i : Int) (h0 : 0 ≤ i) (h1 : i < ys.length) (hl : ys.length ≤ 10) (d : Int) (hd : (rd_T23 ys i).f1 = d) (hn1 : 1 ≤ n) (hn2 : n ≤ 1000000) (hd1 : 1 ≤ d) (hd2 : d ≤ 2147483647) (hk : 2147483650 < k) :
  lunisolar_parts.l0 (k + 1) n ys (ys.length : Int) i = if lbad n d then some 0 else lunisolar_parts.l0 k (lc n d) ys (ys.length : Int) (i + 1) := by
 conv => lhs; simp only [lunisolar_parts.l0]
 rw [if_pos h1, if_pos h0, if_pos h1, hd, wgcd_is k n d (by omega) (by omega) (by omega) (by omega) (by omega)]
 simp only [Option.bind_some]
 have hg := Int.gcd_pos_of_ne_zero_left d (show n ≠ 0 by omega)
 have hq0 : 0 ≤ n / (Int.gcd n d : Int) := Int.ediv_nonneg (by omega) (by omega)
 have hq1 : n / (Int.gcd n d : Int) ≤ n := Int.ediv_le_self _ (by omega)
 have hr0 : 0 ≤ 1000000 / d := Int.ediv_nonneg (by omega) (by omega)
 have hr1 : 1000000 / d ≤ 1000000 := Int.ediv_le_self _ (by omega)
 rw [if_neg (by omega), if_neg (by omega), tdiv_pos (show 0 ≤ n by omega), tdiv_pos (a := 1000000) (by omega), w64 (n := n / (Int.gcd n d : Int)) (by omega) (by omega), w64 (n := 1000000 / d) (by omega) (by omega)]
 by_cases c : lbad n d
 ·rw [if_pos c, if_pos (show n / (Int.gcd n d : Int) > 1000000 / d from c)]
 ·rw [if_neg c, if_neg (show ¬ n / (Int.gcd n d : Int) > 1000000 / d from c)]
  have := lc_ok n d hn1 hd1 c
  rw [w64 (n := i + 1) (by omega) (by omega), w64 (n := n / (Int.gcd n d : Int) * d) (by unfold lc at this; omega) (by unfold lc at this; omega)]
  rfl
section
variable {nm : ByteArray} {E S SD M MD L LD Cy : Int} {lp av : List Int}
theorem parts_is (k : Nat) (h1 : 1 ≤ SD) (h2 : SD ≤ 2147483647) (h3 : 1 ≤ MD) (h4 : MD ≤ 2147483647) (h5 : 1 ≤ LD) (h6 : LD ≤ 2147483647) (hk : 2147483660 < k) : lunisolar_parts.f k nm E S SD M MD L LD Cy lp av = some (PN SD MD LD) := by
 obtain ⟨k, rfl⟩ : ∃ m, k = m + 4 := ⟨k - 4, by omega⟩
 unfold lunisolar_parts.f PN
 simp only [Option.bind_some]
 generalize hy : [(⟨S, SD⟩ : S23), (⟨M, MD⟩ : S23), (⟨L, LD⟩ : S23)] = ys
 have hl : ys.length = 3 := by rw [← hy]; rfl
 rw [parts_step (k + 3) 1 ys 0 (by omega) (by omega) (by omega) SD (by rw [← hy]; rfl) (by omega) (by omega) h1 h2 (by omega)]
 by_cases c1 : lbad 1 SD
 ·rw [if_pos c1, if_pos c1]
 rw [if_neg c1, if_neg c1]
 have a1 := lc_ok 1 SD (by omega) h1 c1
 rw [parts_step (k + 2) (lc 1 SD) ys (0 + 1) (by omega) (by omega) (by omega) MD (by rw [← hy]; rfl) a1.1 a1.2.1 h3 h4 (by omega)]
 by_cases c2 : lbad (lc 1 SD) MD
 ·rw [if_pos c2, if_pos c2]
 rw [if_neg c2, if_neg c2]
 have a2 := lc_ok _ MD a1.1 h3 c2
 rw [parts_step (k + 1) (lc (lc 1 SD) MD) ys (0 + 1 + 1) (by omega) (by omega) (by omega) LD (by rw [← hy]; rfl) a2.1 a2.2.1 h5 h6 (by omega)]
 by_cases c3 : lbad (lc (lc 1 SD) MD) LD
 ·rw [if_pos c3, if_pos c3]
 rw [if_neg c3, if_neg c3]
 simp only [lunisolar_parts.l0]
 rw [if_neg (by omega)]
structure VR (nm : ByteArray) (E S SD M MD L LD Cy : Int) (lp av : List Int) : Prop where
 name : nameB nm = true
 ep : -4000000 ≤ E ∧ E ≤ 4000000
 fs : 1 ≤ SD ∧ SD ≤ 2147483647 ∧ -2147483647 ≤ S ∧ S ≤ 2147483647 ∧ Int.gcd S SD = 1
 fm : 1 ≤ MD ∧ MD ≤ 2147483647 ∧ -2147483647 ≤ M ∧ M ≤ 2147483647 ∧ Int.gcd M MD = 1
 fl : 1 ≤ LD ∧ LD ≤ 2147483647 ∧ -2147483647 ≤ L ∧ L ≤ 2147483647 ∧ Int.gcd L LD = 1
 s : 0 ≤ S ∧ S < SD
 m : 29 * MD ≤ M ∧ M ≤ 30 * MD
 l : 1 ≤ L ∧ L ≤ LD
 n : PN SD MD LD ≠ 0
 cy : 1 ≤ Cy ∧ Cy ≤ 100
 lp : Rise lp 1 Cy
 al : av.length ≤ 3
 av : Rise av 0 6
theorem check_three (k : Nat) (ys : List S23) (i : Int) (h0 : 0 ≤ i) (h1 : i < ys.length) (hl : ys.length ≤ 10) : lunisolar_Check.l0 (k + 1) ys (ys.length : Int) i nm E S SD M MD L LD Cy lp av =
  ((frac_Check.f k ((rd_T23 ys i).f0) ((rd_T23 ys i).f1)).bind fun t => (if t = 0 then (lunisolar_Check.l0 k ys (ys.length : Int) (i + 1) nm E S SD M MD L LD Cy lp av) else (some 8))) := by
 conv => lhs; simp only [lunisolar_Check.l0]
 rw [if_pos h1, if_pos h0, if_pos h1, w64 (n := i + 1) (by omega) (by omega)]
def i64 (x : Int) : Prop := -9223372036854775808 ≤ x ∧ x ≤ 9223372036854775807
theorem lcheck_is (k : Nat) (wS : i64 S) (wM : i64 M) (wL : i64 L) (hlp : lp.length ≤ 140737488351232) (hav : av.length ≤ 140737488351232) (hk : 2147483700 + 2 * lp.length + 2 * av.length < k) :
  (VR nm E S SD M MD L LD Cy lp av ∧ lunisolar_Check.f k nm E S SD M MD L LD Cy lp av = some 0) ∨ (¬ VR nm E S SD M MD L LD Cy lp av ∧ ∃ c, c ≠ 0 ∧ lunisolar_Check.f k nm E S SD M MD L LD Cy lp av = some c) := by
 obtain ⟨k, rfl⟩ : ∃ m, k = m + 6 := ⟨k - 6, by omega⟩
 unfold lunisolar_Check.f rule_Name.f
 simp only [Option.bind_some]
 by_cases c1 : nameB nm = true
 rotate_left
 ·rw [if_neg c1]; exact .inr ⟨fun v => c1 v.name, 5, by omega, rfl⟩
 rw [if_pos c1]
 by_cases c2 : -4000000 ≤ E ∧ E ≤ 4000000
 rotate_left
 ·rw [check_bad E (by omega)]
  simp only [Option.bind_some]
  rw [if_neg (by decide)]; exact .inr ⟨fun v => c2 v.ep, 3, by omega, rfl⟩
 rw [check_ok E c2.1 c2.2]
 simp only [Option.bind_some]
 rw [if_pos trivial]
 generalize hy : [(⟨S, SD⟩ : S23), (⟨M, MD⟩ : S23), (⟨L, LD⟩ : S23)] = ys
 have hl : ys.length = 3 := by rw [← hy]; rfl
 have r0 : rd_T23 ys 0 = ⟨S, SD⟩ := by rw [← hy]; rfl
 have r1 : rd_T23 ys (0 + 1) = ⟨M, MD⟩ := by rw [← hy]; rfl
 have r2 : rd_T23 ys (0 + 1 + 1) = ⟨L, LD⟩ := by rw [← hy]; rfl
 rw [check_three (k + 5) ys 0 (by omega) (by omega) (by omega), r0]
 rcases fcheck_any (k + 5) S SD wS.1 wS.2 (by omega) with ⟨e, f⟩ | ⟨f, c, hc, e⟩
 rotate_left
 ·simp only [e, Option.bind_some]
  rw [if_neg hc]; exact .inr ⟨fun v => f v.fs, 8, by omega, rfl⟩
 simp only [e, Option.bind_some]
 rw [if_pos trivial, check_three (k + 4) ys (0 + 1) (by omega) (by omega) (by omega), r1]
 rcases fcheck_any (k + 4) M MD wM.1 wM.2 (by omega) with ⟨e, f'⟩ | ⟨f, c, hc, e⟩
 rotate_left
 ·simp only [e, Option.bind_some]
  rw [if_neg hc]; exact .inr ⟨fun v => f v.fm, 8, by omega, rfl⟩
 simp only [e, Option.bind_some]
 rw [if_pos trivial, check_three (k + 3) ys (0 + 1 + 1) (by omega) (by omega) (by omega), r2]
 rcases fcheck_any (k + 3) L LD wL.1 wL.2 (by omega) with ⟨e, f''⟩ | ⟨f, c, hc, e⟩
 rotate_left
 ·simp only [e, Option.bind_some]
  rw [if_neg hc]; exact .inr ⟨fun v => f v.fl, 8, by omega, rfl⟩
 simp only [e, Option.bind_some]
 rw [if_pos trivial]
 have e3 : lunisolar_Check.l0 (k + 3) ys (ys.length : Int) (0 + 1 + 1 + 1) nm E S SD M MD L LD Cy lp av = lunisolar_Check.j1 (k + 2) (decide (S < 0 ∨ S ≥ SD ∨ M < 29 * MD ∨ M > 30 * MD ∨ L < 1 ∨ L > LD)) nm E S SD M MD L LD Cy lp av := by
  conv => lhs; simp only [lunisolar_Check.l0]
  rw [if_neg (by omega), w64 (n := 29 * MD) (by omega) (by omega), w64 (n := 30 * MD) (by omega) (by omega)]
  by_cases d1 : S < 0
  ·rw [if_pos d1, decide_eq_true (by omega)]
  rw [if_neg d1]
  by_cases d2 : S ≥ SD
  ·rw [if_pos d2, decide_eq_true (by omega)]
  rw [if_neg d2]
  by_cases d3 : M < 29 * MD
  ·rw [if_pos d3, decide_eq_true (by omega)]
  rw [if_neg d3]
  by_cases d4 : M > 30 * MD
  ·rw [if_pos d4, decide_eq_true (by omega)]
  rw [if_neg d4]
  by_cases d5 : L < 1
  ·rw [if_pos d5, decide_eq_true (by omega)]
  rw [if_neg d5]
  congr 1
  rw [decide_eq_decide]
  omega
 rw [e3]
 simp only [lunisolar_Check.j1]
 by_cases c3 : S < 0 ∨ S ≥ SD ∨ M < 29 * MD ∨ M > 30 * MD ∨ L < 1 ∨ L > LD
 ·rw [decide_eq_true c3, if_pos rfl]
  refine .inr ⟨fun v => ?_, 3, by omega, rfl⟩
  have := v.s; have := v.m; have := v.l
  omega
 rw [decide_eq_false c3, if_neg (by decide), parts_is (k + 1) (nm := nm) (E := E) (S := S) (M := M) (L := L) (Cy := Cy) (lp := lp) (av := av) (by omega) (by omega) (by omega) (by omega) (by omega) (by omega) (by omega)]
 simp only [Option.bind_some]
 by_cases c4 : PN SD MD LD = 0
 ·rw [if_pos c4]; exact .inr ⟨fun v => v.n c4, 14, by omega, rfl⟩
 rw [if_neg c4]
 have e4 : (if Cy < 1 then (lunisolar_Check.j2 (k + 1) true nm E S SD M MD L LD Cy lp av) else (lunisolar_Check.j2 (k + 1) (decide (Cy > 100)) nm E S SD M MD L LD Cy lp av)) = lunisolar_Check.j2 (k + 1) (decide (Cy < 1 ∨ Cy > 100)) nm E S SD M MD L LD Cy lp av := by
  by_cases d1 : Cy < 1
  ·rw [if_pos d1, decide_eq_true (by omega)]
  ·rw [if_neg d1]; congr 1; rw [decide_eq_decide]; omega
 rw [e4]
 simp only [lunisolar_Check.j2]
 by_cases c5 : Cy < 1 ∨ Cy > 100
 ·rw [decide_eq_true c5, if_pos rfl]
  refine .inr ⟨fun v => ?_, 3, by omega, rfl⟩
  have := v.cy
  omega
 rw [decide_eq_false c5, if_neg (by decide)]
 rcases rising_is k lp 1 Cy hlp (by omega) with ⟨e, r⟩ | ⟨r, c, hc, e⟩
 rotate_left
 ·simp only [e, Option.bind_some]
  rw [if_neg hc]; exact .inr ⟨fun v => r v.lp, c, hc, rfl⟩
 simp only [e, Option.bind_some]
 rw [if_pos trivial]
 by_cases c6 : (av.length : Int) > 3
 ·rw [if_pos c6]; exact .inr ⟨fun v => by have := v.al; omega, 2, by omega, rfl⟩
 rw [if_neg c6]
 rcases rising_is k av 0 6 hav (by omega) with ⟨e, r'⟩ | ⟨r, c, hc, e⟩
 rotate_left
 ·simp only [e, Option.bind_some]
  exact .inr ⟨fun v => r v.av, c, hc, rfl⟩
 simp only [e, Option.bind_some]
 exact .inl ⟨⟨c1, c2, f, f', f'', by omega, by omega, by omega, c4, by omega, r, by omega, r'⟩, trivial⟩
end
section
variable {nm : ByteArray} {E S SD M MD L LD Cy : Int} {lp av : List Int}
def plc (Cy y : Int) : Int := (y - 1) % Cy + 1
def monS (lp : List Int) (Cy y : Int) : Int := 12 + (cn lp (plc Cy y + 1) - cn lp (plc Cy y))
def befS (lp : List Int) (Cy y : Int) : Int := 12 * (y - 1) + (y - 1) / Cy * (lp.length : Int) + cn lp (plc Cy y)
theorem monS_bd (v : VR nm E S SD M MD L LD Cy lp av) (y : Int) : monS lp Cy y = 12 ∨ monS lp Cy y = 13 := by
 unfold monS
 rcases cn_step v.lp (plc Cy y) with ⟨_, _, h⟩ | ⟨_, h⟩ <;> omega
theorem befS_next (v : VR nm E S SD M MD L LD Cy lp av) (y : Int) : befS lp Cy (y + 1) = befS lp Cy y + monS lp Cy y := by
 have hc := v.cy
 have h0 := Int.emod_nonneg (y - 1) (show Cy ≠ 0 by omega)
 have h1 := Int.emod_lt_of_pos (y - 1) (show 0 < Cy by omega)
 have e := Int.mul_ediv_add_emod (y - 1) Cy
 have e' := Int.mul_ediv_add_emod (y + 1 - 1) Cy
 have h0' := Int.emod_nonneg (y + 1 - 1) (show Cy ≠ 0 by omega)
 have h1' := Int.emod_lt_of_pos (y + 1 - 1) (show 0 < Cy by omega)
 unfold befS monS plc
 by_cases c : (y - 1) % Cy + 1 < Cy
 ·have hq : (y + 1 - 1) / Cy = (y - 1) / Cy := by
   rw [show y + 1 - 1 = ((y - 1) % Cy + 1) + Cy * ((y - 1) / Cy) from by omega, Int.add_mul_ediv_left _ _ (by omega), Int.ediv_eq_zero_of_lt (by omega) c]; omega
  have hr : (y + 1 - 1) % Cy = (y - 1) % Cy + 1 := by rw [hq] at e'; omega
  rw [hq, hr]
  omega
 ·have hq : (y + 1 - 1) / Cy = (y - 1) / Cy + 1 := by
   rw [show y + 1 - 1 = 0 + Cy * ((y - 1) / Cy + 1) from by rw [Int.mul_add]; omega, Int.add_mul_ediv_left _ _ (by omega)]; simp
  have hr : (y + 1 - 1) % Cy = 0 := by rw [hq, Int.mul_add] at e'; omega
  have hz : (y - 1) % Cy + 1 = Cy := by omega
  rw [hq, hr, hz, cn_high v.lp, show (0 : Int) + 1 = 1 from rfl, cn_low v.lp, Int.add_mul]
  omega
theorem lp_len (v : VR nm E S SD M MD L LD Cy lp av) : lp.length ≤ 100 := by
 have := v.lp.len (by have := v.cy; omega)
 have := v.cy
 omega
theorem q_bd (v : VR nm E S SD M MD L LD Cy lp av) (y : Int) (h1 : -10001 ≤ y) (h2 : y ≤ 10001) : -10002 ≤ (y - 1) / Cy ∧ (y - 1) / Cy ≤ 10002 := by
 have hc := v.cy
 have h0 := Int.emod_nonneg (y - 1) (show Cy ≠ 0 by omega)
 have h3 := Int.emod_lt_of_pos (y - 1) (show 0 < Cy by omega)
 constructor
 ·rw [Int.le_ediv_iff_mul_le (by omega)]
  have : 10002 * 1 ≤ 10002 * Cy := Int.mul_le_mul_of_nonneg_left (by omega) (by omega)
  omega
 ·rw [← Int.lt_add_one_iff, Int.ediv_lt_iff_lt_mul (by omega)]
  have : 10003 * 1 ≤ 10003 * Cy := Int.mul_le_mul_of_nonneg_left (by omega) (by omega)
  omega
theorem befS_bd (v : VR nm E S SD M MD L LD Cy lp av) (y : Int) (h1 : -10001 ≤ y) (h2 : y ≤ 10001) : -2000000 ≤ befS lp Cy y ∧ befS lp Cy y ≤ 2000000 ∧ -1000200 ≤ (y - 1) / Cy * (lp.length : Int) ∧ (y - 1) / Cy * (lp.length : Int) ≤ 1000200 := by
 have hl := lp_len v
 have hq := q_bd v y h1 h2
 have hb := cn_bd lp (plc Cy y)
 have := mulb hq.1 hq.2 (show 0 ≤ (lp.length : Int) by omega) (show (lp.length : Int) ≤ 100 by omega) (by omega)
 unfold befS
 omega
theorem months_is (v : VR nm E S SD M MD L LD Cy lp av) (y : Int) (h1 : -10001 ≤ y) (h2 : y ≤ 10001) : lunisolar_months.f nm E S SD M MD L LD Cy lp av y = some (monS lp Cy y) := by
 have hc := v.cy
 have hl := lp_len v
 have h0 := Int.emod_nonneg (y - 1) (show Cy ≠ 0 by omega)
 have h3 := Int.emod_lt_of_pos (y - 1) (show 0 < Cy by omega)
 have hb := cn_bd lp (plc Cy y)
 unfold lunisolar_months.f
 rw [w64 (n := y - 1) (by omega) (by omega), wmod_is (y - 1) Cy (by omega) (by omega)]
 simp only [Option.bind_some]
 rw [w64 (n := (y - 1) % Cy + 1) (by omega) (by omega), search_is v.lp (by omega)]
 simp only [Option.bind_some]
 have ep : (y - 1) % Cy + 1 = plc Cy y := rfl
 rw [ep]
 unfold monS
 rcases cn_step v.lp (plc Cy y) with ⟨ha, hb', hd⟩ | ⟨ha, hd⟩
 ·rw [if_pos ha, if_pos hb.1, if_pos hb', hd]
  congr 1; omega
 ·rw [hd]
  by_cases c : cn lp (plc Cy y) < lp.length
  ·rw [if_pos c, if_pos hb.1, if_neg (ha c)]; congr 1; omega
  ·rw [if_neg c]; congr 1; omega
theorem before_is (k : Nat) (v : VR nm E S SD M MD L LD Cy lp av) (y : Int) (h1 : -10001 ≤ y) (h2 : y ≤ 10001) : lunisolar_before.f (k + 1) nm E S SD M MD L LD Cy lp av y = some (befS lp Cy y) := by
 have hc := v.cy
 have hl := lp_len v
 have h0 := Int.emod_nonneg (y - 1) (show Cy ≠ 0 by omega)
 have h3 := Int.emod_lt_of_pos (y - 1) (show 0 < Cy by omega)
 have hb := cn_bd lp (plc Cy y)
 have hbb := befS_bd v y h1 h2
 unfold lunisolar_before.f
 rw [w64 (n := y - 1) (by omega) (by omega), div_is k (y - 1) Cy (by omega) (by omega) (by omega) (by omega)]
 simp only [Option.bind_some]
 rw [w64 (n := (y - 1) % Cy + 1) (by omega) (by omega), search_is v.lp (by omega)]
 simp only [Option.bind_some]
 have ep : (y - 1) % Cy + 1 = plc Cy y := rfl
 rw [ep, w64 (n := 12 * (y - 1)) (by omega) (by omega), w64 (n := (y - 1) / Cy * (lp.length : Int)) (by omega) (by omega), w64 (n := 12 * (y - 1) + (y - 1) / Cy * (lp.length : Int)) (by omega) (by omega)]
 unfold befS at hbb ⊢
 rw [w64 (by omega) (by omega)]
def und (E S SD M MD L LD k : Int) : Int := E + (S * (PN SD MD LD / SD) + k * (M * (PN SD MD LD / MD)) + PN SD MD LD - L * (PN SD MD LD / LD)) / PN SD MD LD
theorem scaled {A D N : Int} (hD : 1 ≤ D) (hN : 1 ≤ N) (h : D ∣ N) : 1 ≤ N / D ∧ N / D ≤ N ∧ D * (N / D) = N := by
 obtain ⟨q, hq⟩ := h
 have e : N / D = q := by rw [hq, Int.mul_ediv_cancel_left _ (by omega)]
 rw [e]
 have h1 : 1 ≤ q := by
  by_cases c : q ≤ 0
  ·have : D * q ≤ 0 := Int.mul_nonpos_of_nonneg_of_nonpos (by omega) c
   omega
  ·omega
 have h2 := Int.mul_le_mul_of_nonneg_right hD (show 0 ≤ q by omega)
 exact ⟨h1, by omega, hq.symm⟩
theorem und_parts (v : VR nm E S SD M MD L LD Cy lp av) : 1 ≤ PN SD MD LD ∧ PN SD MD LD ≤ 1000000 ∧ (1 ≤ PN SD MD LD / SD ∧ PN SD MD LD / SD ≤ 1000000) ∧ (1 ≤ PN SD MD LD / MD ∧ PN SD MD LD / MD ≤ 1000000) ∧ (1 ≤ PN SD MD LD / LD ∧ PN SD MD LD / LD ≤ 1000000) ∧
  0 ≤ S * (PN SD MD LD / SD) ∧ S * (PN SD MD LD / SD) ≤ PN SD MD LD ∧ 29 * PN SD MD LD ≤ M * (PN SD MD LD / MD) ∧ M * (PN SD MD LD / MD) ≤ 30 * PN SD MD LD ∧ 0 ≤ L * (PN SD MD LD / LD) ∧ L * (PN SD MD LD / LD) ≤ PN SD MD LD := by
 have hn := PN_ok v.fs.1 v.fm.1 v.fl.1 v.n
 have a := scaled (A := 0) v.fs.1 hn.1 hn.2.2.1
 have b := scaled (A := 0) v.fm.1 hn.1 hn.2.2.2.1
 have c := scaled (A := 0) v.fl.1 hn.1 hn.2.2.2.2
 generalize PN SD MD LD = N at *
 have hs := v.s
 have hm := v.m
 have hl := v.l
 generalize N / SD = a' at *
 generalize N / MD = b' at *
 generalize N / LD = c' at *
 refine ⟨hn.1, hn.2.1, ⟨a.1, by omega⟩, ⟨b.1, by omega⟩, ⟨c.1, by omega⟩, Int.mul_nonneg hs.1 (by omega), ?_, ?_, ?_, Int.mul_nonneg (by omega) (by omega), ?_⟩
 ·have := Int.mul_le_mul_of_nonneg_right (show S ≤ SD by omega) (show 0 ≤ a' by omega)
  omega
 ·have := Int.mul_le_mul_of_nonneg_right hm.1 (show 0 ≤ b' by omega)
  rw [Int.mul_assoc] at this
  omega
 ·have := Int.mul_le_mul_of_nonneg_right hm.2 (show 0 ≤ b' by omega)
  rw [Int.mul_assoc] at this
  omega
 ·have := Int.mul_le_mul_of_nonneg_right hl.2 (show 0 ≤ c' by omega)
  omega
theorem und_next (v : VR nm E S SD M MD L LD Cy lp av) (k : Int) : und E S SD M MD L LD k + 29 ≤ und E S SD M MD L LD (k + 1) ∧ und E S SD M MD L LD (k + 1) ≤ und E S SD M MD L LD k + 30 := by
 obtain ⟨n1, _, _, _, _, _, _, m1, m2, _, _⟩ := und_parts v
 unfold und
 generalize PN SD MD LD = N at *
 generalize S * (N / SD) = s at *
 generalize L * (N / LD) = l at *
 generalize M * (N / MD) = m at *
 rw [show s + (k + 1) * m + N - l = (s + k * m + N - l) + m from by rw [Int.add_mul]; omega]
 generalize s + k * m + N - l = T
 have h1 : (T + 29 * N) / N ≤ (T + m) / N := Int.ediv_le_ediv (by omega) (by omega)
 have h2 : (T + m) / N ≤ (T + 30 * N) / N := Int.ediv_le_ediv (by omega) (by omega)
 rw [Int.add_mul_ediv_right _ _ (by omega)] at h1 h2
 omega
def avd (av : List Int) (d : Int) : Bool := av.contains ((d - 1) % 7)
def adv (av : List Int) (d : Int) : Int := if avd av d = true then (if avd av (d + 1) = true then (if avd av (d + 2) = true then d + 3 else d + 2) else d + 1) else d
theorem adv_bd (av : List Int) (d : Int) : d ≤ adv av d ∧ adv av d ≤ d + 3 := by
 unfold adv
 split
 ·split
  ·split <;> omega
  ·omega
 ·omega
theorem adv_free {av : List Int} (h : av.length ≤ 3) (d : Int) : avd av (adv av d) = false := by
 have key : avd av d = true → avd av (d + 1) = true → avd av (d + 2) = true → avd av (d + 3) = false := by
  unfold avd
  simp only [List.contains_eq_mem, decide_eq_true_eq, decide_eq_false_iff_not]
  match av, h with
  | [], _ => intro h; cases h
  | [a], _ => simp only [List.mem_cons, List.not_mem_nil, or_false]; omega
  | [a, b], _ => simp only [List.mem_cons, List.not_mem_nil, or_false]; omega
  | [a, b, c], _ => simp only [List.mem_cons, List.not_mem_nil, or_false]; omega
  | _ :: _ :: _ :: _ :: _, h => simp at h
 unfold adv
 cases h0 : avd av d with
 | false => simp [h0]
 | true =>
  rw [if_pos rfl]
  cases h1 : avd av (d + 1) with
  | false => simp [h1]
  | true =>
   rw [if_pos rfl]
   cases h2 : avd av (d + 2) with
   | false => simp [h2]
   | true => rw [if_pos rfl]; exact key h0 h1 h2
theorem avoided_loop (l : List Int) (x : Int) (hl : l.length ≤ 3) (d : Nat) : ∀ (k : Nat) (j : Int), 0 ≤ j → j + d = l.length → d < k → lunisolar_avoided.l0 k x l (l.length : Int) j = some ((l.drop j.toNat).contains x) := by
 induction d with
 | zero =>
  intro k j h0 h1 hk
  obtain ⟨k, rfl⟩ : ∃ q, k = q + 1 := ⟨k - 1, by omega⟩
  simp only [lunisolar_avoided.l0]
  rw [if_neg (by omega), List.drop_eq_nil_of_le (by omega)]
  rfl
 | succ d ih =>
  intro k j h0 h1 hk
  obtain ⟨k, rfl⟩ : ∃ q, k = q + 1 := ⟨k - 1, by omega⟩
  simp only [lunisolar_avoided.l0]
  have hj : j.toNat < l.length := by omega
  rw [if_pos (by omega), if_pos h0, if_pos (by omega), w64 (n := j + 1) (by omega) (by omega), ih k (j + 1) (by omega) (by omega) (by omega), List.drop_eq_getElem_cons hj]
  have e : rd l j = l[j.toNat] := by unfold rd; rw [List.getD_eq_getElem?_getD, List.getElem?_eq_getElem hj]; rfl
  rw [e, show (j + 1).toNat = j.toNat + 1 from by omega]
  by_cases c : l[j.toNat] = x
  ·rw [if_pos c]; simp [c]
  ·rw [if_neg c]
   congr 1
   rw [List.contains_cons]
   have : (x == l[j.toNat]) = false := by simpa using fun h => c h.symm
   rw [this]; simp
theorem start_loop (v : VR nm E S SD M MD L LD Cy lp av) (k : Nat) (d : Int) (h1 : -4000000000000000000 ≤ d) (h2 : d ≤ 4000000000000000000) (hk : 10 < k) : lunisolar_start.l0 k d nm E S SD M MD L LD Cy lp av = some (adv av d) := by
 have step : ∀ (k : Nat) (d : Int), -4000000000000000010 ≤ d → d ≤ 4000000000000000010 → 5 < k → lunisolar_start.l0 (k + 1) d nm E S SD M MD L LD Cy lp av = if avd av d = true then lunisolar_start.l0 k (d + 1) nm E S SD M MD L LD Cy lp av else some d := by
  intro k d h1 h2 hk
  conv => lhs; simp only [lunisolar_start.l0]
  rw [w64 (n := d - 1) (by omega) (by omega), wmod_is (d - 1) 7 (by omega) (by omega)]
  simp only [Option.bind_some, lunisolar_avoided.f]
  rw [avoided_loop av _ v.al av.length k 0 (by omega) (by omega) (by have := v.al; omega)]
  simp only [Option.bind_some]
  rw [w64 (n := d + 1) (by omega) (by omega)]
  rfl
 obtain ⟨k, rfl⟩ : ∃ q, k = q + 4 := ⟨k - 4, by omega⟩
 have hf := adv_free v.al d
 unfold adv at hf ⊢
 rw [step (k + 3) d (by omega) (by omega) (by omega)]
 by_cases c0 : avd av d = true
 ·rw [if_pos c0] at hf ⊢
  rw [if_pos c0, step (k + 2) (d + 1) (by omega) (by omega) (by omega)]
  by_cases c1 : avd av (d + 1) = true
  ·rw [if_pos c1] at hf ⊢
   rw [if_pos c1, show d + 1 + 1 = d + 2 from by omega, step (k + 1) (d + 2) (by omega) (by omega) (by omega)]
   by_cases c2 : avd av (d + 2) = true
   ·rw [if_pos c2] at hf ⊢
    rw [if_pos c2, show d + 2 + 1 = d + 3 from by omega, step k (d + 3) (by omega) (by omega) (by omega), hf]
    simp
   ·rw [if_neg c2, if_neg c2]
  ·rw [if_neg c1, if_neg c1]
 ·rw [if_neg c0, if_neg c0]
def startS (E S SD M MD L LD Cy : Int) (lp av : List Int) (y mo : Int) : Int := if mo = 1 then adv av (und E S SD M MD L LD (befS lp Cy y + mo - 1)) else und E S SD M MD L LD (befS lp Cy y + mo - 1)
theorem start_is (k : Nat) (v : VR nm E S SD M MD L LD Cy lp av) (y mo : Int) (h1 : -10001 ≤ y) (h2 : y ≤ 10001) (h3 : 1 ≤ mo) (h4 : mo ≤ 13) (hk : 2147483700 < k) :
  lunisolar_start.f k nm E S SD M MD L LD Cy lp av y mo = some (startS E S SD M MD L LD Cy lp av y mo) := by
 obtain ⟨k, rfl⟩ : ∃ q, k = q + 1 := ⟨k - 1, by omega⟩
 obtain ⟨n1, n2, a, b, c, s1, s2, m1, m2, l1, l2⟩ := und_parts v
 have hb := befS_bd v y h1 h2
 have he := v.ep
 unfold lunisolar_start.f
 rw [parts_is (k + 1) v.fs.1 v.fs.2.1 v.fm.1 v.fm.2.1 v.fl.1 v.fl.2.1 (by omega)]
 simp only [Option.bind_some]
 rw [before_is k v y h1 h2]
 simp only [Option.bind_some]
 have hfs := v.fs; have hfm := v.fm; have hfl := v.fl
 rw [if_neg (by omega), if_neg (by omega), if_neg (by omega), tdiv_pos (show 0 ≤ PN SD MD LD by omega), tdiv_pos (show 0 ≤ PN SD MD LD by omega), tdiv_pos (show 0 ≤ PN SD MD LD by omega)]
 unfold startS und
 generalize PN SD MD LD = N at *
 rw [w64 (n := N / SD) (by omega) (by omega), w64 (n := N / MD) (by omega) (by omega), w64 (n := N / LD) (by omega) (by omega)]
 generalize S * (N / SD) = s at *
 generalize L * (N / LD) = l at *
 generalize M * (N / MD) = m at *
 generalize befS lp Cy y = B at *
 rw [w64 (n := s) (by omega) (by omega), w64 (n := l) (by omega) (by omega), w64 (n := m) (by omega) (by omega), w64 (n := B + mo) (by omega) (by omega), w64 (n := B + mo - 1) (by omega) (by omega)]
 have hp := mulb (show -2000020 ≤ B + mo - 1 by omega) (show B + mo - 1 ≤ 2000020 by omega) (show 0 ≤ m by omega) (show m ≤ 30000000 by omega) (by omega)
 generalize hkm : (B + mo - 1) * m = km at *
 rw [w64 (n := km) (by omega) (by omega), w64 (n := s + km) (by omega) (by omega), w64 (n := s + km + N) (by omega) (by omega), w64 (n := s + km + N - l) (by omega) (by omega)]
 have hT : -60000700000000 ≤ s + km + N - l ∧ s + km + N - l ≤ 60000700000000 := by omega
 generalize s + km + N - l = T at *
 rw [div_is k T N (by omega) (by omega) (by omega) (by omega)]
 simp only [Option.bind_some]
 have hq1 : -60000700000000 ≤ T / N := by
  rw [Int.le_ediv_iff_mul_le (by omega)]
  have : 60000700000000 * 1 ≤ 60000700000000 * N := Int.mul_le_mul_of_nonneg_left (by omega) (by omega)
  omega
 have hq2 : T / N ≤ 60000700000000 := by
  by_cases c : 0 ≤ T
  ·have := Int.ediv_le_self N c; omega
  ·have : T / N < 0 := Int.ediv_neg_of_neg_of_pos (by omega) (by omega)
   omega
 rw [w64 (n := E + T / N) (by omega) (by omega)]
 by_cases c1 : mo = 1
 ·rw [if_pos c1, if_pos c1, start_loop v (k + 1) _ (by omega) (by omega) (by omega)]
 ·rw [if_neg c1, if_neg c1]
end
section
variable {nm : ByteArray} {E S SD M MD L LD Cy : Int} {lp av : List Int}
structure Wl (S M L : Int) (lp av : List Int) (k : Nat) : Prop where
 s : i64 S
 m : i64 M
 l : i64 L
 nlp : lp.length ≤ 140737488351232
 nav : av.length ≤ 140737488351232
 k : 2147483700 + 2 * lp.length + 2 * av.length < k
theorem Wl.of (v : VR nm E S SD M MD L LD Cy lp av) {k : Nat} (hk : 2147484700 < k) : Wl S M L lp av k := by
 have a := lp_len v
 have b := v.al
 have := v.fs; have := v.fm; have := v.fl
 exact ⟨by unfold i64; omega, by unfold i64; omega, by unfold i64; omega, by omega, by omega, by omega⟩
theorem lcheck_ok (k : Nat) (v : VR nm E S SD M MD L LD Cy lp av) (hk : 2147484700 < k) : lunisolar_Check.f k nm E S SD M MD L LD Cy lp av = some 0 := by
 have w := Wl.of v hk
 rcases lcheck_is k (nm := nm) (E := E) (SD := SD) (MD := MD) (LD := LD) (Cy := Cy) w.s w.m w.l w.nlp w.nav w.k with ⟨_, e⟩ | ⟨n, _⟩
 ·exact e
 ·exact absurd v n
theorem startS_bd (v : VR nm E S SD M MD L LD Cy lp av) (y mo : Int) (h1 : -10001 ≤ y) (h2 : y ≤ 10001) (h3 : 1 ≤ mo) (h4 : mo ≤ 14) : -400000000 ≤ startS E S SD M MD L LD Cy lp av y mo ∧ startS E S SD M MD L LD Cy lp av y mo ≤ 400000000 := by
 obtain ⟨n1, n2, a, b, c, s1, s2, m1, m2, l1, l2⟩ := und_parts v
 have hb := befS_bd v y h1 h2
 have he := v.ep
 have hu : -200000000 ≤ und E S SD M MD L LD (befS lp Cy y + mo - 1) ∧ und E S SD M MD L LD (befS lp Cy y + mo - 1) ≤ 200000000 := by
  unfold und
  generalize PN SD MD LD = N at *
  generalize S * (N / SD) = s at *
  generalize L * (N / LD) = l at *
  generalize M * (N / MD) = m at *
  have hK : -2000020 ≤ befS lp Cy y + mo - 1 ∧ befS lp Cy y + mo - 1 ≤ 2000020 := by omega
  generalize befS lp Cy y + mo - 1 = K at *
  have hp := mulb hK.1 hK.2 (show 0 ≤ m by omega) (show m ≤ 30 * N by omega) (by omega)
  have e1 : (2000020 : Int) * (30 * N) = 60000600 * N := by rw [← Int.mul_assoc]; rfl
  rw [e1] at hp
  constructor
  ·have : -60000601 ≤ (s + K * m + N - l) / N := by rw [Int.le_ediv_iff_mul_le (by omega)]; omega
   omega
  ·have : (s + K * m + N - l) / N < 60000610 := by rw [Int.ediv_lt_iff_lt_mul (by omega)]; omega
   omega
 have ha := adv_bd av (und E S SD M MD L LD (befS lp Cy y + mo - 1))
 unfold startS
 split <;> omega
theorem lbegin_is (k : Nat) (v : VR nm E S SD M MD L LD Cy lp av) (y : Int) (h1 : -10000 ≤ y) (h2 : y ≤ 10000) (hk : 2147484700 < k) : lunisolar_begin.f k nm E S SD M MD L LD Cy lp av y = some 0 := by
 unfold lunisolar_begin.f
 rw [lcheck_ok k v hk]
 simp only [Option.bind_some]
 rw [if_pos trivial, if_neg (by omega), if_neg (by omega)]
theorem Begin_is (k : Nat) (v : VR nm E S SD M MD L LD Cy lp av) (y mo : Int) (h1 : -10000 ≤ y) (h2 : y ≤ 10000) (h3 : 1 ≤ mo) (h4 : mo ≤ monS lp Cy y) (hk : 2147484700 < k) :
  lunisolar_Begin.f (k + 1) nm E S SD M MD L LD Cy lp av y mo = some (if -4000000 ≤ startS E S SD M MD L LD Cy lp av y mo ∧ startS E S SD M MD L LD Cy lp av y mo ≤ 4000000 then (startS E S SD M MD L LD Cy lp av y mo, 0) else (0, 3)) := by
 have hm := monS_bd v y
 unfold lunisolar_Begin.f
 rw [lbegin_is (k + 1) v y h1 h2 (by omega)]
 simp only [Option.bind_some]
 rw [if_pos trivial, if_neg (by omega), months_is v y (by omega) (by omega)]
 simp only [Option.bind_some, lunisolar_Begin.j0]
 rw [decide_eq_false (by omega), if_neg (by decide), start_is k v y mo (by omega) (by omega) h3 (by omega) (by omega)]
 simp only [Option.bind_some]
 by_cases c : -4000000 ≤ startS E S SD M MD L LD Cy lp av y mo ∧ startS E S SD M MD L LD Cy lp av y mo ≤ 4000000
 ·rw [check_ok _ c.1 c.2, if_pos c]
  simp
 ·rw [check_bad _ (by omega), if_neg c]
  simp
end
section
variable {nm : ByteArray} {E S SD M MD L LD Cy : Int} {lp av : List Int}
theorem Months_is (k : Nat) (v : VR nm E S SD M MD L LD Cy lp av) (y : Int) (h1 : -10000 ≤ y) (h2 : y ≤ 10000) (hk : 2147484700 < k) : lunisolar_Months.f k nm E S SD M MD L LD Cy lp av y = some (monS lp Cy y, 0) := by
 unfold lunisolar_Months.f
 rw [lbegin_is k v y h1 h2 hk]
 simp only [Option.bind_some]
 rw [if_pos trivial, months_is v y (by omega) (by omega)]
 rfl
end
section
variable {nm : ByteArray} {E S SD M MD L LD Cy : Int} {lp av : List Int}
def nextS (E S SD M MD L LD Cy : Int) (lp av : List Int) (y mo : Int) : Int := if mo = monS lp Cy y then startS E S SD M MD L LD Cy lp av (y + 1) 1 else startS E S SD M MD L LD Cy lp av y (mo + 1)
theorem startS_in (E S SD M MD L LD Cy : Int) (lp av : List Int) (y mo : Int) : und E S SD M MD L LD (befS lp Cy y + mo - 1) ≤ startS E S SD M MD L LD Cy lp av y mo ∧ startS E S SD M MD L LD Cy lp av y mo ≤ und E S SD M MD L LD (befS lp Cy y + mo - 1) + 3 := by
 have := adv_bd av (und E S SD M MD L LD (befS lp Cy y + mo - 1))
 unfold startS
 split <;> omega
theorem nextS_in (v : VR nm E S SD M MD L LD Cy lp av) (y mo : Int) : und E S SD M MD L LD (befS lp Cy y + mo - 1) + 29 ≤ nextS E S SD M MD L LD Cy lp av y mo ∧ nextS E S SD M MD L LD Cy lp av y mo ≤ und E S SD M MD L LD (befS lp Cy y + mo - 1) + 33 := by
 have hu := und_next v (befS lp Cy y + mo - 1)
 unfold nextS
 split
 ·rename_i c
  have a := startS_in E S SD M MD L LD Cy lp av (y + 1) 1
  rw [befS_next v y, show befS lp Cy y + monS lp Cy y + 1 - 1 = befS lp Cy y + mo - 1 + 1 from by omega] at a
  omega
 ·have a := startS_in E S SD M MD L LD Cy lp av y (mo + 1)
  rw [show befS lp Cy y + (mo + 1) - 1 = befS lp Cy y + mo - 1 + 1 from by omega] at a
  omega
theorem gap_is (v : VR nm E S SD M MD L LD Cy lp av) (y mo : Int) : startS E S SD M MD L LD Cy lp av y mo + 26 ≤ nextS E S SD M MD L LD Cy lp av y mo ∧ nextS E S SD M MD L LD Cy lp av y mo ≤ startS E S SD M MD L LD Cy lp av y mo + 33 := by
 have a := startS_in E S SD M MD L LD Cy lp av y mo
 have b := nextS_in v y mo
 omega
theorem und_far (v : VR nm E S SD M MD L LD Cy lp av) (n : Nat) : ∀ k, und E S SD M MD L LD k + 29 * n ≤ und E S SD M MD L LD (k + n) := by
 induction n with
 | zero => intro k; simp
 | succ n ih =>
  intro k
  have a := ih k
  have b := und_next v (k + n)
  rw [show k + ((n + 1 : Nat) : Int) = k + n + 1 from by omega]
  omega
theorem monoM (v : VR nm E S SD M MD L LD Cy lp av) (y m m' : Int) (h : m < m') : startS E S SD M MD L LD Cy lp av y m + 26 ≤ startS E S SD M MD L LD Cy lp av y m' := by
 have a := startS_in E S SD M MD L LD Cy lp av y m
 have b := startS_in E S SD M MD L LD Cy lp av y m'
 have c := und_far v (m' - m).toNat (befS lp Cy y + m - 1)
 rw [show befS lp Cy y + m - 1 + ((m' - m).toNat : Int) = befS lp Cy y + m' - 1 from by omega] at c
 omega
theorem ys_next (v : VR nm E S SD M MD L LD Cy lp av) (y m : Int) (h : m ≤ monS lp Cy y) : startS E S SD M MD L LD Cy lp av y m + 26 ≤ startS E S SD M MD L LD Cy lp av (y + 1) 1 := by
 have a := startS_in E S SD M MD L LD Cy lp av y m
 have b := startS_in E S SD M MD L LD Cy lp av (y + 1) 1
 have c := und_far v (monS lp Cy y + 1 - m).toNat (befS lp Cy y + m - 1)
 rw [befS_next v y] at b
 rw [show befS lp Cy y + m - 1 + ((monS lp Cy y + 1 - m).toNat : Int) = befS lp Cy y + monS lp Cy y + 1 - 1 from by omega] at c
 omega
theorem ys_far (v : VR nm E S SD M MD L LD Cy lp av) (n : Nat) : ∀ y, startS E S SD M MD L LD Cy lp av y 1 + 26 * n ≤ startS E S SD M MD L LD Cy lp av (y + n) 1 := by
 induction n with
 | zero => intro k; simp
 | succ n ih =>
  intro y
  have a := ih y
  have b := ys_next v (y + n) 1 (by have := monS_bd v (y + n); omega)
  rw [show y + ((n + 1 : Nat) : Int) = y + n + 1 from by omega]
  omega
theorem monoY (v : VR nm E S SD M MD L LD Cy lp av) (y y' : Int) (h : y ≤ y') : startS E S SD M MD L LD Cy lp av y 1 + 26 * (y' - y) ≤ startS E S SD M MD L LD Cy lp av y' 1 := by
 have a := ys_far v (y' - y).toNat y
 rw [show y + ((y' - y).toNat : Int) = y' from by omega] at a
 omega
theorem nextS_year (v : VR nm E S SD M MD L LD Cy lp av) (y m : Int) (h : m ≤ monS lp Cy y) : nextS E S SD M MD L LD Cy lp av y m ≤ startS E S SD M MD L LD Cy lp av (y + 1) 1 := by
 unfold nextS
 split
 ·omega
 ·have := ys_next v y (m + 1) (by omega)
  omega
theorem startS_year (v : VR nm E S SD M MD L LD Cy lp av) (y m : Int) (h : 1 ≤ m) : startS E S SD M MD L LD Cy lp av y 1 ≤ startS E S SD M MD L LD Cy lp av y m := by
 by_cases c : m = 1
 ·rw [c]; omega
 ·have := monoM v y 1 m (by omega); omega
structure Holds (E S SD M MD L LD Cy : Int) (lp av : List Int) (y m day : Int) : Prop where
 m1 : 1 ≤ m
 m2 : m ≤ monS lp Cy y
 lo : startS E S SD M MD L LD Cy lp av y m ≤ day
 hi : day < nextS E S SD M MD L LD Cy lp av y m
theorem holds_next (v : VR nm E S SD M MD L LD Cy lp av) {y m y' m' day : Int} (h : Holds E S SD M MD L LD Cy lp av y m day) {e : Int} (he : e = 0 ∨ e = 1) (h' : Holds E S SD M MD L LD Cy lp av y' m' (day + e)) :
  (y' = y ∧ m' = m) ∨ (e = 1 ∧ startS E S SD M MD L LD Cy lp av y' m' = day + 1 ∧ ((y' = y ∧ m' = m + 1) ∨ (y' = y + 1 ∧ m' = 1))) := by
 have a1 := h.lo; have a2 := h.hi; have b1 := h'.lo; have b2 := h'.hi
 have n1 := nextS_year v y m h.m2
 have n2 := nextS_year v y' m' h'.m2
 have s1 := startS_year v y m h.m1
 have s2 := startS_year v y' m' h'.m1
 by_cases c : y' < y
 ·have := monoY v (y' + 1) y (by omega)
  omega
 by_cases c2 : y < y'
 ·have q := monoY v (y + 1) y' (by omega)
  right
  have hm : m' = 1 := by
   by_cases z : m' = 1
   ·exact z
   ·have := monoM v y' 1 m' (by have := h'.m1; omega)
    omega
  exact ⟨by omega, by omega, .inr ⟨by omega, hm⟩⟩
 obtain rfl : y' = y := by omega
 by_cases c3 : m' < m
 ·have : nextS E S SD M MD L LD Cy lp av y' m' ≤ startS E S SD M MD L LD Cy lp av y' m := by
   unfold nextS
   rw [if_neg (by have := h.m2; omega)]
   by_cases z : m' + 1 = m
   ·rw [z]; omega
   ·have := monoM v y' (m' + 1) m (by omega); omega
  omega
 by_cases c4 : m < m'
 ·right
  have e1 : nextS E S SD M MD L LD Cy lp av y' m = startS E S SD M MD L LD Cy lp av y' (m + 1) := by
   unfold nextS
   rw [if_neg (by have := h'.m2; omega)]
  by_cases z : m' = m + 1
  ·subst z
   exact ⟨by omega, by omega, .inl ⟨rfl, rfl⟩⟩
  ·have := monoM v y' (m + 1) m' (by omega)
   omega
 exact .inl ⟨rfl, by omega⟩
theorem next_is (k : Nat) (v : VR nm E S SD M MD L LD Cy lp av) (y mo : Int) (h1 : -10000 ≤ y) (h2 : y ≤ 10000) (h3 : 1 ≤ mo) (h4 : mo ≤ monS lp Cy y) (hk : 2147483700 < k) :
  lunisolar_next.f k nm E S SD M MD L LD Cy lp av y mo = some (nextS E S SD M MD L LD Cy lp av y mo) := by
 have hm := monS_bd v y
 unfold lunisolar_next.f nextS
 rw [months_is v y (by omega) (by omega)]
 simp only [Option.bind_some]
 by_cases c : mo = monS lp Cy y
 ·rw [if_pos c, if_pos c, w64 (n := y + 1) (by omega) (by omega), start_is k v (y + 1) 1 (by omega) (by omega) (by omega) (by omega) hk]
  rfl
 ·rw [if_neg c, if_neg c, w64 (n := mo + 1) (by omega) (by omega), start_is k v y (mo + 1) (by omega) (by omega) (by omega) (by omega) hk]
  rfl
theorem month_loop (v : VR nm E S SD M MD L LD Cy lp av) (y day : Int) (h1 : -10000 ≤ y) (h2 : y ≤ 10000) (d1 : -4000000 ≤ day) (d2 : day ≤ 4000000) (hy : day < startS E S SD M MD L LD Cy lp av (y + 1) 1) (d : Nat) : ∀ (k : Nat) (m : Int), 1 ≤ m → m + d = monS lp Cy y → startS E S SD M MD L LD Cy lp av y m ≤ day → 2147483701 + d < k →
  ∃ m', lunisolar_FromDay.l1 k day y m nm E S SD M MD L LD Cy lp av = some (y, m', day - startS E S SD M MD L LD Cy lp av y m' + 1, 0) ∧ Holds E S SD M MD L LD Cy lp av y m' day := by
 have fin : ∀ (k : Nat) (m : Int), 1 ≤ m → m ≤ monS lp Cy y → startS E S SD M MD L LD Cy lp av y m ≤ day → 2147483700 < k → day < nextS E S SD M MD L LD Cy lp av y m →
   lunisolar_FromDay.l1 (k + 1) day y m nm E S SD M MD L LD Cy lp av = some (y, m, day - startS E S SD M MD L LD Cy lp av y m + 1, 0) := by
  intro k m m1 m2 hs hk hn
  have hm := monS_bd v y
  have hb := startS_bd v y m (by omega) (by omega) m1 (by omega)
  simp only [lunisolar_FromDay.l1]
  rw [next_is k v y m h1 h2 m1 m2 hk]
  simp only [Option.bind_some]
  rw [if_neg (by omega), start_is k v y m (by omega) (by omega) m1 (by omega) hk]
  simp only [Option.bind_some]
  rw [w64 (n := day - startS E S SD M MD L LD Cy lp av y m) (by omega) (by omega), w64 (by omega) (by omega)]
 induction d with
 | zero =>
  intro k m m1 m2 hs hk
  obtain ⟨k, rfl⟩ : ∃ q, k = q + 1 := ⟨k - 1, by omega⟩
  have hn : day < nextS E S SD M MD L LD Cy lp av y m := by unfold nextS; rw [if_pos (by omega)]; exact hy
  exact ⟨m, fin k m m1 (by omega) hs (by omega) hn, m1, by omega, hs, hn⟩
 | succ d ih =>
  intro k m m1 m2 hs hk
  obtain ⟨k, rfl⟩ : ∃ q, k = q + 1 := ⟨k - 1, by omega⟩
  have hm := monS_bd v y
  by_cases c : day < nextS E S SD M MD L LD Cy lp av y m
  ·exact ⟨m, fin k m m1 (by omega) hs (by omega) c, m1, by omega, hs, c⟩
  ·have e : nextS E S SD M MD L LD Cy lp av y m = startS E S SD M MD L LD Cy lp av y (m + 1) := by unfold nextS; rw [if_neg (by omega)]
   obtain ⟨m', e', h⟩ := ih k (m + 1) (by omega) (by omega) (by omega) (by omega)
   refine ⟨m', ?_, h⟩
   simp only [lunisolar_FromDay.l1]
   rw [next_is k v y m h1 h2 m1 (by omega) (by omega)]
   simp only [Option.bind_some]
   rw [if_pos (by omega), w64 (n := m + 1) (by omega) (by omega)]
   exact e'
theorem year_loop (v : VR nm E S SD M MD L LD Cy lp av) (day : Int) (d1 : -4000000 ≤ day) (d2 : day ≤ 4000000) (d : Nat) : ∀ (k : Nat) (lo hi : Int), -9999 ≤ lo → hi ≤ 10000 → lo < hi → hi - lo ≤ d + 1 → startS E S SD M MD L LD Cy lp av lo 1 ≤ day → day < startS E S SD M MD L LD Cy lp av hi 1 → 2147483801 + d < k →
  ∃ y m', -9999 ≤ y ∧ y < 10000 ∧ lunisolar_FromDay.l0 k day lo hi nm E S SD M MD L LD Cy lp av = some (y, m', day - startS E S SD M MD L LD Cy lp av y m' + 1, 0) ∧ Holds E S SD M MD L LD Cy lp av y m' day := by
 have fin : ∀ (k : Nat) (lo hi : Int), -9999 ≤ lo → hi ≤ 10000 → hi = lo + 1 → startS E S SD M MD L LD Cy lp av lo 1 ≤ day → day < startS E S SD M MD L LD Cy lp av hi 1 → 2147483800 < k →
   ∃ y m', -9999 ≤ y ∧ y < 10000 ∧ lunisolar_FromDay.l0 (k + 1) day lo hi nm E S SD M MD L LD Cy lp av = some (y, m', day - startS E S SD M MD L LD Cy lp av y m' + 1, 0) ∧ Holds E S SD M MD L LD Cy lp av y m' day := by
  intro k lo hi h1 h2 h3 h4 h5 hk
  subst h3
  have hm := monS_bd v lo
  obtain ⟨m', e, h⟩ := month_loop v lo day (by omega) (by omega) d1 d2 h5 (monS lp Cy lo - 1).toNat k 1 (by omega) (by omega) h4 (by omega)
  refine ⟨lo, m', h1, by omega, ?_, h⟩
  simp only [lunisolar_FromDay.l0]
  rw [w64 (n := lo + 1 - lo) (by omega) (by omega), if_neg (by omega)]
  exact e
 induction d with
 | zero =>
  intro k lo hi h1 h2 h3 h4 h5 h6 hk
  obtain ⟨k, rfl⟩ : ∃ q, k = q + 1 := ⟨k - 1, by omega⟩
  exact fin k lo hi h1 h2 (by omega) h5 h6 (by omega)
 | succ d ih =>
  intro k lo hi h1 h2 h3 h4 h5 h6 hk
  obtain ⟨k, rfl⟩ : ∃ q, k = q + 1 := ⟨k - 1, by omega⟩
  by_cases c : hi = lo + 1
  ·exact fin k lo hi h1 h2 c h5 h6 (by omega)
  ·have hmid : lo < lo + (hi - lo) / 2 ∧ lo + (hi - lo) / 2 < hi := by omega
   by_cases c2 : startS E S SD M MD L LD Cy lp av (lo + (hi - lo) / 2) 1 ≤ day
   ·obtain ⟨y, m', y1, y2, e, h⟩ := ih k (lo + (hi - lo) / 2) hi (by omega) h2 (by omega) (by omega) c2 h6 (by omega)
    refine ⟨y, m', y1, y2, ?_, h⟩
    rw [← e]
    conv => lhs; simp only [lunisolar_FromDay.l0]
    rw [w64 (n := hi - lo) (by omega) (by omega), if_pos (by omega), tdiv_pos (show 0 ≤ hi - lo by omega), w64 (n := (hi - lo) / 2) (by omega) (by omega), w64 (n := lo + (hi - lo) / 2) (by omega) (by omega), start_is k v _ 1 (by omega) (by omega) (by omega) (by omega) (by omega)]
    simp only [Option.bind_some]
    rw [if_pos c2]
   ·obtain ⟨y, m', y1, y2, e, h⟩ := ih k lo (lo + (hi - lo) / 2) (by omega) (by omega) (by omega) (by omega) h5 (by omega) (by omega)
    refine ⟨y, m', y1, y2, ?_, h⟩
    rw [← e]
    conv => lhs; simp only [lunisolar_FromDay.l0]
    rw [w64 (n := hi - lo) (by omega) (by omega), if_pos (by omega), tdiv_pos (show 0 ≤ hi - lo by omega), w64 (n := (hi - lo) / 2) (by omega) (by omega), w64 (n := lo + (hi - lo) / 2) (by omega) (by omega), start_is k v _ 1 (by omega) (by omega) (by omega) (by omega) (by omega)]
    simp only [Option.bind_some]
    rw [if_neg c2]
theorem FromDay_is (k : Nat) (v : VR nm E S SD M MD L LD Cy lp av) (day : Int) (d1 : -4000000 ≤ day) (d2 : day ≤ 4000000) (hk : 2147600000 < k) :
  ((day < startS E S SD M MD L LD Cy lp av (-9999) 1 ∨ startS E S SD M MD L LD Cy lp av 10000 1 ≤ day) ∧ lunisolar_FromDay.f k nm E S SD M MD L LD Cy lp av day = some (0, 0, 0, 3)) ∨
  ∃ y m', -9999 ≤ y ∧ y < 10000 ∧ lunisolar_FromDay.f k nm E S SD M MD L LD Cy lp av day = some (y, m', day - startS E S SD M MD L LD Cy lp av y m' + 1, 0) ∧ Holds E S SD M MD L LD Cy lp av y m' day := by
 obtain ⟨k, rfl⟩ : ∃ q, k = q + 1 := ⟨k - 1, by omega⟩
 unfold lunisolar_FromDay.f
 rw [lcheck_ok (k + 1) v (by omega)]
 simp only [Option.bind_some]
 rw [if_pos trivial, check_ok day d1 d2]
 simp only [Option.bind_some]
 rw [if_pos trivial, start_is (k + 1) v (-9999) 1 (by omega) (by omega) (by omega) (by omega) (by omega), start_is (k + 1) v 10000 1 (by omega) (by omega) (by omega) (by omega) (by omega)]
 simp only [Option.bind_some, lunisolar_FromDay.j0]
 by_cases c1 : startS E S SD M MD L LD Cy lp av (-9999) 1 > day
 ·rw [if_pos c1, if_pos trivial]; exact .inl ⟨.inl c1, rfl⟩
 rw [if_neg c1]
 by_cases c2 : startS E S SD M MD L LD Cy lp av 10000 1 ≤ day
 ·rw [decide_eq_true c2, if_pos rfl]; exact .inl ⟨.inr c2, rfl⟩
 rw [decide_eq_false c2, if_neg (by decide)]
 exact .inr (year_loop v day d1 d2 20000 k (-9999) 10000 (by omega) (by omega) (by omega) (by omega) (by omega) (by omega) (by omega))
end
section
variable {nm : ByteArray} {E S SD M MD L LD Cy : Int} {lp av : List Int}
def rowS (E S SD M MD L LD Cy : Int) (lp av : List Int) (y m : Int) : Nat → List Int
 | 0 => []
 | d + 1 => startS E S SD M MD L LD Cy lp av y m :: rowS E S SD M MD L LD Cy lp av y (m + 1) d
def stL (E S SD M MD L LD Cy : Int) (lp av : List Int) (y : Int) : Nat → List Int
 | 0 => []
 | n + 1 => rowS E S SD M MD L LD Cy lp av y 1 (monS lp Cy y).toNat ++ stL E S SD M MD L LD Cy lp av (y + 1) n
def moL (lp : List Int) (Cy y : Int) : Nat → List Int
 | 0 => []
 | n + 1 => monS lp Cy y :: moL lp Cy (y + 1) n
def inL (l : List Int) : Prop := ∀ x ∈ l, -4000000 ≤ x ∧ x ≤ 4000000
theorem rowS_len (d : Nat) : ∀ y m, (rowS E S SD M MD L LD Cy lp av y m d).length = d := by
 induction d with
 | zero => intro y m; rfl
 | succ d ih => intro y m; simp only [rowS, List.length_cons, ih]
theorem of_row (v : VR nm E S SD M MD L LD Cy lp av) (F Yr y : Int) (h1 : -10000 ≤ y) (h2 : y ≤ 10000) (n2 : ByteArray) (ms : List Int) (j : Nat) (hj : 2147484800 < j) (d : Nat) : ∀ (m : Int) (ss : List Int), 1 ≤ m → m + d = monS lp Cy y + 1 → ss.length + d ≤ 1000000 →
  (∃ e, e ≠ 0 ∧ observed_Of.l1 (j + d + 1) F Yr y (monS lp Cy y) m nm E S SD M MD L LD Cy lp av n2 F ms ss = some (⟨#[]⟩, 0, [], [], e) ∧ ¬ inL (rowS E S SD M MD L LD Cy lp av y m d)) ∨
  (inL (rowS E S SD M MD L LD Cy lp av y m d) ∧ observed_Of.l1 (j + d + 1) F Yr y (monS lp Cy y) m nm E S SD M MD L LD Cy lp av n2 F ms ss = observed_Of.l0 j F Yr (y + 1) nm E S SD M MD L LD Cy lp av n2 F ms (ss ++ rowS E S SD M MD L LD Cy lp av y m d)) := by
 have hm := monS_bd v y
 induction d with
 | zero =>
  intro m ss m1 md hs
  right
  refine ⟨fun x hx => (by simp [rowS] at hx), ?_⟩
  simp only [observed_Of.l1]
  rw [if_neg (by omega), w64 (n := y + 1) (by omega) (by omega)]
  simp only [rowS, List.append_nil]
 | succ d ih =>
  intro m ss m1 md hs
  obtain ⟨q, hq⟩ : ∃ q, q = j + d + 1 := ⟨_, rfl⟩
  rw [show j + (d + 1) + 1 = q + 1 by omega]
  simp only [observed_Of.l1]
  rw [hq, if_pos (by omega), Begin_is (j + d) v y m h1 h2 m1 (by omega) (by omega)]
  simp only [Option.bind_some]
  by_cases c : -4000000 ≤ startS E S SD M MD L LD Cy lp av y m ∧ startS E S SD M MD L LD Cy lp av y m ≤ 4000000
  ·rw [if_pos c, if_pos rfl, if_pos (by omega), w64 (n := m + 1) (by omega) (by omega)]
   rcases ih (m + 1) (ss ++ [startS E S SD M MD L LD Cy lp av y m]) (by omega) (by omega) (by rw [List.length_append, List.length_singleton]; omega) with ⟨e, he, h, hne⟩ | ⟨hi, h⟩
   ·exact .inl ⟨e, he, h, fun z => hne (fun x hx => z x (by simp only [rowS, List.mem_cons]; exact .inr hx))⟩
   ·right
    refine ⟨fun x hx => ?_, ?_⟩
    ·simp only [rowS, List.mem_cons] at hx
     rcases hx with rfl | hx
     ·exact c
     ·exact hi x hx
    ·rw [h]
     simp only [rowS, List.append_assoc, List.singleton_append]
  ·left
   rw [if_neg c]
   exact ⟨3, by decide, if_neg (by decide), fun z => c (z _ (by simp [rowS]))⟩
theorem of_years (v : VR nm E S SD M MD L LD Cy lp av) (F Yr : Int) (hF1 : -5000 ≤ F) (hF2 : F ≤ 5000) (hY1 : 0 ≤ Yr) (hY2 : Yr ≤ 40) (n2 : ByteArray) (n : Nat) : ∀ (k : Nat) (y : Int) (ms ss : List Int), F ≤ y → y + n = F + Yr → 2147485000 + 20 * n < k → ms.length + n ≤ 1000 → ss.length + 13 * n ≤ 10000 →
  ∃ t, observed_Of.l0 k F Yr y nm E S SD M MD L LD Cy lp av n2 F ms ss = some t ∧
   (t.2.2.2.2 = 0 → t = (n2, F, ms ++ moL lp Cy y n, ss ++ stL E S SD M MD L LD Cy lp av y n ++ [startS E S SD M MD L LD Cy lp av (y + n) 1], 0) ∧ inL (stL E S SD M MD L LD Cy lp av y n ++ [startS E S SD M MD L LD Cy lp av (y + n) 1])) ∧ (t.2.2.2.2 ≠ 0 → ¬ inL (stL E S SD M MD L LD Cy lp av y n ++ [startS E S SD M MD L LD Cy lp av (y + n) 1])) := by
 induction n with
 | zero =>
  intro k y ms ss hy1 hy2 hk hms hss
  obtain ⟨k, rfl⟩ : ∃ j, k = j + 2 := ⟨k - 2, by omega⟩
  have hm := monS_bd v (F + Yr)
  simp only [observed_Of.l0]
  rw [w64 (n := F + Yr) (by omega) (by omega), if_neg (by omega), Begin_is k v (F + Yr) 1 (by omega) (by omega) (by omega) (by omega) (by omega)]
  simp only [Option.bind_some]
  rw [show y + ((0 : Nat) : Int) = F + Yr from hy2]
  by_cases c : -4000000 ≤ startS E S SD M MD L LD Cy lp av (F + Yr) 1 ∧ startS E S SD M MD L LD Cy lp av (F + Yr) 1 ≤ 4000000
  ·rw [if_pos c, if_pos rfl, if_pos (by omega)]
   refine ⟨_, rfl, fun _ => ⟨?_, fun x hx => ?_⟩, fun z => absurd rfl z⟩
   ·simp only [moL, stL, List.append_nil]
   ·simp only [stL, List.nil_append, List.mem_singleton] at hx
    rw [hx]; exact c
  ·rw [if_neg c, if_neg (by decide)]
   exact ⟨_, rfl, fun z => absurd z (by decide), fun _ z => c (z _ (by simp only [stL, List.nil_append, List.mem_singleton]))⟩
 | succ n ih =>
  intro k y ms ss hy1 hy2 hk hms hss
  have hm := monS_bd v y
  obtain ⟨j, rfl⟩ : ∃ j, k = j + (monS lp Cy y).toNat + 1 + 1 := ⟨k - (monS lp Cy y).toNat - 2, by omega⟩
  simp only [observed_Of.l0]
  rw [w64 (n := F + Yr) (by omega) (by omega), if_pos (by omega), Months_is _ v y (by omega) (by omega) (by omega)]
  simp only [Option.bind_some]
  rw [if_pos (by omega)]
  rcases of_row v F Yr y (by omega) (by omega) n2 (ms ++ [monS lp Cy y]) j (by omega) (monS lp Cy y).toNat 1 ss (by omega) (by omega) (by omega) with ⟨e, he, h, hne⟩ | ⟨hi, h⟩
  ·exact ⟨_, h, fun z => absurd z he, fun _ z => hne (fun x hx => z x (by simp only [stL, List.append_assoc, List.mem_append]; exact .inl hx))⟩
  ·rw [h]
   obtain ⟨t, ht, hz, hz2⟩ := ih j (y + 1) (ms ++ [monS lp Cy y]) (ss ++ rowS E S SD M MD L LD Cy lp av y 1 (monS lp Cy y).toNat) (by omega) (by omega) (by omega) (by rw [List.length_append, List.length_singleton]; omega) (by rw [List.length_append, rowS_len]; omega)
   rw [show y + ((n + 1 : Nat) : Int) = y + 1 + (n : Int) by omega]
   refine ⟨t, ht, fun z => ?_, fun z w => hz2 z (fun x hx => w x (by simp only [stL, List.append_assoc, List.mem_append]; right; simpa only [List.mem_append] using hx))⟩
   obtain ⟨a, b⟩ := hz z
   refine ⟨?_, fun x hx => ?_⟩
   ·rw [a]
    simp only [moL, stL, List.append_assoc, List.singleton_append]
   ·simp only [stL, List.append_assoc, List.mem_append] at hx
    rcases hx with hx | hx
    ·exact hi x hx
    ·exact b x (by simpa only [List.mem_append] using hx)
theorem Of_is (k : Nat) (v : VR nm E S SD M MD L LD Cy lp av) (F : Int) (n : Nat) (hF1 : -5000 ≤ F) (hF2 : F ≤ 5000) (n1 : 1 ≤ n) (n2 : n ≤ 40) (hk : 2147490000 < k) :
  ∃ t, observed_Of.f k nm E S SD M MD L LD Cy lp av F n = some t ∧
   (t.2.2.2.2 = 0 → t = (nm, F, moL lp Cy F n, stL E S SD M MD L LD Cy lp av F n ++ [startS E S SD M MD L LD Cy lp av (F + n) 1], 0) ∧ inL (stL E S SD M MD L LD Cy lp av F n ++ [startS E S SD M MD L LD Cy lp av (F + n) 1])) ∧ (t.2.2.2.2 ≠ 0 → ¬ inL (stL E S SD M MD L LD Cy lp av F n ++ [startS E S SD M MD L LD Cy lp av (F + n) 1])) := by
 obtain ⟨k, rfl⟩ : ∃ j, k = j + 2 := ⟨k - 2, by omega⟩
 obtain ⟨t, ht, hz, hz2⟩ := of_years v F n hF1 hF2 (by omega) (by omega) nm n k F [] [] (by omega) (by omega) (by omega) (by simp; omega) (by simp; omega)
 refine ⟨t, ?_, fun z => by have := hz z; simpa using this, hz2⟩
 unfold observed_Of.f
 rw [lcheck_ok (k + 2) v (by omega)]
 simp only [Option.bind_some]
 rw [if_pos trivial, if_neg (by omega), decide_eq_false (by omega)]
 simp only [observed_Of.j0]
 rw [if_neg (by decide), if_neg (by omega), decide_eq_false (by omega)]
 simp only [observed_Of.j1]
 rw [if_neg (by decide)]
 exact ht
end
theorem rd_left {a b : List Int} {i : Int} (h0 : 0 ≤ i) (h1 : i < a.length) : rd (a ++ b) i = rd a i := by
 unfold rd
 rw [List.getD_eq_getElem?_getD, List.getD_eq_getElem?_getD, List.getElem?_append_left (by omega)]
theorem rd_right {a b : List Int} {i : Int} (h1 : (a.length : Int) ≤ i) : rd (a ++ b) i = rd b (i - a.length) := by
 unfold rd
 rw [List.getD_eq_getElem?_getD, List.getD_eq_getElem?_getD, List.getElem?_append_right (by omega), show (i - (a.length : Int)).toNat = i.toNat - a.length by omega]
theorem rd_zero (x : Int) (l : List Int) : rd (x :: l) 0 = x := rfl
theorem rd_next (x : Int) (l : List Int) {i : Int} (h : 0 < i) : rd (x :: l) i = rd l (i - 1) := by
 unfold rd
 obtain ⟨j, rfl⟩ : ∃ j : Nat, i = (j : Int) + 1 := ⟨(i - 1).toNat, by omega⟩
 rw [show ((j : Int) + 1).toNat = j + 1 by omega, show ((j : Int) + 1 - 1).toNat = j by omega]
 rfl
theorem rd_mem {l : List Int} {i : Int} (h0 : 0 ≤ i) (h1 : i < l.length) : rd l i ∈ l := by
 unfold rd
 rw [List.getD_eq_getElem?_getD, List.getElem?_eq_getElem (by omega)]
 exact List.getElem_mem _
section
variable {nm : ByteArray} {E S SD M MD L LD Cy : Int} {lp av : List Int}
theorem rd_row (d : Nat) : ∀ (y m i : Int), 0 ≤ i → i < d → rd (rowS E S SD M MD L LD Cy lp av y m d) i = startS E S SD M MD L LD Cy lp av y (m + i) := by
 induction d with
 | zero => intro y m i h0 h1; omega
 | succ d ih =>
  intro y m i h0 h1
  by_cases z : i = 0
  ·subst z
   simp only [rowS, rd_zero, Int.add_zero]
  ·simp only [rowS]
   rw [rd_next _ _ (by omega), ih y (m + 1) (i - 1) (by omega) (by omega), show m + 1 + (i - 1) = m + i by omega]
def pl (lp : List Int) (Cy F y m : Int) : Int := befS lp Cy y - befS lp Cy F + m - 1
def tab (E S SD M MD L LD Cy : Int) (lp av : List Int) (F : Int) (n : Nat) : List Int := stL E S SD M MD L LD Cy lp av F n ++ [startS E S SD M MD L LD Cy lp av (F + n) 1]
theorem tab_succ (F : Int) (n : Nat) : tab E S SD M MD L LD Cy lp av F (n + 1) = rowS E S SD M MD L LD Cy lp av F 1 (monS lp Cy F).toNat ++ tab E S SD M MD L LD Cy lp av (F + 1) n := by
 unfold tab
 simp only [stL, List.append_assoc]
 rw [show F + ((n + 1 : Nat) : Int) = F + 1 + (n : Int) by omega]
theorem tab_len (v : VR nm E S SD M MD L LD Cy lp av) (n : Nat) : ∀ F, ((tab E S SD M MD L LD Cy lp av F n).length : Int) = pl lp Cy F (F + n) 1 + 1 := by
 induction n with
 | zero => intro F; simp [tab, stL, pl]
 | succ n ih =>
  intro F
  have hm := monS_bd v F
  have hb := befS_next v F
  have := ih (F + 1)
  rw [tab_succ, List.length_append, rowS_len]
  unfold pl at this ⊢
  rw [show F + ((n + 1 : Nat) : Int) = F + 1 + (n : Int) by omega]
  omega
theorem bef_le (v : VR nm E S SD M MD L LD Cy lp av) (n : Nat) : ∀ F, befS lp Cy F + 12 * n ≤ befS lp Cy (F + n) := by
 induction n with
 | zero => intro F; simp
 | succ n ih =>
  intro F
  have hm := monS_bd v F
  have hb := befS_next v F
  have := ih (F + 1)
  rw [show F + ((n + 1 : Nat) : Int) = F + 1 + (n : Int) by omega]
  omega
theorem tab_last (v : VR nm E S SD M MD L LD Cy lp av) (n : Nat) : ∀ F, rd (tab E S SD M MD L LD Cy lp av F n) (pl lp Cy F (F + n) 1) = startS E S SD M MD L LD Cy lp av (F + n) 1 := by
 induction n with
 | zero => intro F; simp [tab, stL, pl, rd]
 | succ n ih =>
  intro F
  have hm := monS_bd v F
  have hb := befS_next v F
  have h1 := ih (F + 1)
  have h2 := bef_le v n (F + 1)
  rw [tab_succ, rd_right (by rw [rowS_len]; unfold pl; rw [show F + ((n + 1 : Nat) : Int) = F + 1 + (n : Int) by omega]; omega), rowS_len]
  rw [show F + ((n + 1 : Nat) : Int) = F + 1 + (n : Int) by omega]
  rw [show pl lp Cy F (F + 1 + (n : Int)) 1 - ((monS lp Cy F).toNat : Int) = pl lp Cy (F + 1) (F + 1 + (n : Int)) 1 by unfold pl; omega]
  exact h1
theorem tab_at (v : VR nm E S SD M MD L LD Cy lp av) (n : Nat) : ∀ (F y m : Int), F ≤ y → y < F + n → 1 ≤ m → m ≤ monS lp Cy y → rd (tab E S SD M MD L LD Cy lp av F n) (pl lp Cy F y m) = startS E S SD M MD L LD Cy lp av y m := by
 induction n with
 | zero => intro F y m h1 h2; omega
 | succ n ih =>
  intro F y m h1 h2 h3 h4
  have hm := monS_bd v F
  have hb := befS_next v F
  rw [tab_succ]
  by_cases z : y = F
  ·subst z
   have e : pl lp Cy y y m = m - 1 := by unfold pl; omega
   rw [e, rd_left (by omega) (by rw [rowS_len]; omega), rd_row _ _ _ _ (by omega) (by omega), show 1 + (m - 1) = m by omega]
  ·obtain ⟨j, rfl⟩ : ∃ j : Nat, y = F + 1 + j := ⟨(y - F - 1).toNat, by omega⟩
   have h5 := bef_le v j (F + 1)
   rw [rd_right (by rw [rowS_len]; unfold pl; omega), rowS_len]
   rw [show pl lp Cy F (F + 1 + (j : Int)) m - ((monS lp Cy F).toNat : Int) = pl lp Cy (F + 1) (F + 1 + (j : Int)) m by unfold pl; omega]
   exact ih (F + 1) _ m (by omega) (by omega) h3 h4
theorem tab_next (v : VR nm E S SD M MD L LD Cy lp av) (n : Nat) (F y m : Int) (h1 : F ≤ y) (h2 : y < F + n) (h3 : 1 ≤ m) (h4 : m ≤ monS lp Cy y) : rd (tab E S SD M MD L LD Cy lp av F n) (pl lp Cy F y m + 1) = nextS E S SD M MD L LD Cy lp av y m := by
 unfold nextS
 have hb := befS_next v y
 by_cases z : m = monS lp Cy y
 ·rw [if_pos z, show pl lp Cy F y m + 1 = pl lp Cy F (y + 1) 1 by unfold pl; omega]
  by_cases w : y + 1 = F + n
  ·rw [w]; exact tab_last v n F
  ·have hm := monS_bd v (y + 1)
   exact tab_at v n F (y + 1) 1 (by omega) (by omega) (by omega) (by omega)
 ·rw [if_neg z, show pl lp Cy F y m + 1 = pl lp Cy F y (m + 1) by unfold pl; omega]
  exact tab_at v n F y (m + 1) h1 h2 (by omega) (by omega)
theorem tab_has (v : VR nm E S SD M MD L LD Cy lp av) (n : Nat) : ∀ (F i : Int), 0 ≤ i → i + 1 < ((tab E S SD M MD L LD Cy lp av F n).length : Int) → ∃ y m, F ≤ y ∧ y < F + n ∧ 1 ≤ m ∧ m ≤ monS lp Cy y ∧ i = pl lp Cy F y m := by
 induction n with
 | zero =>
  intro F i h0 h1
  rw [tab_len v] at h1
  unfold pl at h1
  simp at h1
  omega
 | succ n ih =>
  intro F i h0 h1
  have hm := monS_bd v F
  have hb := befS_next v F
  by_cases c : i < monS lp Cy F
  ·exact ⟨F, i + 1, by omega, by omega, by omega, by omega, by unfold pl; omega⟩
  ·have h2 := tab_len v n (F + 1)
   rw [tab_succ, List.length_append, rowS_len] at h1
   obtain ⟨y, m, a, b, c1, d, e⟩ := ih (F + 1) (i - monS lp Cy F) (by omega) (by omega)
   exact ⟨y, m, by omega, by omega, c1, d, by unfold pl at e ⊢; omega⟩
theorem tab_gap (v : VR nm E S SD M MD L LD Cy lp av) (n : Nat) (F i : Int) (h0 : 0 ≤ i) (h1 : i + 1 < ((tab E S SD M MD L LD Cy lp av F n).length : Int)) :
  rd (tab E S SD M MD L LD Cy lp av F n) i + 26 ≤ rd (tab E S SD M MD L LD Cy lp av F n) (i + 1) ∧ rd (tab E S SD M MD L LD Cy lp av F n) (i + 1) ≤ rd (tab E S SD M MD L LD Cy lp av F n) i + 33 := by
 obtain ⟨y, m, a, b, c, d, e⟩ := tab_has v n F i h0 h1
 rw [e, tab_at v n F y m a b c d, tab_next v n F y m a b c d]
 exact gap_is v y m
theorem moL_len (n : Nat) : ∀ F, (moL lp Cy F n).length = n := by
 induction n with
 | zero => intro F; rfl
 | succ n ih => intro F; simp only [moL, List.length_cons, ih]
theorem rd_mo (n : Nat) : ∀ (F i : Int), 0 ≤ i → i < n → rd (moL lp Cy F n) i = monS lp Cy (F + i) := by
 induction n with
 | zero => intro F i h0 h1; omega
 | succ n ih =>
  intro F i h0 h1
  by_cases z : i = 0
  ·subst z
   simp only [moL, rd_zero, Int.add_zero]
  ·simp only [moL]
   rw [rd_next _ _ (by omega), ih (F + 1) (i - 1) (by omega) (by omega), show F + 1 + (i - 1) = F + i by omega]
end
section
variable {nm : ByteArray} {E S SD M MD L LD Cy : Int} {lp av : List Int}
theorem bef_up (v : VR nm E S SD M MD L LD Cy lp av) (n : Nat) : ∀ F, befS lp Cy (F + n) ≤ befS lp Cy F + 13 * n := by
 induction n with
 | zero => intro F; simp
 | succ n ih =>
  intro F
  have hm := monS_bd v F
  have hb := befS_next v F
  have := ih (F + 1)
  rw [show F + ((n + 1 : Nat) : Int) = F + 1 + (n : Int) by omega]
  omega
theorem tab_small (v : VR nm E S SD M MD L LD Cy lp av) (F : Int) (n : Nat) (hn : n ≤ 40) : ((tab E S SD M MD L LD Cy lp av F n).length : Int) ≤ 600 ∧ 1 ≤ ((tab E S SD M MD L LD Cy lp av F n).length : Int) := by
 have h1 := tab_len v n F
 have h2 := bef_up v n F
 have h3 := bef_le v n F
 unfold pl at h1
 omega
theorem pl_lt (v : VR nm E S SD M MD L LD Cy lp av) (F : Int) (n : Nat) (y m : Int) (h1 : F ≤ y) (h2 : y < F + n) (h3 : 1 ≤ m) (h4 : m ≤ monS lp Cy y) : 0 ≤ pl lp Cy F y m ∧ pl lp Cy F y m + 1 < ((tab E S SD M MD L LD Cy lp av F n).length : Int) := by
 have hl := tab_len v n F
 have hb := befS_next v y
 obtain ⟨a, ha⟩ : ∃ a : Nat, y = F + a := ⟨(y - F).toNat, by omega⟩
 obtain ⟨b, hb2⟩ : ∃ b : Nat, F + (n : Int) = y + 1 + b := ⟨(F + n - y - 1).toNat, by omega⟩
 have e1 := bef_le v a F
 have e2 := bef_le v b (y + 1)
 rw [← ha] at e1
 rw [← hb2] at e2
 rw [hl]
 unfold pl
 omega
theorem oc_months (v : VR nm E S SD M MD L LD Cy lp av) (F : Int) (n : Nat) (hn : n ≤ 40) (X : List Int) (hX : (X.length : Int) = pl lp Cy F (F + n) 1 + 1) (j : Nat) (d : Nat) : ∀ (x i : Int), 0 ≤ i → i + d = n → x = 1 + (befS lp Cy (F + i) - befS lp Cy F) →
  observed_Check.l0 (j + d + 1) x (moL lp Cy F n) (n : Int) i nm F (moL lp Cy F n) X = observed_Check.l1 j X (X.length : Int) 0 nm F (moL lp Cy F n) X := by
 induction d with
 | zero =>
  intro x i h0 h1 hx
  simp only [observed_Check.l0]
  rw [if_neg (by omega), if_pos]
  rw [hX, hx, show i = (n : Int) by omega]
  unfold pl
  omega
 | succ d ih =>
  intro x i h0 h1 hx
  obtain ⟨q, hq⟩ : ∃ q, q = j + d + 1 := ⟨_, rfl⟩
  rw [show j + (d + 1) + 1 = q + 1 by omega]
  have hm := monS_bd v (F + i)
  have hb := befS_next v (F + i)
  obtain ⟨i', rfl⟩ : ∃ i' : Nat, i = i' := ⟨i.toNat, by omega⟩
  have hu := bef_up v i' F
  have hl := bef_le v i' F
  simp only [observed_Check.l0]
  rw [if_pos (by omega), if_pos h0, if_pos (by rw [moL_len]; omega), rd_mo n F i' h0 (by omega), w64 (n := (i' : Int) + 1) (by omega) (by omega), w64 (n := x + monS lp Cy (F + i')) (by omega) (by omega), hq]
  have hrec := ih (x + monS lp Cy (F + i')) (i' + 1) (by omega) (by omega) (by rw [hx, show F + ((i' : Int) + 1) = F + i' + 1 by omega, hb]; omega)
  rcases hm with e | e
  ·rw [if_pos e]; exact hrec
  ·rw [if_neg (by omega), if_pos e]; exact hrec
theorem oc_starts (X : List Int) (hin : inL X) (hgap : ∀ i : Int, 0 ≤ i → i + 1 < X.length → rd X i + 26 ≤ rd X (i + 1) ∧ rd X (i + 1) ≤ rd X i + 33) (hl : (X.length : Int) ≤ 600) (F : Int) (mo : List Int) (d : Nat) : ∀ (k : Nat) (i : Int), 0 ≤ i → i + d = X.length → d + 1 < k →
  observed_Check.l1 k X (X.length : Int) i nm F mo X = some 0 := by
 induction d with
 | zero =>
  intro k i h0 h1 hk
  obtain ⟨k, rfl⟩ : ∃ j, k = j + 1 := ⟨k - 1, by omega⟩
  simp only [observed_Check.l1]
  rw [if_neg (by omega)]
 | succ d ih =>
  intro k i h0 h1 hk
  obtain ⟨k, rfl⟩ : ∃ j, k = j + 1 := ⟨k - 1, by omega⟩
  have hr := hin _ (rd_mem h0 (show i < X.length by omega))
  simp only [observed_Check.l1]
  rw [if_pos (by omega), if_pos h0, if_pos (by omega), check_ok _ hr.1 hr.2]
  simp only [Option.bind_some]
  rw [if_pos trivial, w64 (n := i + 1) (by omega) (by omega), ih k (i + 1) (by omega) (by omega) (by omega)]
  by_cases z : i > 0
  ·have g := hgap (i - 1) (by omega) (by omega)
   have hr2 := hin _ (rd_mem (show 0 ≤ i - 1 by omega) (show i - 1 < X.length by omega))
   rw [show i - 1 + 1 = i by omega] at g
   rw [if_pos z, w64 (n := i - 1) (by omega) (by omega), if_pos (by omega), if_pos (by omega), if_neg (by omega), w64 (n := rd X (i - 1) + 40) (by omega) (by omega), if_neg (by omega)]
  ·rw [if_neg z]
theorem OCheck_is (k : Nat) (v : VR nm E S SD M MD L LD Cy lp av) (F : Int) (n : Nat) (hF1 : -5000 ≤ F) (hF2 : F ≤ 5000) (n1 : 1 ≤ n) (n2 : n ≤ 40) (hin : inL (tab E S SD M MD L LD Cy lp av F n)) (hk : 1000 < k) :
  observed_Check.f k nm F (moL lp Cy F n) (tab E S SD M MD L LD Cy lp av F n) = some 0 := by
 obtain ⟨j, rfl⟩ : ∃ j, k = (j + n + 1) + 1 + 1 := ⟨k - n - 3, by omega⟩
 have hs := tab_small v F n n2
 unfold observed_Check.f rule_Name.f
 rw [v.name]
 simp only [Option.bind_some]
 rw [if_pos trivial, moL_len, if_neg (by omega), decide_eq_false (by omega)]
 simp only [observed_Check.j0]
 rw [if_neg (by decide), if_neg (by omega), moL_len, w64 (n := 10000 - (n : Int)) (by omega) (by omega), w64 (n := 10000 - (n : Int) + 1) (by omega) (by omega), decide_eq_false (by omega)]
 simp only [observed_Check.j1]
 rw [if_neg (by decide), moL_len, oc_months v F n n2 _ (tab_len v n F) j n 1 0 (by omega) (by omega) (by simp)]
 exact oc_starts _ hin (fun i a b => tab_gap v n F i a b) hs.1 F _ (tab E S SD M MD L LD Cy lp av F n).length j 0 (by omega) (by omega) (by omega)
theorem from_row (v : VR nm E S SD M MD L LD Cy lp av) (F : Int) (n : Nat) (hF1 : -5000 ≤ F) (hF2 : F ≤ 5000) (n2 : n ≤ 40) (hin : inL (tab E S SD M MD L LD Cy lp av F n)) (day y : Int) (hy1 : F ≤ y) (hy2 : y < F + n) (hd1 : -4000000 ≤ day) (hd2 : day ≤ 4000000) (mo : List Int) (j : Nat) (d : Nat) : ∀ m : Int, 1 ≤ m → m + d = monS lp Cy y + 1 → rd (tab E S SD M MD L LD Cy lp av F n) (pl lp Cy F y m) ≤ day →
  (∃ m', Holds E S SD M MD L LD Cy lp av y m' day ∧ observed_FromDay.l1 (j + d + 1) day (pl lp Cy F y m) (y - F) (monS lp Cy y) m mo (n : Int) (y - F) nm F mo (tab E S SD M MD L LD Cy lp av F n) = some (y, m', day - startS E S SD M MD L LD Cy lp av y m' + 1, 0)) ∨
  (rd (tab E S SD M MD L LD Cy lp av F n) (pl lp Cy F (y + 1) 1) ≤ day ∧ observed_FromDay.l1 (j + d + 1) day (pl lp Cy F y m) (y - F) (monS lp Cy y) m mo (n : Int) (y - F) nm F mo (tab E S SD M MD L LD Cy lp av F n) = observed_FromDay.l0 j day (pl lp Cy F (y + 1) 1) mo (n : Int) (y - F + 1) nm F mo (tab E S SD M MD L LD Cy lp av F n)) := by
 have hm := monS_bd v y
 have hb := befS_next v y
 have hs := tab_small v F n n2
 induction d with
 | zero =>
  intro m m1 md hi
  right
  have e : pl lp Cy F y m = pl lp Cy F (y + 1) 1 := by unfold pl; omega
  rw [e] at hi ⊢
  refine ⟨hi, ?_⟩
  simp only [observed_FromDay.l1]
  rw [if_neg (by omega), w64 (n := y - F + 1) (by omega) (by omega)]
 | succ d ih =>
  intro m m1 md hi
  obtain ⟨q, hq⟩ : ∃ q, q = j + d + 1 := ⟨_, rfl⟩
  rw [show j + (d + 1) + 1 = q + 1 by omega]
  obtain ⟨p0, p1⟩ := pl_lt v F n y m hy1 hy2 m1 (by omega)
  have hat := tab_at v n F y m hy1 hy2 m1 (by omega)
  have hnx := tab_next v n F y m hy1 hy2 m1 (by omega)
  have hr := hin _ (rd_mem p0 (show pl lp Cy F y m < _ by omega))
  simp only [observed_FromDay.l1]
  rw [if_pos (by omega), w64 (n := pl lp Cy F y m + 1) (by omega) (by omega), if_pos (by omega), if_pos p1]
  by_cases c : day < rd (tab E S SD M MD L LD Cy lp av F n) (pl lp Cy F y m + 1)
  ·left
   refine ⟨m, ⟨m1, by omega, by rw [← hat]; exact hi, by rw [← hnx]; exact c⟩, ?_⟩
   rw [if_pos c, if_pos p0, if_pos (by omega), w64 (n := F + (y - F)) (by omega) (by omega), w64 (n := day - rd _ (pl lp Cy F y m)) (by omega) (by omega), w64 (by omega) (by omega), hat, show F + (y - F) = y by omega]
  ·rw [if_neg c, w64 (n := m + 1) (by omega) (by omega), hq]
   have e : pl lp Cy F y m + 1 = pl lp Cy F y (m + 1) := by unfold pl; omega
   rw [e] at c ⊢
   exact ih (m + 1) (by omega) (by omega) (by omega)
theorem from_years (v : VR nm E S SD M MD L LD Cy lp av) (F : Int) (n : Nat) (hF1 : -5000 ≤ F) (hF2 : F ≤ 5000) (n2 : n ≤ 40) (hin : inL (tab E S SD M MD L LD Cy lp av F n)) (day : Int) (hd1 : -4000000 ≤ day) (hd2 : day ≤ 4000000) (hlast : day < rd (tab E S SD M MD L LD Cy lp av F n) (pl lp Cy F (F + n) 1)) (e : Nat) : ∀ (k : Nat) (y : Int), F ≤ y → y + e = F + n → 20 * e < k → rd (tab E S SD M MD L LD Cy lp av F n) (pl lp Cy F y 1) ≤ day →
  ∃ y' m', F ≤ y' ∧ y' < F + n ∧ Holds E S SD M MD L LD Cy lp av y' m' day ∧ observed_FromDay.l0 k day (pl lp Cy F y 1) (moL lp Cy F n) (n : Int) (y - F) nm F (moL lp Cy F n) (tab E S SD M MD L LD Cy lp av F n) = some (y', m', day - startS E S SD M MD L LD Cy lp av y' m' + 1, 0) := by
 induction e with
 | zero =>
  intro k y h1 h2 hk hi
  rw [show y = F + n by omega] at hi
  omega
 | succ e ih =>
  intro k y h1 h2 hk hi
  have hm := monS_bd v y
  obtain ⟨j, rfl⟩ : ∃ j, k = (j + (monS lp Cy y).toNat + 1) + 1 := ⟨k - (monS lp Cy y).toNat - 2, by omega⟩
  simp only [observed_FromDay.l0]
  rw [if_pos (by omega), if_pos (by omega), if_pos (by rw [moL_len]; omega), rd_mo n F (y - F) (by omega) (by omega), show F + (y - F) = y by omega]
  rcases from_row v F n hF1 hF2 n2 hin day y h1 (by omega) hd1 hd2 (moL lp Cy F n) j (monS lp Cy y).toNat 1 (by omega) (by omega) hi with ⟨m', a, b⟩ | ⟨a, b⟩
  ·exact ⟨y, m', h1, by omega, a, b⟩
  ·obtain ⟨y', m', c1, c2, c3, c4⟩ := ih j (y + 1) (by omega) (by omega) (by omega) a
   rw [show y + 1 - F = y - F + 1 by omega] at c4
   exact ⟨y', m', c1, c2, c3, b.trans c4⟩
theorem OFromDay_is (k : Nat) (v : VR nm E S SD M MD L LD Cy lp av) (F : Int) (n : Nat) (hF1 : -5000 ≤ F) (hF2 : F ≤ 5000) (n1 : 1 ≤ n) (n2 : n ≤ 40) (hin : inL (tab E S SD M MD L LD Cy lp av F n)) (hk : 2000 < k) (day : Int) (h1 : rd (tab E S SD M MD L LD Cy lp av F n) 0 ≤ day) (h2 : day < rd (tab E S SD M MD L LD Cy lp av F n) (((tab E S SD M MD L LD Cy lp av F n).length : Int) - 1)) :
  ∃ y' m', F ≤ y' ∧ y' < F + n ∧ Holds E S SD M MD L LD Cy lp av y' m' day ∧ observed_FromDay.f k nm F (moL lp Cy F n) (tab E S SD M MD L LD Cy lp av F n) day = some (y', m', day - startS E S SD M MD L LD Cy lp av y' m' + 1, 0) := by
 obtain ⟨k, rfl⟩ : ∃ j, k = j + 1 := ⟨k - 1, by omega⟩
 have hs := tab_small v F n n2
 have hl := tab_len v n F
 have hr0 := hin _ (rd_mem (l := tab E S SD M MD L LD Cy lp av F n) (i := 0) (by omega) (by omega))
 have hr1 := hin _ (rd_mem (l := tab E S SD M MD L LD Cy lp av F n) (i := ((tab E S SD M MD L LD Cy lp av F n).length : Int) - 1) (by omega) (by omega))
 have e0 : pl lp Cy F F 1 = 0 := by unfold pl; omega
 obtain ⟨y', m', c1, c2, c3, c4⟩ := from_years v F n hF1 hF2 n2 hin day (by omega) (by omega) (by rw [show pl lp Cy F (F + n) 1 = ((tab E S SD M MD L LD Cy lp av F n).length : Int) - 1 by omega]; exact h2) n k F (by omega) (by omega) (by omega) (by rw [e0]; exact h1)
 refine ⟨y', m', c1, c2, c3, ?_⟩
 unfold observed_FromDay.f
 rw [OCheck_is (k + 1) v F n hF1 hF2 n1 n2 hin (by omega)]
 simp only [Option.bind_some]
 rw [if_pos trivial, if_pos (by omega), if_neg (by omega), w64 (n := ((tab E S SD M MD L LD Cy lp av F n).length : Int) - 1) (by omega) (by omega), if_pos (by omega), if_pos (by omega), decide_eq_false (by omega)]
 simp only [observed_FromDay.j0]
 rw [if_neg (by decide), moL_len]
 rw [e0, show F - F = 0 by omega] at c4
 exact c4
end
theorem rd_take {l : List Int} {i : Int} {t : Nat} (h0 : 0 ≤ i) (h1 : i < t) : rd (l.take t) i = rd l i := by
 unfold rd
 rw [List.getD_eq_getElem?_getD, List.getD_eq_getElem?_getD, List.getElem?_take_of_lt (by omega)]
section
variable {nm : ByteArray} {E S SD M MD L LD Cy : Int} {lp av : List Int}
theorem OToDay_is (k : Nat) (v : VR nm E S SD M MD L LD Cy lp av) (F : Int) (n : Nat) (hF1 : -5000 ≤ F) (hF2 : F ≤ 5000) (n1 : 1 ≤ n) (n2 : n ≤ 40) (hin : inL (tab E S SD M MD L LD Cy lp av F n)) (hk : 2000 < k) (y m d : Int) (y1 : F ≤ y) (y2 : y < F + n) (m1 : 1 ≤ m) (m2 : m ≤ monS lp Cy y) (d1 : 1 ≤ d) (d2 : d ≤ nextS E S SD M MD L LD Cy lp av y m - startS E S SD M MD L LD Cy lp av y m) :
  observed_ToDay.f k nm F (moL lp Cy F n) (tab E S SD M MD L LD Cy lp av F n) y m d = some (startS E S SD M MD L LD Cy lp av y m + d - 1, 0) := by
 have hm := monS_bd v y
 have hs := tab_small v F n n2
 obtain ⟨p0, p1⟩ := pl_lt v F n y m y1 y2 m1 m2
 have hat := tab_at v n F y m y1 y2 m1 m2
 have hnx := tab_next v n F y m y1 y2 m1 m2
 have hr0 := hin _ (rd_mem p0 (show pl lp Cy F y m < _ by omega))
 have hr1 := hin _ (rd_mem (show 0 ≤ pl lp Cy F y m + 1 by omega) p1)
 obtain ⟨t, ht⟩ : ∃ t : Nat, y = F + t := ⟨(y - F).toNat, by omega⟩
 have hlen : ((moL lp Cy F n).take t).length = t := by rw [List.length_take, moL_len]; omega
 have loop : ∀ (e j : Nat) (at_ i : Int), 0 ≤ i → i + e = t → at_ = befS lp Cy (F + i) - befS lp Cy F →
   observed_ToDay.l0 (j + e + 2) at_ ((moL lp Cy F n).take t) (t : Int) i nm F (moL lp Cy F n) (tab E S SD M MD L LD Cy lp av F n) y m d = some (startS E S SD M MD L LD Cy lp av y m + d - 1, 0) := by
  intro e
  induction e with
  | zero =>
   intro j at_ i h0 h1 h2
   have ea : at_ + (m - 1) = pl lp Cy F y m := by rw [h2, show F + i = y by omega]; unfold pl; omega
   have hu := bef_up v t F
   have hl := bef_le v t F
   rw [← ht] at hu hl
   rw [show F + i = y by omega] at h2
   simp only [observed_ToDay.l0]
   rw [if_neg (by omega), if_neg (by omega), w64 (n := y - F) (by omega) (by omega), if_pos (by omega), if_pos (by rw [moL_len]; omega), rd_mo n F (y - F) (by omega) (by omega), show F + (y - F) = y by omega, decide_eq_false (by omega)]
   simp only [observed_ToDay.j2]
   rw [if_neg (by decide), if_neg (by omega), w64 (n := m - 1) (by omega) (by omega), ea, w64 (n := pl lp Cy F y m) (by omega) (by omega), w64 (n := pl lp Cy F y m + 1) (by omega) (by omega)]
   rw [if_pos (by omega), if_pos p1, if_pos p0, if_pos (by omega), hat, hnx] 
   rw [hat] at hr0
   rw [hnx] at hr1
   rw [w64 (n := nextS E S SD M MD L LD Cy lp av y m - startS E S SD M MD L LD Cy lp av y m) (by omega) (by omega), if_neg (by omega), w64 (n := startS E S SD M MD L LD Cy lp av y m + d) (by omega) (by omega), w64 (by omega) (by omega)]
  | succ e ih =>
   intro j at_ i h0 h1 h2
   obtain ⟨q, hq⟩ : ∃ q, q = j + e + 2 := ⟨_, rfl⟩
   rw [show j + (e + 1) + 2 = q + 1 by omega]
   have hmi := monS_bd v (F + i)
   have hbi := befS_next v (F + i)
   obtain ⟨i', rfl⟩ : ∃ i' : Nat, i = i' := ⟨i.toNat, by omega⟩
   have hu := bef_up v i' F
   have hl := bef_le v i' F
   simp only [observed_ToDay.l0]
   rw [if_pos (by omega), if_pos h0, if_pos (by rw [hlen]; omega), rd_take h0 (by omega), rd_mo n F i' h0 (by omega), w64 (n := (i' : Int) + 1) (by omega) (by omega), w64 (n := at_ + monS lp Cy (F + i')) (by omega) (by omega), hq]
   exact ih j _ _ (by omega) (by omega) (by rw [h2, show F + ((i' : Int) + 1) = F + i' + 1 by omega, hbi]; omega)
 obtain ⟨j, rfl⟩ : ∃ j, k = (j + t + 2) + 1 := ⟨k - t - 3, by omega⟩
 unfold observed_ToDay.f
 rw [OCheck_is _ v F n hF1 hF2 n1 n2 hin (by omega)]
 simp only [Option.bind_some]
 rw [if_pos trivial, if_neg (by omega), moL_len, w64 (n := F + (n : Int)) (by omega) (by omega), w64 (n := F + (n : Int) - 1) (by omega) (by omega), decide_eq_false (by omega)]
 simp only [observed_ToDay.j0]
 rw [if_neg (by decide), w64 (n := y - F) (by omega) (by omega), if_pos (by omega), if_pos (by rw [moL_len]; omega), show (y - F).toNat = t by omega, hlen]
 exact loop t j 0 0 (by omega) (by omega) (by simp)
end
theorem tab_eq (E S SD M MD L LD Cy : Int) (lp av : List Int) (F : Int) (n : Nat) : stL E S SD M MD L LD Cy lp av F n ++ [startS E S SD M MD L LD Cy lp av (F + n) 1] = tab E S SD M MD L LD Cy lp av F n := rfl
theorem plain_ok : VR (⟨#[112, 108, 97, 105, 110]⟩ : ByteArray) 1 0 1 59 2 1 1 1 [] [] := by
 refine ⟨by decide +kernel, by omega, ⟨by omega, by omega, by omega, by omega, by decide⟩, ⟨by omega, by omega, by omega, by omega, by decide⟩, ⟨by omega, by omega, by omega, by omega, by decide⟩, by omega, by omega, by omega, by decide, by omega, ⟨fun i a b => by simp at b; omega, fun i a b => by simp at b; omega⟩, by decide, ⟨fun i a b => by simp at b; omega, fun i a b => by simp at b; omega⟩⟩
theorem plain_tab : tab 1 0 1 59 2 1 1 1 [] [] 1 1 = [1, 30, 60, 89, 119, 148, 178, 207, 237, 266, 296, 325, 355] := by decide +kernel
theorem plain_first (k : Nat) (hk : 4000000000 < k) : observed_Of.f k (⟨#[112, 108, 97, 105, 110]⟩ : ByteArray) 1 0 1 59 2 1 1 1 [] [] 1 1 = some ((⟨#[112, 108, 97, 105, 110]⟩ : ByteArray), 1, moL [] 1 1 1, tab 1 0 1 59 2 1 1 1 [] [] 1 1, 0) ∧
  observed_FromDay.f k (⟨#[112, 108, 97, 105, 110]⟩ : ByteArray) 1 (moL [] 1 1 1) (tab 1 0 1 59 2 1 1 1 [] [] 1 1) 31 = some (1, 2, 2, 0) := by
 have hin : inL (tab 1 0 1 59 2 1 1 1 [] [] 1 1) := by rw [plain_tab]; unfold inL; decide
 obtain ⟨t, ht, hz, hz2⟩ := Of_is k plain_ok 1 1 (by omega) (by omega) (by omega) (by omega) (by omega)
 have e : t.2.2.2.2 = 0 := by
  by_cases c : t.2.2.2.2 = 0
  ·exact c
  ·exact absurd hin (hz2 c)
 refine ⟨by rw [show (1 : Int) = ((1 : Nat) : Int) from rfl] at *; rw [ht, (hz e).1]; rfl, ?_⟩
 obtain ⟨y, m, c1, c2, c3, c4⟩ := OFromDay_is k plain_ok 1 1 (by omega) (by omega) (by omega) (by omega) hin (by omega) 31 (by rw [plain_tab]; decide) (by rw [plain_tab]; decide)
 obtain rfl : y = 1 := by omega
 have h2 : Holds 1 0 1 59 2 1 1 1 [] [] 1 2 31 := ⟨by omega, by decide +kernel, by decide +kernel, by decide +kernel⟩
 have h3 : Holds 1 0 1 59 2 1 1 1 [] [] 1 m (31 + 0) := c3
 obtain ⟨_, rfl⟩ | ⟨z, _⟩ := holds_next plain_ok h2 (.inl rfl) h3
 ·rw [c4, show startS 1 0 1 59 2 1 1 1 [] [] 1 2 = 30 by decide +kernel]
  rfl
 ·exact absurd z (by decide)
theorem ObservedSame : ephemeriskeep1_ObservedSame.Pure := by
 intro nm E S SD M MD L LD Cy lp av a1 a2 hnm hE hS hSD hM hMD hL hLD hCy hlp hav h1 h2
 obtain ⟨k, hk⟩ : ∃ k : Nat, 4000000000 + 2 * lp.length + 2 * av.length < k := ⟨_, Nat.lt_succ_self _⟩
 refine ⟨k, ?_⟩
 have wS := lit64 hS
 have wM := lit64 hM
 have wL := lit64 hL
 obtain ⟨q1, q2⟩ := plain_first k (by omega)
 obtain ⟨F, hF, f1, f2, _⟩ := cut_is a1 (-2000) 4000 (by omega) (by omega) (by omega) (by omega)
 unfold ephemeriskeep1_ObservedSame.f
 rw [q1]
 simp only [Option.bind_some]
 rw [if_pos trivial, q2]
 simp only [Option.bind_some]
 rw [if_pos trivial, hF]
 simp only [Option.bind_some]
 rcases lcheck_is (nm := nm) (E := E) (SD := SD) (MD := MD) (LD := LD) (Cy := Cy) (lp := lp) (av := av) k wS wM wL (by omega) (by omega) (by omega) with ⟨v, _⟩ | ⟨_, c, hc, he⟩
 rotate_left
 ·have : observed_Of.f k nm E S SD M MD L LD Cy lp av F 3 = some (⟨#[]⟩, 0, [], [], c) := by
   unfold observed_Of.f
   rw [he]
   simp only [Option.bind_some]
   rw [if_neg hc]
  rw [this]
  simp only [Option.bind_some]
  rw [if_neg hc]
 obtain ⟨u, hu, hz, _⟩ := Of_is k v F 3 (by omega) (by omega) (by omega) (by omega) (by omega)
 rw [show (3 : Int) = ((3 : Nat) : Int) from rfl, hu]
 simp only [Option.bind_some]
 by_cases c : u.2.2.2.2 = 0
 rotate_left
 ·rw [if_neg c]
 obtain ⟨rfl, hin⟩ := hz c
 clear hz c hu
 rw [if_pos rfl]
 dsimp only
 rw [tab_eq] at hin ⊢
 have hs := tab_small v F 3 (by omega)
 have hl := tab_len v 3 F
 have hlast := tab_last v 3 F
 have hfirst := tab_at v 3 F F 1 (by omega) (by omega) (by omega) (by have := monS_bd v F; omega)
 have hfar := ys_far v 3 F
 rw [show pl lp Cy F (F + ((3 : Nat) : Int)) 1 = ((tab E S SD M MD L LD Cy lp av F 3).length : Int) - 1 by omega] at hlast
 rw [show pl lp Cy F F 1 = 0 by unfold pl; omega] at hfirst
 have hr0 := hin _ (rd_mem (l := tab E S SD M MD L LD Cy lp av F 3) (i := 0) (by omega) (by omega))
 have hr1 := hin _ (rd_mem (l := tab E S SD M MD L LD Cy lp av F 3) (i := ((tab E S SD M MD L LD Cy lp av F 3).length : Int) - 1) (by omega) (by omega))
 generalize hX : tab E S SD M MD L LD Cy lp av F 3 = X at *
 rw [if_pos (by omega), w64 (n := (X.length : Int) - 1) (by omega) (by omega), w64 (n := rd X ((X.length : Int) - 1) - rd X 0) (by omega) (by omega)]
 obtain ⟨day, hday, y1, y2, _⟩ := cut_is a2 (rd X 0) (rd X ((X.length : Int) - 1) - rd X 0) (by omega) (by omega) (by omega) (by omega)
 rw [hday]
 simp only [Option.bind_some]
 subst hX
 obtain ⟨y, m, c1, c2, c3, c4⟩ := OFromDay_is k v F 3 (by omega) (by omega) (by omega) (by omega) hin (by omega) day y1 (by omega)
 rw [c4]
 simp only [Option.bind_some]
 have g1 := monoY v (-9999) F (by omega)
 have g2 := monoY v (F + ((3 : Nat) : Int)) 10000 (by omega)
 rcases FromDay_is k v day (by omega) (by omega) (by omega) with ⟨z, _⟩ | ⟨y', m', _, _, d4, d3⟩
 ·omega
 rw [d4]
 simp only [Option.bind_some]
 have h3 : Holds E S SD M MD L LD Cy lp av y' m' (day + 0) := by rw [Int.add_zero]; exact d3
 obtain ⟨rfl, rfl⟩ | ⟨z, _⟩ := holds_next v c3 (.inl rfl) h3
 rotate_left
 ·exact absurd z (by decide)
 rw [if_pos ⟨trivial, rfl⟩]
 have hd := c3.lo
 have hn := c3.hi
 rw [OToDay_is k v F 3 (by omega) (by omega) (by omega) (by omega) hin (by omega) y' m' (day - startS E S SD M MD L LD Cy lp av y' m' + 1) c1 c2 c3.m1 c3.m2 (by omega) (by omega)]
 simp only [Option.bind_some]
 rw [if_pos]
 exact Prod.ext (show startS E S SD M MD L LD Cy lp av y' m' + (day - startS E S SD M MD L LD Cy lp av y' m' + 1) - 1 = day by omega) rfl
end Go.Proofs.Ytidjaahpabppaaa.Pure
