import Derived.Test.YtboddbgmgcjppaaPWholeBezoutx2
namespace Go.Proofs.Ytboddbgmgcjppaa.Pure
open Go.RowKit Go.Proofs.Ytboddbgmgcjppaa.PWholeBezout Go.Proofs.YtboddbgmgcjppaaW.PrintWords Go.Proofs.YtboddbgmgcjppaaW.PrintLast

theorem lit64 {a : Int} (h : (Go.Lit.int .i64 a).wf = true) : -9223372036854775808 ≤ a ∧ a ≤ 9223372036854775807 := by
  simp only [Go.Lit.wf, Bool.and_eq_true, decide_eq_true_eq] at h
  have h1 : Go.IntKind.i64.min = -9223372036854775808 := by decide
  have h2 : Go.IntKind.i64.max = 9223372036854775807 := by decide
  omega
theorem w64 {n : Int} (h1 : -9223372036854775808 ≤ n) (h2 : n ≤ 9223372036854775807) : wrap64 n = n := by unfold wrap64; omega
theorem w64r (n : Int) : -9223372036854775808 ≤ wrap64 n ∧ wrap64 n ≤ 9223372036854775807 := by unfold wrap64; omega
theorem tmod_pos {a b : Int} (ha : 0 ≤ a) : Int.tmod a b = a % b := by rw [Int.tmod_eq_emod, if_pos (Or.inl ha)]; simp
theorem tdiv_pos {a b : Int} (ha : 0 ≤ a) : Int.tdiv a b = a / b := by rw [Int.tdiv_eq_ediv, if_pos (Or.inl ha)]; simp
theorem tmod_bounds {a b : Int} (hb : 0 < b) : -b < Int.tmod a b ∧ Int.tmod a b < b ∧ (0 ≤ a → 0 ≤ Int.tmod a b) ∧ (a ≤ 0 → Int.tmod a b ≤ 0) := by
  rw [Int.tmod_eq_emod]
  have h1 := Int.emod_nonneg a (show b ≠ 0 by omega)
  have h2 := Int.emod_lt_of_pos a hb
  split
  · rename_i h
    refine ⟨by omega, by omega, fun _ => by omega, fun h0 => ?_⟩
    rcases h with h | h
    · have : a = 0 := by omega
      subst this; simp
    · rw [Int.emod_eq_zero_of_dvd h]; simp
  · refine ⟨by omega, by omega, fun _ => by omega, fun _ => by omega⟩
/-- tmod and tdiv against emod and ediv, for a positive divisor. -/
theorem tmod_cases {a b : Int} (hb : 0 < b) : (Int.tmod a b = a % b ∧ Int.tdiv a b = a / b ∧ (0 ≤ a ∨ a % b = 0)) ∨ (a < 0 ∧ a % b ≠ 0 ∧ Int.tmod a b = a % b - b ∧ Int.tdiv a b = a / b + 1) := by
  by_cases h : 0 ≤ a ∨ b ∣ a
  · left
    refine ⟨by rw [Int.tmod_eq_emod, if_pos h]; simp, by rw [Int.tdiv_eq_ediv, if_pos h]; simp, h.imp id Int.emod_eq_zero_of_dvd⟩
  · right
    have h' := not_or.mp h
    refine ⟨by omega, fun e => h'.2 (Int.dvd_of_emod_eq_zero e), ?_, ?_⟩
    · rw [Int.tmod_eq_emod, if_neg h]; omega
    · rw [Int.tdiv_eq_ediv, if_neg h, Int.sign_eq_one_of_pos hb]
theorem ediv_range {a b : Int} (hb : 0 < b) (h1 : -9223372036854775808 ≤ a) (h2 : a ≤ 9223372036854775807) : -9223372036854775808 ≤ a / b ∧ a / b ≤ 9223372036854775807 := by
  have e := Int.mul_ediv_add_emod a b
  have l := Int.emod_nonneg a (show b ≠ 0 by omega)
  have u := Int.emod_lt_of_pos a hb
  constructor
  · by_cases c : 0 ≤ a
    · have := Int.ediv_nonneg c (show 0 ≤ b by omega); omega
    · have : a ≤ a / b := by
        rw [Int.le_ediv_iff_mul_le hb]
        have : a * b ≤ a * 1 := Int.mul_le_mul_of_nonpos_left (by omega) (by omega)
        omega
      omega
  · by_cases c : 0 ≤ a
    · have : a / b ≤ a := Int.ediv_le_self b c
      omega
    · have : a / b ≤ 0 := by
        have : a / b < 0 := Int.ediv_neg_of_neg_of_pos (by omega) hb
        omega
      omega
/-- the remainder from 0 on, as the program computes it twice. -/
theorem mod_twice {a b : Int} (hb : 0 < b) (hb2 : b ≤ 4611686018427387904) : Int.tmod (wrap64 ((Int.tmod a b) + b)) b = a % b := by
  have hc := tmod_bounds (a := a) hb
  have h1 := Int.emod_nonneg a (show b ≠ 0 by omega)
  have h2 := Int.emod_lt_of_pos a hb
  rw [w64 (by omega) (by omega)]
  rw [tmod_pos (by omega)]
  rcases tmod_cases (a := a) hb with ⟨e, _, _⟩ | ⟨_, _, e, _⟩
  · rw [e]; simp
  · rw [e, show a % b - b + b = a % b from by omega]; simp

theorem mod_is (a b : Int) (hb : 0 < b) (hb2 : b ≤ 4611686018427387904) : ephemeriskeep1_mod.f a b = some (a % b) := by
  unfold ephemeriskeep1_mod.f
  rw [if_neg (by omega), mod_twice hb hb2]
theorem cut_is (a l n : Int) (hn : 0 < n) (hn2 : n ≤ 4611686018427387904) (h1 : -4611686018427387904 ≤ l) (h2 : l ≤ 4611686018427387904) :
    ∃ r, ephemeriskeep1_cut.f a l n = some r ∧ l ≤ r ∧ r < l + n ∧ r = l + a % n := by
  have h3 := Int.emod_nonneg a (show n ≠ 0 by omega)
  have h4 := Int.emod_lt_of_pos a hn
  refine ⟨l + a % n, ?_, by omega, by omega, rfl⟩
  unfold ephemeriskeep1_cut.f
  rw [mod_is a n hn hn2, Option.bind_some, w64 (by omega) (by omega)]

theorem wmod_is (a b : Int) (hb : 0 < b) (hb2 : b ≤ 4611686018427387904) : whole_Mod.f a b = some (a % b) := by
  have hc := tmod_bounds (a := a) hb
  have h1 := Int.emod_nonneg a (show b ≠ 0 by omega)
  have h2 := Int.emod_lt_of_pos a hb
  unfold whole_Mod.f
  rw [if_neg (by omega)]
  rcases tmod_cases (a := a) hb with ⟨e, _, c⟩ | ⟨c, c', e, _⟩
  · rw [e, if_neg (by omega)]
  · rw [e, if_pos (by omega), w64 (by omega) (by omega)]
    congr 1; omega

theorem u64_small {a : Int} (h1 : 0 ≤ a) (h2 : a ≤ 9223372036854775807) : Go.IntKind.u64.wrap a = a := by
  rw [show Go.IntKind.u64.wrap a = a % 18446744073709551616 from by simp [Go.IntKind.wrap, Go.IntKind.signed, Go.IntKind.bits]]
  omega
theorem size_is (a : Int) (h1 : 0 ≤ a) (h2 : a ≤ 9223372036854775807) : whole_size.f a = some a := by
  unfold whole_size.f
  rw [if_neg (by omega), u64_small h1 h2]
theorem gcd_step (x y : Int) (hx : 0 ≤ x) (hy : 0 < y) : Int.gcd y (x % y) = Int.gcd x y := by
  obtain ⟨m, rfl⟩ := Int.eq_ofNat_of_zero_le hx
  obtain ⟨n, rfl⟩ := Int.eq_ofNat_of_zero_le (show 0 ≤ y by omega)
  rw [← Int.natCast_emod]
  simp only [Int.gcd_natCast_natCast]
  rw [Nat.gcd_comm m n, Nat.gcd_comm n (m % n), ← Nat.gcd_rec]
theorem gcd_loop (d : Nat) : ∀ (k : Nat) (x y : Int), 0 ≤ x → x ≤ 9223372036854775807 → 0 ≤ y → y ≤ 9223372036854775807 → y ≤ d → d < k → whole_Gcd.l0 k x y = some ((Int.gcd x y : Int), 0) := by
  have fin : ∀ (k : Nat) (x : Int), 0 ≤ x → x ≤ 9223372036854775807 → whole_Gcd.l0 (k + 1) x 0 = some ((Int.gcd x 0 : Int), 0) := by
    intro k x h0 h1
    simp only [whole_Gcd.l0]
    rw [if_pos trivial, if_neg (by omega), w64 (by omega) h1]
    congr 2
    simp [Int.gcd]; omega
  induction d with
  | zero =>
    intro k x y h0 h1 h2 h4 h3 hk
    obtain ⟨k, rfl⟩ : ∃ m, k = m + 1 := ⟨k - 1, by omega⟩
    obtain rfl : y = 0 := by omega
    exact fin k x h0 h1
  | succ d ih =>
    intro k x y h0 h1 h2 h4 h3 hk
    obtain ⟨k, rfl⟩ : ∃ m, k = m + 1 := ⟨k - 1, by omega⟩
    by_cases z : y = 0
    · subst z
      exact fin k x h0 h1
    · have l := Int.emod_nonneg x z
      have u := Int.emod_lt_of_pos x (show 0 < y by omega)
      simp only [whole_Gcd.l0]
      rw [if_neg z, tmod_pos h0, ih k y (x % y) h2 h4 l (by omega) (by omega) (by omega), gcd_step x y h0 (by omega)]

theorem size_any (a : Int) (h1 : -9223372036854775807 ≤ a) (h2 : a ≤ 9223372036854775807) : whole_size.f a = some (a.natAbs : Int) := by
  unfold whole_size.f
  have e : ∀ x : Int, Go.IntKind.u64.wrap x = x % 18446744073709551616 := fun x => by simp [Go.IntKind.wrap, Go.IntKind.signed, Go.IntKind.bits]
  rw [e, e]
  by_cases c : a < 0
  · rw [if_pos c]; congr 1; omega
  · rw [if_neg c]; congr 1; omega
theorem wgcd_is (k : Nat) (a b : Int) (ha1 : -9223372036854775807 ≤ a) (ha2 : a ≤ 9223372036854775807) (hb1 : -9223372036854775807 ≤ b) (hb2 : b ≤ 9223372036854775807) (hk : b.natAbs < k) :
    whole_Gcd.f k a b = some ((Int.gcd a b : Int), 0) := by
  unfold whole_Gcd.f
  rw [size_any a ha1 ha2, Option.bind_some, size_any b hb1 hb2, Option.bind_some, gcd_loop b.natAbs k _ _ (by omega) (by omega) (by omega) (by omega) (by omega) hk]
  simp [Int.gcd]

/-- The loop's invariant: g = a s and h = a t, up to multiples of m, and the sizes of s and t. -/
structure ExtInv (a m g h s t : Int) : Prop where
  g0 : 0 ≤ g
  h0 : 0 ≤ h
  g1 : g ≤ m
  h1 : h ≤ m
  cs : m ∣ a * s - g
  ct : m ∣ a * t - h
  size : (0 ≤ s ∧ t ≤ 0 ∧ (-t) * g + s * h = m) ∨ (s ≤ 0 ∧ 0 ≤ t ∧ t * g + (-s) * h = m)
theorem mul_le_self_pos {x y m : Int} (hx : 0 ≤ x) (hy : 1 ≤ y) (h : x * y ≤ m) : x ≤ m := by
  have : x * 1 ≤ x * y := Int.mul_le_mul_of_nonneg_left hy hx
  omega
theorem ext_next {a m g h s t : Int} (I : ExtInv a m g h s t) (hp : 0 < h) : ExtInv a m h (g - g / h * h) t (s - g / h * t) := by
  obtain ⟨g0, h0, g1, h1, cs, ct, size⟩ := I
  have e : g - g / h * h = g % h := by have := Int.mul_ediv_add_emod g h; rw [Int.mul_comm] at this; omega
  have l := Int.emod_nonneg g (show h ≠ 0 by omega)
  have u := Int.emod_lt_of_pos g hp
  have q0 : 0 ≤ g / h := Int.ediv_nonneg g0 h0
  refine ⟨h0, by omega, h1, by omega, ct, ?_, ?_⟩
  · have : a * (s - g / h * t) - (g - g / h * h) = (a * s - g) - (g / h) * (a * t - h) := by
      simp only [Int.mul_sub]
      rw [show a * (g / h * t) = g / h * (a * t) from by rw [← Int.mul_assoc, Int.mul_comm a (g / h), Int.mul_assoc]]
      omega
    rw [this]
    exact Int.dvd_sub cs (Int.dvd_mul_of_dvd_right ct)
  · rcases size with ⟨s0, t0, e1⟩ | ⟨s0, t0, e1⟩
    · right
      have hq : g / h * t ≤ 0 := Int.mul_nonpos_of_nonneg_of_nonpos q0 t0
      refine ⟨t0, by omega, ?_⟩
      have : (s - g / h * t) * h + -t * (g - g / h * h) = -t * g + s * h := by
        simp only [Int.mul_sub, Int.sub_mul, Int.neg_mul]
        rw [show t * (g / h * h) = g / h * t * h from by rw [← Int.mul_assoc, Int.mul_comm t (g / h)]]
        omega
      omega
    · left
      have hq : 0 ≤ g / h * t := Int.mul_nonneg q0 t0
      refine ⟨t0, by omega, ?_⟩
      have : -(s - g / h * t) * h + t * (g - g / h * h) = t * g + -s * h := by
        simp only [Int.mul_sub, Int.sub_mul, Int.neg_mul, Int.neg_sub]
        rw [show t * (g / h * h) = g / h * t * h from by rw [← Int.mul_assoc, Int.mul_comm t (g / h)]]
        omega
      omega
theorem ext_sizes {a m g h s t : Int} (I : ExtInv a m g h s t) (hp : 0 < h) (hg : 0 < g ∨ -m ≤ t ∧ t ≤ m) : -m ≤ s ∧ s ≤ m ∧ -m ≤ t ∧ t ≤ m := by
  obtain ⟨g0, h0, g1, h1, cs, ct, size⟩ := I
  rcases size with ⟨s0, t0, e1⟩ | ⟨s0, t0, e1⟩
  · have a1 : 0 ≤ (-t) * g := Int.mul_nonneg (by omega) g0
    have a2 : 0 ≤ s * h := Int.mul_nonneg s0 h0
    have b1 := mul_le_self_pos s0 (show 1 ≤ h by omega) (show s * h ≤ m by omega)
    have b2 : -t ≤ m := by
      rcases hg with hg | hg
      · exact mul_le_self_pos (by omega) (show 1 ≤ g by omega) (show (-t) * g ≤ m by omega)
      · omega
    omega
  · have a1 : 0 ≤ t * g := Int.mul_nonneg (by omega) g0
    have a2 : 0 ≤ (-s) * h := Int.mul_nonneg (by omega) h0
    have b1 := mul_le_self_pos (show 0 ≤ -s by omega) (show 1 ≤ h by omega) (show (-s) * h ≤ m by omega)
    have b2 : t ≤ m := by
      rcases hg with hg | hg
      · exact mul_le_self_pos (by omega) (show 1 ≤ g by omega) (show t * g ≤ m by omega)
      · omega
    omega
theorem ext_loop (a m : Int) (hm : m ≤ 2147483647) (d : Nat) : ∀ (k : Nat) (g h s t : Int), ExtInv a m g h s t → (-m ≤ s ∧ s ≤ m ∧ -m ≤ t ∧ t ≤ m) → h ≤ d → d < k →
    ∃ s', whole_extended.l0 k g h s t = some ((Int.gcd g h : Int), s') ∧ m ∣ a * s' - (Int.gcd g h : Int) ∧ -m ≤ s' ∧ s' ≤ m := by
  induction d with
  | zero =>
    intro k g h s t I sz hd hk
    obtain ⟨k, rfl⟩ : ∃ m, k = m + 1 := ⟨k - 1, by omega⟩
    have hh := I.h0
    obtain rfl : h = 0 := by omega
    have e : (Int.gcd g 0 : Int) = g := by have := I.g0; simp [Int.gcd]; omega
    refine ⟨s, ?_, ?_, sz.1, sz.2.1⟩
    · simp only [whole_extended.l0]; rw [if_pos trivial, e]
    · rw [e]; exact I.cs
  | succ d ih =>
    intro k g h s t I sz hd hk
    obtain ⟨k, rfl⟩ : ∃ m, k = m + 1 := ⟨k - 1, by omega⟩
    have hh := I.h0
    by_cases z : h = 0
    · subst z
      have e : (Int.gcd g 0 : Int) = g := by have := I.g0; simp [Int.gcd]; omega
      refine ⟨s, ?_, ?_, sz.1, sz.2.1⟩
      · simp only [whole_extended.l0]; rw [if_pos trivial, e]
      · rw [e]; exact I.cs
    · have hp : 0 < h := by omega
      have I2 := ext_next I hp
      have l := Int.emod_nonneg g z
      have u := Int.emod_lt_of_pos g hp
      have g0 := I.g0
      have g1 := I.g1
      have hm1 := I.h1
      have e : g - g / h * h = g % h := by have := Int.mul_ediv_add_emod g h; rw [Int.mul_comm] at this; omega
      have q0 : 0 ≤ g / h := Int.ediv_nonneg g0 hh
      have q1 : g / h ≤ g := Int.ediv_le_self h g0
      have sz2 : -m ≤ t ∧ t ≤ m ∧ -m ≤ s - g / h * t ∧ s - g / h * t ≤ m := by
        obtain ⟨_, _, _, _, _, _, size⟩ := I2
        rcases size with ⟨s0, t0, e1⟩ | ⟨s0, t0, e1⟩
        · have a1 : 0 ≤ -(s - g / h * t) * h := Int.mul_nonneg (by omega) hh
          have a2 : 0 ≤ t * (g - g / h * h) := Int.mul_nonneg s0 (by omega)
          have := mul_le_self_pos (show 0 ≤ -(s - g / h * t) by omega) (show 1 ≤ h by omega) (show -(s - g / h * t) * h ≤ m by omega)
          omega
        · have a1 : 0 ≤ (s - g / h * t) * h := Int.mul_nonneg t0 hh
          have a2 : 0 ≤ (-t) * (g - g / h * h) := Int.mul_nonneg (by omega) (by omega)
          have := mul_le_self_pos t0 (show 1 ≤ h by omega) (show (s - g / h * t) * h ≤ m by omega)
          omega
      obtain ⟨s', r1, r2, r3, r4⟩ := ih k h (g - g / h * h) t (s - g / h * t) I2 sz2 (by omega) (by omega)
      have eg : Int.gcd h (g - g / h * h) = Int.gcd g h := by rw [e]; exact gcd_step g h g0 hp
      refine ⟨s', ?_, by rw [← eg]; exact r2, r3, r4⟩
      have qh : g / h * h = g - g % h := by omega
      simp only [whole_extended.l0]
      rw [if_neg z, tdiv_pos g0, w64 (n := g / h) (by omega) (by omega), w64 (n := g / h * h) (by omega) (by omega), w64 (n := g - g / h * h) (by omega) (by omega), w64 (n := g / h * t) (by omega) (by omega), w64 (n := s - g / h * t) (by omega) (by omega), r1, eg]
/-- extended: the greatest common divisor, and s with a s equal to it up to multiples of m. -/
theorem ext_is (k : Nat) (a m : Int) (ha : 0 ≤ a) (ham : a < m) (hm : m ≤ 2147483647) (hk : m < k) :
    ∃ s, whole_extended.f k a m = some ((Int.gcd a m : Int), s) ∧ m ∣ a * s - (Int.gcd a m : Int) ∧ -m ≤ s ∧ s ≤ m := by
  unfold whole_extended.f
  refine ext_loop a m hm m.toNat k a m 1 0 ⟨ha, by omega, by omega, by omega, ⟨0, by omega⟩, ⟨-1, by omega⟩, Or.inl ⟨by omega, by omega, by omega⟩⟩ ⟨by omega, by omega, by omega, by omega⟩ (by omega) (by omega)

theorem within2 (k : Nat) (x y : Int) (h1 : -2147483647 ≤ x) (h2 : x ≤ 2147483647) (h3 : -2147483647 ≤ y) (h4 : y ≤ 2147483647) : whole_within.f (k + 3) [x, y] = some true := by
  have r0 : rd [x, y] 0 = x := rfl
  have r1 : rd [x, y] 1 = y := rfl
  have l : (([x, y] : List Int).length : Int) = 2 := rfl
  unfold whole_within.f
  rw [l]
  simp only [whole_within.l0]
  rw [if_pos (by omega), if_pos (by omega), l, if_pos (by omega), r0, if_neg (by omega), if_neg (by omega), w64 (n := 0 + 1) (by omega) (by omega), if_pos (by omega), if_pos (by omega), if_pos (by omega)]
  rw [show (0 : Int) + 1 = 1 from rfl, r1, if_neg (by omega), if_neg (by omega), if_neg (by rw [w64 (by omega) (by omega)]; omega)]

theorem gcd_mod (a m : Int) : Int.gcd (a % m) m = Int.gcd a m := by
  rw [Int.gcd_comm (a % m) m, Int.gcd_comm a m]
  have e : a % m = a - m * (a / m) := by have := Int.mul_ediv_add_emod a m; omega
  rw [e]
  apply Nat.dvd_antisymm
  · refine Int.dvd_gcd (Int.gcd_dvd_left ..) ?_
    have h1 := Int.gcd_dvd_right m (a - m * (a / m))
    have h2 : ((Int.gcd m (a - m * (a / m)) : Nat) : Int) ∣ m * (a / m) := Int.dvd_mul_of_dvd_left (Int.gcd_dvd_left ..)
    have := Int.dvd_add h1 h2
    rwa [show a - m * (a / m) + m * (a / m) = a from by omega] at this
  · refine Int.dvd_gcd (Int.gcd_dvd_left ..) (Int.dvd_sub (Int.gcd_dvd_right ..) (Int.dvd_mul_of_dvd_left (Int.gcd_dvd_left ..)))
theorem solve_is (k : Nat) (a m : Int) (ha1 : -100000 ≤ a) (ha2 : a ≤ 100000) (hm1 : 1 ≤ m) (hm2 : m ≤ 100000) (hk : 100001 < k) :
    ∃ x, whole_Solve.f k a (Int.gcd a m : Int) m = some (x, 0) ∧ m ∣ a * x - (Int.gcd a m : Int) ∧ 0 ≤ x ∧ x < m := by
  obtain ⟨k, rfl⟩ : ∃ q, k = q + 1 := ⟨k - 1, by omega⟩
  have l := Int.emod_nonneg a (show m ≠ 0 by omega)
  have u := Int.emod_lt_of_pos a (show 0 < m by omega)
  obtain ⟨s, e1, e2, e3, e4⟩ := ext_is k (a % m) m l u (by omega) (by omega)
  rw [gcd_mod a m] at e1 e2
  generalize hg : (Int.gcd a m : Int) = g at *
  have gd1 : g ∣ a := by rw [← hg]; exact Int.gcd_dvd_left ..
  have gd2 : g ∣ m := by rw [← hg]; exact Int.gcd_dvd_right ..
  have g0 : 0 < g := by
    have : 0 ≤ g := by omega
    by_cases z : g = 0
    · rw [z] at gd2; have := Int.zero_dvd.mp gd2; omega
    · omega
  have gm : g ≤ m := Int.le_of_dvd (by omega) gd2
  have n1 : g * (m / g) = m := Int.mul_ediv_cancel' gd2
  have n0 : 0 < m / g := by
    by_cases c : 0 < m / g
    · exact c
    · exfalso
      have : g * (m / g) ≤ 0 := Int.mul_nonpos_of_nonneg_of_nonpos (by omega) (by omega)
      omega
  have nm : m / g ≤ m := Int.ediv_le_self g (by omega)
  have gg : g / g = 1 := Int.ediv_self (by omega)
  have x0 := Int.emod_nonneg s (show m / g ≠ 0 by omega)
  have x1 := Int.emod_lt_of_pos s n0
  have y0 := Int.emod_nonneg (1 : Int) (show m / g ≠ 0 by omega)
  have y1 : (1 : Int) % (m / g) ≤ 1 := by
    by_cases c : m / g = 1
    · rw [c]; decide
    · rw [Int.emod_eq_of_lt (by omega) (by omega)]; omega
  have p0 : 0 ≤ s % (m / g) * (1 % (m / g)) := Int.mul_nonneg x0 y0
  have p1 : s % (m / g) * (1 % (m / g)) ≤ s % (m / g) * 1 := Int.mul_le_mul_of_nonneg_left y1 x0
  refine ⟨s % (m / g) * (1 % (m / g)) % (m / g), ?_, ?_, ?_, ?_⟩
  · unfold whole_Solve.f
    rw [if_neg (by omega)]
    have : decide (m > 2147483647) = false := decide_eq_false (by omega)
    rw [this]
    simp only [whole_Solve.j0]
    obtain ⟨q, rfl⟩ : ∃ q, k = q + 3 := ⟨k - 3, by omega⟩
    rw [if_neg (by decide), within2 q a g (by omega) (by omega) (by omega) (by omega)]
    simp only [Option.bind_some]
    rw [if_pos trivial, wmod_is a m (by omega) (by omega)]
    simp only [Option.bind_some]
    rw [e1]
    simp only [Option.bind_some]
    rw [if_neg (by omega), tmod_pos (by omega), Int.emod_self, if_pos rfl, tdiv_pos (by omega), w64 (by omega) (by omega), wmod_is s _ n0 (by omega)]
    simp only [Option.bind_some]
    rw [tdiv_pos (by omega), gg, w64 (n := 1) (by omega) (by omega), wmod_is 1 _ n0 (by omega)]
    simp only [Option.bind_some]
    rw [w64 (by omega) (by omega), wmod_is _ _ n0 (by omega)]
    simp only [Option.bind_some]
  · -- a x - g
    have d1 : m ∣ a * s - g := by
      have : a * s - g = (a % m * s - g) + m * (a / m * s) := by
        have e := Int.mul_ediv_add_emod a m
        have : a * s = (m * (a / m) + a % m) * s := by rw [e]
        rw [this, Int.add_mul, Int.mul_assoc]; omega
      rw [this]
      exact Int.dvd_add e2 (Int.dvd_mul_right ..)
    have d2 : (m / g) ∣ s % (m / g) * (1 % (m / g)) % (m / g) - s := by
      rw [← Int.mul_emod, Int.mul_one]
      refine ⟨-(s / (m / g)), ?_⟩
      have := Int.mul_ediv_add_emod s (m / g)
      rw [Int.mul_neg]; omega
    generalize s % (m / g) * (1 % (m / g)) % (m / g) = x at *
    obtain ⟨c, hc⟩ := d2
    obtain ⟨b, hb⟩ := gd1
    have : a * x - g = (a * s - g) + m * (b * c) := by
      have e : x = s + m / g * c := by omega
      have e' : a * (m / g * c) = m * (b * c) := by
        have e2 : a * (m / g * c) = (g * b) * (m / g * c) := by rw [← hb]
        rw [e2]
        calc g * b * (m / g * c) = (g * (m / g)) * (b * c) := by ac_rfl
          _ = m * (b * c) := by rw [n1]
      rw [e, Int.mul_add, e']; omega
    rw [this]
    exact Int.dvd_add d1 (Int.dvd_mul_right ..)
  · exact Int.emod_nonneg _ (by omega)
  · have := Int.emod_lt_of_pos (s % (m / g) * (1 % (m / g))) n0
    omega
theorem meet_is (k : Nat) (a m : Int) (ha1 : -100000 ≤ a) (ha2 : a ≤ 100000) (hm1 : 1 ≤ m) (hm2 : m ≤ 100000) : whole_Meet.f (k + 4) a m a m = some (a % m, m, 0) := by
  have l := Int.emod_nonneg a (show m ≠ 0 by omega)
  have u := Int.emod_lt_of_pos a (show 0 < m by omega)
  have ex : whole_extended.f (k + 3) 0 m = some (m, 0) := by
    unfold whole_extended.f
    simp only [whole_extended.l0]
    rw [if_neg (by omega)]
    simp [w64]
  unfold whole_Meet.f
  have : decide (m > 2147483647) = false := decide_eq_false (by omega)
  rw [if_neg (by omega), if_neg (by omega), if_neg (by omega), this]
  simp only [whole_Meet.j0]
  rw [if_neg (by decide), within2 k a a (by omega) (by omega) (by omega) (by omega)]
  simp only [Option.bind_some]
  rw [if_pos trivial, wmod_is m m (by omega) (by omega), Int.emod_self]
  simp only [Option.bind_some]
  rw [ex]
  simp only [Option.bind_some]
  rw [wmod_is a m (by omega) (by omega)]
  simp only [Option.bind_some]
  rw [if_neg (by omega), Int.sub_self, w64 (n := 0) (by omega) (by omega), tmod_pos (by omega), Int.zero_emod, if_pos rfl, tdiv_pos (a := 0) (by omega), Int.zero_ediv, w64 (n := 0) (by omega) (by omega), tdiv_pos (a := m) (by omega), Int.ediv_self (by omega), w64 (n := 1) (by omega) (by omega), wmod_is 0 1 (by omega) (by omega)]
  simp only [Option.bind_some]
  rw [show (0 : Int) % 1 = 0 from rfl, Int.mul_zero, w64 (n := 0) (by omega) (by omega), wmod_is 0 1 (by omega) (by omega)]
  simp only [Option.bind_some]
  rw [show (0 : Int) % 1 = 0 from rfl, Int.mul_zero, w64 (n := 0) (by omega) (by omega), Int.add_zero, w64 (by omega) (by omega), Int.one_mul, w64 (by omega) (by omega)]
theorem WholeBezout : ephemeriskeep1_WholeBezout.Pure := by
  intro a b ha hb
  refine ⟨200010, ?_⟩
  obtain ⟨x, ex, x1, x2, -⟩ := cut_is a (-100000) 200001 (by omega) (by omega) (by omega) (by omega)
  obtain ⟨m, em, m1, m2, -⟩ := cut_is b 1 100000 (by omega) (by omega) (by omega) (by omega)
  unfold ephemeriskeep1_WholeBezout.f
  rw [wgcd_is 200010 4 6 (by omega) (by omega) (by omega) (by omega) (by omega), show ((Int.gcd 4 6 : Nat) : Int) = 2 from by decide]
  obtain ⟨z, e1, e2, e3, e4⟩ := solve_is 200008 x m (by omega) (by omega) (by omega) (by omega) (by omega)
  have gd1 : ((Int.gcd x m : Nat) : Int) ∣ x := Int.gcd_dvd_left ..
  have gd2 : ((Int.gcd x m : Nat) : Int) ∣ m := Int.gcd_dvd_right ..
  have hz : x * z ≤ 100000 * 100000 ∧ -(100000 * 100000) ≤ x * z := by
    have h1 : x * z ≤ 100000 * z := Int.mul_le_mul_of_nonneg_right (by omega) e3
    have h2 : (-100000) * z ≤ x * z := Int.mul_le_mul_of_nonneg_right (by omega) e3
    omega
  have ew := wgcd_is 200009 x m (by omega) (by omega) (by omega) (by omega) (by omega)
  generalize hg : (Int.gcd x m : Int) = g at *
  have g0 : 0 < g := by
    have : 0 ≤ g := by omega
    by_cases z : g = 0
    · rw [z] at gd2; have := Int.zero_dvd.mp gd2; omega
    · omega
  have gm : g ≤ m := Int.le_of_dvd (by omega) gd2
  simp only [Option.bind_some]
  rw [if_pos trivial]
  simp only [ephemeriskeep1_WholeBezout.j0]
  rw [if_neg (by decide), ex]
  simp only [Option.bind_some]
  rw [em]
  simp only [Option.bind_some]
  rw [ew]
  simp only [Option.bind_some]
  rw [if_pos trivial, if_neg (by omega), if_neg (by omega)]
  have t1 : Int.tmod x g = 0 := Int.tmod_eq_zero_of_dvd gd1
  have t2 : Int.tmod m g = 0 := Int.tmod_eq_zero_of_dvd gd2
  rw [if_pos t1, t2]
  simp only [ephemeriskeep1_WholeBezout.j1]
  rw [if_neg (by decide), e1]
  simp only [Option.bind_some]
  rw [if_pos trivial, w64 (n := x * z) (by omega) (by omega), w64 (by omega) (by omega), mod_is _ m (by omega) (by omega), Int.emod_eq_zero_of_dvd e2]
  simp only [Option.bind_some, ephemeriskeep1_WholeBezout.j2]
  rw [if_neg (by decide), meet_is 200003 x m (by omega) (by omega) (by omega) (by omega)]
  simp only [Option.bind_some]
  rw [if_pos trivial, mod_is x m (by omega) (by omega)]
  simp only [Option.bind_some]
  rw [if_pos trivial, beq_self_eq_true]

end Go.Proofs.Ytboddbgmgcjppaa.Pure
