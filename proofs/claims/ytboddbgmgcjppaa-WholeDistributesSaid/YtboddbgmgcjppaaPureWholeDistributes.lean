/- For all a, b, c (each shifted right by 33 bits, as WholeDistributes does), products distribute over sums, and the quotient and the remainder of the floor division belong together; a division by 0 is refused. No conditions. -/
import Derived.Test.YtboddbgmgcjppaaQWholeDistributesx5
namespace Go.Proofs.Ytboddbgmgcjppaa.Pure
open Go.RowKit Go.Proofs.Ytboddbgmgcjppaa.QWholeDistributes Go.Proofs.YtboddbgmgcjppaaW.PrintWords Go.Proofs.YtboddbgmgcjppaaW.PrintLast

theorem lit64 {a : Int} (h : (Go.Lit.int .i64 a).wf = true) : -9223372036854775808 ≤ a ∧ a ≤ 9223372036854775807 := by
  simp only [Go.Lit.wf, Bool.and_eq_true, decide_eq_true_eq] at h
  have h1 : Go.IntKind.i64.min = -9223372036854775808 := by decide
  have h2 : Go.IntKind.i64.max = 9223372036854775807 := by decide
  omega
theorem w64 {n : Int} (h1 : -9223372036854775808 ≤ n) (h2 : n ≤ 9223372036854775807) : wrap64 n = n := by unfold wrap64; omega
theorem w64r (n : Int) : -9223372036854775808 ≤ wrap64 n ∧ wrap64 n ≤ 9223372036854775807 := by unfold wrap64; omega
theorem tmod_pos {a b : Int} (ha : 0 ≤ a) : Int.tmod a b = a % b := by rw [Int.tmod_eq_emod, if_pos (Or.inl ha)]; simp
theorem tdiv_pos {a b : Int} (ha : 0 ≤ a) : Int.tdiv a b = a / b := by rw [Int.tdiv_eq_ediv, if_pos (Or.inl ha)]; simp
theorem tmod_bounds {a b : Int} (hb : 0 < b) : -b < Int.tmod a b ∧ Int.tmod a b < b ∧ (0 ≤ a → 0 ≤ Int.tmod a b) ∧ (a ≤ 0 → Int.tmod a b ≤ 0) := by
  rw [Int.tmod_eq_emod]
  have h1 := Int.emod_nonneg a (show b ≠ 0 by omega)
  have h2 := Int.emod_lt_of_pos a hb
  split
  · rename_i h
    refine ⟨by omega, by omega, fun _ => by omega, fun h0 => ?_⟩
    rcases h with h | h
    · have : a = 0 := by omega
      subst this; simp
    · rw [Int.emod_eq_zero_of_dvd h]; simp
  · refine ⟨by omega, by omega, fun _ => by omega, fun _ => by omega⟩
/-- tmod and tdiv against emod and ediv, for a positive divisor. -/
theorem tmod_cases {a b : Int} (hb : 0 < b) : (Int.tmod a b = a % b ∧ Int.tdiv a b = a / b ∧ (0 ≤ a ∨ a % b = 0)) ∨ (a < 0 ∧ a % b ≠ 0 ∧ Int.tmod a b = a % b - b ∧ Int.tdiv a b = a / b + 1) := by
  by_cases h : 0 ≤ a ∨ b ∣ a
  · left
    refine ⟨by rw [Int.tmod_eq_emod, if_pos h]; simp, by rw [Int.tdiv_eq_ediv, if_pos h]; simp, h.imp id Int.emod_eq_zero_of_dvd⟩
  · right
    have h' := not_or.mp h
    refine ⟨by omega, fun e => h'.2 (Int.dvd_of_emod_eq_zero e), ?_, ?_⟩
    · rw [Int.tmod_eq_emod, if_neg h]; omega
    · rw [Int.tdiv_eq_ediv, if_neg h, Int.sign_eq_one_of_pos hb]
theorem ediv_range {a b : Int} (hb : 0 < b) (h1 : -9223372036854775808 ≤ a) (h2 : a ≤ 9223372036854775807) : -9223372036854775808 ≤ a / b ∧ a / b ≤ 9223372036854775807 := by
  have e := Int.mul_ediv_add_emod a b
  have l := Int.emod_nonneg a (show b ≠ 0 by omega)
  have u := Int.emod_lt_of_pos a hb
  constructor
  · by_cases c : 0 ≤ a
    · have := Int.ediv_nonneg c (show 0 ≤ b by omega); omega
    · have : a ≤ a / b := by
        rw [Int.le_ediv_iff_mul_le hb]
        have : a * b ≤ a * 1 := Int.mul_le_mul_of_nonpos_left (by omega) (by omega)
        omega
      omega
  · by_cases c : 0 ≤ a
    · have : a / b ≤ a := Int.ediv_le_self b c
      omega
    · have : a / b ≤ 0 := by
        have : a / b < 0 := Int.ediv_neg_of_neg_of_pos (by omega) hb
        omega
      omega
/-- the remainder from 0 on, as the program computes it twice. -/
theorem mod_twice {a b : Int} (hb : 0 < b) (hb2 : b ≤ 4611686018427387904) : Int.tmod (wrap64 ((Int.tmod a b) + b)) b = a % b := by
  have hc := tmod_bounds (a := a) hb
  have h1 := Int.emod_nonneg a (show b ≠ 0 by omega)
  have h2 := Int.emod_lt_of_pos a hb
  rw [w64 (by omega) (by omega)]
  rw [tmod_pos (by omega)]
  rcases tmod_cases (a := a) hb with ⟨e, _, _⟩ | ⟨_, _, e, _⟩
  · rw [e]; simp
  · rw [e, show a % b - b + b = a % b from by omega]; simp

theorem div_is (k : Nat) (a b : Int) (hb : 0 < b) (h1 : -9223372036854775808 ≤ a) (h2 : a ≤ 9223372036854775807) (hb2 : b ≤ 4611686018427387904) :
    whole_Div.f (k + 1) a b = some (a / b, a % b, 0) := by
  have hj : whole_Div.j0 (k + 1) a b false = some (a / b, a % b, 0) := by
    have hm1 := Int.emod_nonneg a (show b ≠ 0 by omega)
    have hm2 := Int.emod_lt_of_pos a hb
    have hr := ediv_range hb h1 h2
    simp only [whole_Div.j0]
    rw [if_neg (by decide), if_neg (by omega)]
    rcases tmod_cases (a := a) hb with ⟨e, e', c⟩ | ⟨c, c', e, e'⟩
    · rw [e, e', w64 hr.1 hr.2]
      by_cases z : a % b = 0
      · rw [if_pos z, z]
      · rw [if_neg z, if_neg]
        have hd1 : decide (a % b < 0) = false := decide_eq_false (by omega)
        have hd2 : decide (b < 0) = false := decide_eq_false (by omega)
        rw [hd1, hd2]; decide
    · rw [e, e']
      have hr2 : a / b < 0 := Int.ediv_neg_of_neg_of_pos c hb
      rw [w64 (by omega) (by omega)]
      have hd1 : decide (a % b - b < 0) = true := decide_eq_true (by omega)
      have hd2 : decide (b < 0) = false := decide_eq_false (by omega)
      rw [if_neg (by omega), hd1, hd2, if_pos (by decide), w64 (by omega) (by omega), w64 (by omega) (by omega)]
      congr 2
      · omega
      · congr 1; omega
  unfold whole_Div.f
  rw [if_neg (by omega)]
  by_cases c : a = -9223372036854775808
  · rw [if_pos c]
    have : (b == -1) = false := beq_eq_false_iff_ne.mpr (by omega)
    rw [this]; exact hj
  · rw [if_neg c]; exact hj

theorem wraps_u64 (n : Int) (h₀ : 0 ≤ n) (h₁ : n < 2 ^ 64) : Go.IntKind.u64.wrap n = n := by
  rw [show Go.IntKind.u64.wrap n = n % 18446744073709551616 from by simp [Go.IntKind.wrap, Go.IntKind.signed, Go.IntKind.bits]]
  omega
theorem and_mask32 (x : Int) (h0 : 0 ≤ x) (h1 : x < 18446744073709551616) : Go.bits .and .u64 x 4294967295 = x % 4294967296 :=
  bits_mask .u64 64 (by decide) wraps_u64 32 (by decide) x h0 h1
theorem size_any (a : Int) (h1 : -9223372036854775807 ≤ a) (h2 : a ≤ 9223372036854775807) : whole_size.f a = some (a.natAbs : Int) := by
  unfold whole_size.f
  have e : ∀ x : Int, Go.IntKind.u64.wrap x = x % 18446744073709551616 := fun x => by simp [Go.IntKind.wrap, Go.IntKind.signed, Go.IntKind.bits]
  rw [e, e]
  by_cases c : a < 0
  · rw [if_pos c]; congr 1; omega
  · rw [if_neg c]; congr 1; omega
theorem mul64_small (x y : Int) (hx0 : 0 ≤ x) (hx : x ≤ 2147483648) (hy0 : 0 ≤ y) (hy : y ≤ 2147483648) : bits_Mul64.f x y = some (0, x * y) := by
  have p0 : 0 ≤ x * y := Int.mul_nonneg hx0 hy0
  have p1 : x * y ≤ 2147483648 * 2147483648 := Int.mul_le_mul hx hy hy0 (by omega)
  unfold bits_Mul64.f
  rw [show x / 4294967296 = 0 from by omega, show y / 4294967296 = 0 from by omega, and_mask32 x hx0 (by omega), and_mask32 y hy0 (by omega), show x % 4294967296 = x from by omega, show y % 4294967296 = y from by omega]
  simp only [Int.zero_mul, Int.mul_zero]
  rw [wraps_u64 0 (by omega) (by omega), wraps_u64 (x * y) p0 (by omega)]
  simp only [Int.zero_add, Int.add_zero]
  rw [wraps_u64 (x * y / 4294967296) (by omega) (by omega), show x * y / 4294967296 / 4294967296 = 0 from by omega, and_mask32 _ (by omega) (by omega)]
  rw [show x * y / 4294967296 % 4294967296 = x * y / 4294967296 from by omega, wraps_u64 (x * y / 4294967296) (by omega) (by omega), show x * y / 4294967296 / 4294967296 = 0 from by omega]
  rw [wraps_u64 0 (by omega) (by omega)]
  simp only [Int.add_zero]
  rw [wraps_u64 0 (by omega) (by omega)]
theorem mul_small (k : Nat) (a b : Int) (ha1 : -2147483648 ≤ a) (ha2 : a ≤ 2147483648) (hb1 : -2147483648 ≤ b) (hb2 : b ≤ 2147483648) : whole_Mul.f (k + 1) a b = some (a * b, 0) := by
  have hx : (a.natAbs : Int) * (b.natAbs : Int) = ((a * b).natAbs : Int) := by rw [Int.natAbs_mul]; simp
  have hx0 : 0 ≤ (a.natAbs : Int) * (b.natAbs : Int) := by omega
  have hx1 : (a.natAbs : Int) * (b.natAbs : Int) ≤ 2147483648 * 2147483648 := Int.mul_le_mul (by omega) (by omega) (by omega) (by omega)
  unfold whole_Mul.f
  rw [size_any a (by omega) (by omega)]
  simp only [Option.bind_some]
  rw [size_any b (by omega) (by omega)]
  simp only [Option.bind_some]
  rw [mul64_small _ _ (by omega) (by omega) (by omega) (by omega)]
  simp only [Option.bind_some]
  rw [if_pos trivial, if_neg (by omega), if_neg (by omega)]
  simp only [whole_Mul.j0]
  rw [if_neg (by decide), hx]
  have wu : Go.IntKind.u64.wrap (-((a * b).natAbs : Int)) = (-((a * b).natAbs : Int)) % 18446744073709551616 := by simp [Go.IntKind.wrap, Go.IntKind.signed, Go.IntKind.bits]
  have w64d : ∀ n : Int, wrap64 n = (n + 9223372036854775808) % 18446744073709551616 - 9223372036854775808 := fun n => by unfold wrap64; rfl
  have sgn : (a < 0 ∧ b < 0 → 0 ≤ a * b) ∧ (a < 0 ∧ 0 ≤ b → a * b ≤ 0) ∧ (0 ≤ a ∧ b < 0 → a * b ≤ 0) ∧ (0 ≤ a ∧ 0 ≤ b → 0 ≤ a * b) :=
    ⟨fun h => Int.mul_nonneg_of_nonpos_of_nonpos (by omega) (by omega), fun h => Int.mul_nonpos_of_nonpos_of_nonneg (by omega) h.2, fun h => Int.mul_nonpos_of_nonneg_of_nonpos h.1 (by omega), fun h => Int.mul_nonneg h.1 h.2⟩
  generalize a * b = p at *
  obtain ⟨s1, s2, s3, s4⟩ := sgn
  rw [wu, w64d, w64d]
  by_cases ca : a < 0 <;> by_cases cb : b < 0
  · rw [decide_eq_true ca, decide_eq_true cb, if_neg (by decide)]; refine congrArg some (Prod.ext ?_ rfl); show _ = p; have := s1 ⟨ca, cb⟩; omega
  · rw [decide_eq_true ca, decide_eq_false cb, if_pos (by decide)]; refine congrArg some (Prod.ext ?_ rfl); show _ = p; have := s2 ⟨ca, by omega⟩; omega
  · rw [decide_eq_false ca, decide_eq_true cb, if_pos (by decide)]; refine congrArg some (Prod.ext ?_ rfl); show _ = p; have := s3 ⟨by omega, cb⟩; omega
  · rw [decide_eq_false ca, decide_eq_false cb, if_neg (by decide)]; refine congrArg some (Prod.ext ?_ rfl); show _ = p; have := s4 ⟨by omega, by omega⟩; omega

theorem div_any (k : Nat) (a b : Int) (hb : b ≠ 0) (ha1 : -1073741824 ≤ a) (ha2 : a ≤ 1073741824) (hb1 : -1073741824 ≤ b) (hb2 : b ≤ 1073741824) :
    ∃ q r, whole_Div.f (k + 1) a b = some (q, r, 0) ∧ q * b + r = a ∧ (0 < b → 0 ≤ r ∧ r < b) ∧ (b < 0 → r ≤ 0 ∧ b < r) ∧ -1073741825 ≤ q ∧ q ≤ 1073741825 := by
  by_cases c : 0 < b
  · have e := Int.mul_ediv_add_emod a b
    have l := Int.emod_nonneg a hb
    have u := Int.emod_lt_of_pos a c
    refine ⟨a / b, a % b, div_is k a b c (by omega) (by omega) (by omega), by rw [Int.mul_comm]; exact e, fun _ => ⟨l, u⟩, fun h => by omega, ?_, ?_⟩
    · have : -1073741825 * b ≤ a := by omega
      exact (Int.le_ediv_iff_mul_le c).mpr (by omega)
    · have : a / b < 1073741825 + 1 := Int.ediv_lt_of_lt_mul c (by omega)
      omega
  · have e := Int.mul_tdiv_add_tmod a b
    have bd := tmod_bounds (a := a) (b := -b) (by omega)
    rw [Int.tmod_neg] at bd
    have qb : (Int.tdiv a b).natAbs ≤ a.natAbs := by rw [Int.natAbs_tdiv]; exact Nat.div_le_self ..
    have hj : ∃ q r, whole_Div.j0 (k + 1) a b false = some (q, r, 0) ∧ q * b + r = a ∧ (0 < b → 0 ≤ r ∧ r < b) ∧ (b < 0 → r ≤ 0 ∧ b < r) ∧ -1073741825 ≤ q ∧ q ≤ 1073741825 := by
      simp only [whole_Div.j0]
      rw [if_neg (by decide), if_neg hb, w64 (n := Int.tdiv a b) (by omega) (by omega)]
      by_cases z : Int.tmod a b = 0
      · rw [if_pos z]
        exact ⟨_, _, rfl, by rw [Int.mul_comm]; omega, fun h => by omega, fun h => by omega, by omega, by omega⟩
      · rw [if_neg z]
        by_cases s : Int.tmod a b < 0
        · rw [decide_eq_true s, decide_eq_true (show b < 0 by omega), if_neg (by decide)]
          exact ⟨_, _, rfl, by rw [Int.mul_comm]; omega, fun h => by omega, fun h => by omega, by omega, by omega⟩
        · rw [decide_eq_false s, decide_eq_true (show b < 0 by omega), if_pos (by decide), w64 (by omega) (by omega), w64 (by omega) (by omega)]
          refine ⟨_, _, rfl, ?_, fun h => by omega, fun h => by omega, by omega, by omega⟩
          rw [Int.sub_mul, Int.mul_comm]; omega
    unfold whole_Div.f
    rw [if_neg hb, if_neg (by omega)]
    exact hj
theorem WholeDistributes : ephemeriskeep1_WholeDistributes.Pure := by
  intro a b c ha hb hc
  have ha := lit64 ha
  have hb := lit64 hb
  have hc := lit64 hc
  refine ⟨4, ?_⟩
  unfold ephemeriskeep1_WholeDistributes.f
  rw [mul_small 3 (-3) 5 (by omega) (by omega) (by omega) (by omega)]
  simp only [Option.bind_some]
  rw [if_pos (by omega)]
  simp only [ephemeriskeep1_WholeDistributes.j0]
  rw [if_neg (by decide)]
  generalize hx : a / 8589934592 = x
  generalize hy : b / 8589934592 = y
  generalize hz : c / 8589934592 = z
  have x1 : -1073741824 ≤ x ∧ x ≤ 1073741823 := by omega
  have y1 : -1073741824 ≤ y ∧ y ≤ 1073741823 := by omega
  have z1 : -1073741824 ≤ z ∧ z ≤ 1073741823 := by omega
  clear hx hy hz ha hb hc
  have pb : ∀ u v : Int, -1073741825 ≤ u → u ≤ 1073741825 → -2147483648 ≤ v → v ≤ 2147483648 → -4611686018427387904 ≤ u * v ∧ u * v ≤ 4611686018427387904 := by
    intro u v h1 h2 h3 h4
    have e : ((u * v).natAbs : Int) = (u.natAbs : Int) * (v.natAbs : Int) := by rw [Int.natAbs_mul]; simp
    have : (u.natAbs : Int) * (v.natAbs : Int) ≤ 1073741825 * 2147483648 := Int.mul_le_mul (by omega) (by omega) (by omega) (by omega)
    omega
  have b1 := pb x y (by omega) (by omega) (by omega) (by omega)
  have b2 := pb x z (by omega) (by omega) (by omega) (by omega)
  rw [mul_small 2 x y (by omega) (by omega) (by omega) (by omega)]
  simp only [Option.bind_some]
  rw [mul_small 2 x z (by omega) (by omega) (by omega) (by omega)]
  simp only [Option.bind_some]
  rw [w64 (n := y + z) (by omega) (by omega), mul_small 2 x (y + z) (by omega) (by omega) (by omega) (by omega)]
  simp only [Option.bind_some]
  have ee : x * y + x * z = x * (y + z) := by rw [Int.mul_add]
  have b3 := pb x (y + z) (by omega) (by omega) (by omega) (by omega)
  rw [if_pos trivial, ee, w64 (by omega) (by omega)]
  simp only [ephemeriskeep1_WholeDistributes.j1]
  rw [if_neg (by simp)]
  by_cases z0 : y = 0
  · subst z0
    have : whole_Div.f 2 x 0 = some (0, 0, 1) := by unfold whole_Div.f; rw [if_pos rfl]
    rw [this]
    simp only [Option.bind_some]
    rw [if_pos trivial]; rfl
  · obtain ⟨q, r, e1, e2, e3, e4, e5, e6⟩ := div_any 1 x y z0 (by omega) (by omega) (by omega) (by omega)
    rw [e1]
    simp only [Option.bind_some]
    rw [if_neg z0, mul_small 1 q y (by omega) (by omega) (by omega) (by omega)]
    simp only [Option.bind_some]
    rw [if_pos trivial, e2, w64 (by omega) (by omega), if_pos rfl]
    by_cases cy : 0 < y
    · have := e3 cy
      rw [if_pos cy, if_pos (by omega), if_pos (by omega)]
    · have := e4 (by omega)
      rw [if_neg cy, if_pos (by omega), if_pos (by omega), decide_eq_true (by omega)]

end Go.Proofs.Ytboddbgmgcjppaa.Pure
