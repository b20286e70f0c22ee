/- For every set of cycles and every day (so CycleMeets cuts it): where the set is valid, the next day with the places of a day is this day, and the one after it is a full cycle later, or there is none where that is past the last day. No conditions. -/
import Derived.Test.YtboddbgmgcjppaaQCycleMeetsx13
import Derived.Test.YtboddbgmgcjppaaStmtCycleMeets
set_option linter.unusedVariables false
set_option linter.unusedSimpArgs false
namespace Go.Proofs.Ytboddbgmgcjppaa.Pure
open Go.RowKit Go.Proofs.Ytboddbgmgcjppaa.QCycleMeets Go.Proofs.YtboddbgmgcjppaaW.PrintWords Go.Proofs.YtboddbgmgcjppaaW.PrintLast

theorem lit64 {a : Int} (h : (Go.Lit.int .i64 a).wf = true) : -9223372036854775808 ≤ a ∧ a ≤ 9223372036854775807 := by
  simp only [Go.Lit.wf, Bool.and_eq_true, decide_eq_true_eq] at h
  have h1 : Go.IntKind.i64.min = -9223372036854775808 := by decide
  have h2 : Go.IntKind.i64.max = 9223372036854775807 := by decide
  omega
theorem w64 {n : Int} (h1 : -9223372036854775808 ≤ n) (h2 : n ≤ 9223372036854775807) : wrap64 n = n := by unfold wrap64; omega
theorem w64r (n : Int) : -9223372036854775808 ≤ wrap64 n ∧ wrap64 n ≤ 9223372036854775807 := by unfold wrap64; omega
theorem tmod_pos {a b : Int} (ha : 0 ≤ a) : Int.tmod a b = a % b := by rw [Int.tmod_eq_emod, if_pos (Or.inl ha)]; simp
theorem tdiv_pos {a b : Int} (ha : 0 ≤ a) : Int.tdiv a b = a / b := by rw [Int.tdiv_eq_ediv, if_pos (Or.inl ha)]; simp
theorem tmod_bounds {a b : Int} (hb : 0 < b) : -b < Int.tmod a b ∧ Int.tmod a b < b ∧ (0 ≤ a → 0 ≤ Int.tmod a b) ∧ (a ≤ 0 → Int.tmod a b ≤ 0) := by
  rw [Int.tmod_eq_emod]
  have h1 := Int.emod_nonneg a (show b ≠ 0 by omega)
  have h2 := Int.emod_lt_of_pos a hb
  split
  · rename_i h
    refine ⟨by omega, by omega, fun _ => by omega, fun h0 => ?_⟩
    rcases h with h | h
    · have : a = 0 := by omega
      subst this; simp
    · rw [Int.emod_eq_zero_of_dvd h]; simp
  · refine ⟨by omega, by omega, fun _ => by omega, fun _ => by omega⟩
/-- tmod and tdiv against emod and ediv, for a positive divisor. -/
theorem tmod_cases {a b : Int} (hb : 0 < b) : (Int.tmod a b = a % b ∧ Int.tdiv a b = a / b ∧ (0 ≤ a ∨ a % b = 0)) ∨ (a < 0 ∧ a % b ≠ 0 ∧ Int.tmod a b = a % b - b ∧ Int.tdiv a b = a / b + 1) := by
  by_cases h : 0 ≤ a ∨ b ∣ a
  · left
    refine ⟨by rw [Int.tmod_eq_emod, if_pos h]; simp, by rw [Int.tdiv_eq_ediv, if_pos h]; simp, h.imp id Int.emod_eq_zero_of_dvd⟩
  · right
    have h' := not_or.mp h
    refine ⟨by omega, fun e => h'.2 (Int.dvd_of_emod_eq_zero e), ?_, ?_⟩
    · rw [Int.tmod_eq_emod, if_neg h]; omega
    · rw [Int.tdiv_eq_ediv, if_neg h, Int.sign_eq_one_of_pos hb]
theorem ediv_range {a b : Int} (hb : 0 < b) (h1 : -9223372036854775808 ≤ a) (h2 : a ≤ 9223372036854775807) : -9223372036854775808 ≤ a / b ∧ a / b ≤ 9223372036854775807 := by
  have e := Int.mul_ediv_add_emod a b
  have l := Int.emod_nonneg a (show b ≠ 0 by omega)
  have u := Int.emod_lt_of_pos a hb
  constructor
  · by_cases c : 0 ≤ a
    · have := Int.ediv_nonneg c (show 0 ≤ b by omega); omega
    · have : a ≤ a / b := by
        rw [Int.le_ediv_iff_mul_le hb]
        have : a * b ≤ a * 1 := Int.mul_le_mul_of_nonpos_left (by omega) (by omega)
        omega
      omega
  · by_cases c : 0 ≤ a
    · have : a / b ≤ a := Int.ediv_le_self b c
      omega
    · have : a / b ≤ 0 := by
        have : a / b < 0 := Int.ediv_neg_of_neg_of_pos (by omega) hb
        omega
      omega
/-- the remainder from 0 on, as the program computes it twice. -/
theorem mod_twice {a b : Int} (hb : 0 < b) (hb2 : b ≤ 4611686018427387904) : Int.tmod (wrap64 ((Int.tmod a b) + b)) b = a % b := by
  have hc := tmod_bounds (a := a) hb
  have h1 := Int.emod_nonneg a (show b ≠ 0 by omega)
  have h2 := Int.emod_lt_of_pos a hb
  rw [w64 (by omega) (by omega)]
  rw [tmod_pos (by omega)]
  rcases tmod_cases (a := a) hb with ⟨e, _, _⟩ | ⟨_, _, e, _⟩
  · rw [e]; simp
  · rw [e, show a % b - b + b = a % b from by omega]; simp

theorem mod_is (a b : Int) (hb : 0 < b) (hb2 : b ≤ 4611686018427387904) : ephemeriskeep1_mod.f a b = some (a % b) := by
  unfold ephemeriskeep1_mod.f
  rw [if_neg (by omega), mod_twice hb hb2]
theorem cut_is (a l n : Int) (hn : 0 < n) (hn2 : n ≤ 4611686018427387904) (h1 : -4611686018427387904 ≤ l) (h2 : l ≤ 4611686018427387904) :
    ∃ r, ephemeriskeep1_cut.f a l n = some r ∧ l ≤ r ∧ r < l + n ∧ r = l + a % n := by
  have h3 := Int.emod_nonneg a (show n ≠ 0 by omega)
  have h4 := Int.emod_lt_of_pos a hn
  refine ⟨l + a % n, ?_, by omega, by omega, rfl⟩
  unfold ephemeriskeep1_cut.f
  rw [mod_is a n hn hn2, Option.bind_some, w64 (by omega) (by omega)]

theorem wmod_is (a b : Int) (hb : 0 < b) (hb2 : b ≤ 4611686018427387904) : whole_Mod.f a b = some (a % b) := by
  have hc := tmod_bounds (a := a) hb
  have h1 := Int.emod_nonneg a (show b ≠ 0 by omega)
  have h2 := Int.emod_lt_of_pos a hb
  unfold whole_Mod.f
  rw [if_neg (by omega)]
  rcases tmod_cases (a := a) hb with ⟨e, _, c⟩ | ⟨c, c', e, _⟩
  · rw [e, if_neg (by omega)]
  · rw [e, if_pos (by omega), w64 (by omega) (by omega)]
    congr 1; omega

theorem u64_small {a : Int} (h1 : 0 ≤ a) (h2 : a ≤ 9223372036854775807) : Go.IntKind.u64.wrap a = a := by
  rw [show Go.IntKind.u64.wrap a = a % 18446744073709551616 from by simp [Go.IntKind.wrap, Go.IntKind.signed, Go.IntKind.bits]]
  omega
theorem size_is (a : Int) (h1 : 0 ≤ a) (h2 : a ≤ 9223372036854775807) : whole_size.f a = some a := by
  unfold whole_size.f
  rw [if_neg (by omega), u64_small h1 h2]
theorem gcd_step (x y : Int) (hx : 0 ≤ x) (hy : 0 < y) : Int.gcd y (x % y) = Int.gcd x y := by
  obtain ⟨m, rfl⟩ := Int.eq_ofNat_of_zero_le hx
  obtain ⟨n, rfl⟩ := Int.eq_ofNat_of_zero_le (show 0 ≤ y by omega)
  rw [← Int.natCast_emod]
  simp only [Int.gcd_natCast_natCast]
  rw [Nat.gcd_comm m n, Nat.gcd_comm n (m % n), ← Nat.gcd_rec]
theorem gcd_loop (d : Nat) : ∀ (k : Nat) (x y : Int), 0 ≤ x → x ≤ 9223372036854775807 → 0 ≤ y → y ≤ 9223372036854775807 → y ≤ d → d < k → whole_Gcd.l0 k x y = some ((Int.gcd x y : Int), 0) := by
  have fin : ∀ (k : Nat) (x : Int), 0 ≤ x → x ≤ 9223372036854775807 → whole_Gcd.l0 (k + 1) x 0 = some ((Int.gcd x 0 : Int), 0) := by
    intro k x h0 h1
    simp only [whole_Gcd.l0]
    rw [if_pos trivial, if_neg (by omega), w64 (by omega) h1]
    congr 2
    simp [Int.gcd]; omega
  induction d with
  | zero =>
    intro k x y h0 h1 h2 h4 h3 hk
    obtain ⟨k, rfl⟩ : ∃ m, k = m + 1 := ⟨k - 1, by omega⟩
    obtain rfl : y = 0 := by omega
    exact fin k x h0 h1
  | succ d ih =>
    intro k x y h0 h1 h2 h4 h3 hk
    obtain ⟨k, rfl⟩ : ∃ m, k = m + 1 := ⟨k - 1, by omega⟩
    by_cases z : y = 0
    · subst z
      exact fin k x h0 h1
    · have l := Int.emod_nonneg x z
      have u := Int.emod_lt_of_pos x (show 0 < y by omega)
      simp only [whole_Gcd.l0]
      rw [if_neg z, tmod_pos h0, ih k y (x % y) h2 h4 l (by omega) (by omega) (by omega), gcd_step x y h0 (by omega)]

theorem size_any (a : Int) (h1 : -9223372036854775807 ≤ a) (h2 : a ≤ 9223372036854775807) : whole_size.f a = some (a.natAbs : Int) := by
  unfold whole_size.f
  have e : ∀ x : Int, Go.IntKind.u64.wrap x = x % 18446744073709551616 := fun x => by simp [Go.IntKind.wrap, Go.IntKind.signed, Go.IntKind.bits]
  rw [e, e]
  by_cases c : a < 0
  · rw [if_pos c]; congr 1; omega
  · rw [if_neg c]; congr 1; omega
theorem wgcd_is (k : Nat) (a b : Int) (ha1 : -9223372036854775807 ≤ a) (ha2 : a ≤ 9223372036854775807) (hb1 : -9223372036854775807 ≤ b) (hb2 : b ≤ 9223372036854775807) (hk : b.natAbs < k) :
    whole_Gcd.f k a b = some ((Int.gcd a b : Int), 0) := by
  unfold whole_Gcd.f
  rw [size_any a ha1 ha2, Option.bind_some, size_any b hb1 hb2, Option.bind_some, gcd_loop b.natAbs k _ _ (by omega) (by omega) (by omega) (by omega) (by omega) hk]
  simp [Int.gcd]

theorem dvd_cop {q a b : Int} (h : q ∣ a * b) (hc : Int.gcd q a = 1) : q ∣ b := by
  have h1 : q.natAbs ∣ a.natAbs * b.natAbs := by rw [← Int.natAbs_mul]; exact Int.natAbs_dvd_natAbs.mpr h
  exact Int.natAbs_dvd_natAbs.mp (Nat.Coprime.dvd_of_dvd_mul_left (show Nat.Coprime q.natAbs a.natAbs from hc) h1)

theorem check_ok (d : Int) (h1 : -4000000 ≤ d) (h2 : d ≤ 4000000) : line_Check.f d = some 0 := by
  unfold line_Check.f
  rw [if_neg (by omega), if_neg (by omega)]
theorem check_bad (d : Int) (h : d < -4000000 ∨ 4000000 < d) : line_Check.f d = some 3 := by
  unfold line_Check.f
  by_cases c : d < -4000000
  · rw [if_pos c]
  · rw [if_neg c, if_pos (by omega)]

theorem rd_snoc_lt (l : List Int) (t i : Int) (h0 : 0 ≤ i) (h : i < l.length) : rd (l ++ [t]) i = rd l i := by
  unfold rd
  rw [List.getD_eq_getElem?_getD, List.getD_eq_getElem?_getD, List.getElem?_append_left (by omega)]
theorem rd_snoc_eq (l : List Int) (t i : Int) (h : i = l.length) : rd (l ++ [t]) i = t := by
  unfold rd
  rw [List.getD_eq_getElem?_getD, List.getElem?_append_right (by omega), show i.toNat - l.length = 0 from by omega]
  rfl
def Good (L O : List Int) (i : Int) : Prop := 1 ≤ rd L i ∧ rd L i ≤ 1000 ∧ 0 ≤ rd O i ∧ rd O i < rd L i
structure Valid (L O : List Int) : Prop where
  l1 : 1 ≤ L.length
  l8 : L.length ≤ 8
  lo : O.length = L.length
  good : ∀ i : Int, 0 ≤ i → i < L.length → Good L O i
theorem ck_loop (L O : List Int) (hO : O.length = L.length) (hL : L.length ≤ 8) (d : Nat) : ∀ (k : Nat) (j : Int), 0 ≤ j → j ≤ L.length → (L.length : Int) - j = d → d < k →
    ((∀ i : Int, j ≤ i → i < L.length → Good L O i) ∧ cycle_Check.l0 k L (L.length : Int) j L O = some 0) ∨ ((∃ i : Int, j ≤ i ∧ i < L.length ∧ ¬ Good L O i) ∧ cycle_Check.l0 k L (L.length : Int) j L O = some 3) := by
  induction d with
  | zero =>
    intro k j h0 h1 hd hk
    obtain ⟨k, rfl⟩ : ∃ q, k = q + 1 := ⟨k - 1, by omega⟩
    left
    refine ⟨fun i hi hl => by omega, ?_⟩
    simp only [cycle_Check.l0]
    rw [if_neg (by omega)]
  | succ d ih =>
    intro k j h0 h1 hd hk
    obtain ⟨k, rfl⟩ : ∃ q, k = q + 1 := ⟨k - 1, by omega⟩
    simp only [cycle_Check.l0]
    rw [if_pos (by omega), if_pos h0, if_pos (by omega)]
    by_cases c1 : rd L j < 1
    · rw [if_pos c1]; exact .inr ⟨⟨j, by omega, by omega, fun g => by have := g.1; omega⟩, rfl⟩
    · rw [if_neg c1]
      by_cases c2 : rd L j > 1000
      · rw [if_pos c2]; exact .inr ⟨⟨j, by omega, by omega, fun g => by have := g.2.1; omega⟩, rfl⟩
      · rw [if_neg c2, if_pos (by omega)]
        by_cases c3 : rd O j < 0
        · rw [if_pos c3]; exact .inr ⟨⟨j, by omega, by omega, fun g => by have := g.2.2.1; omega⟩, rfl⟩
        · rw [if_neg c3]
          by_cases c4 : rd O j ≥ rd L j
          · rw [if_pos c4]; exact .inr ⟨⟨j, by omega, by omega, fun g => by have := g.2.2.2; omega⟩, rfl⟩
          · rw [if_neg c4, w64 (n := j + 1) (by omega) (by omega)]
            rcases ih k (j + 1) (by omega) (by omega) (by omega) (by omega) with ⟨h, e⟩ | ⟨⟨i, a, b, c⟩, e⟩
            · refine .inl ⟨fun i hi hl => ?_, e⟩
              by_cases z : i = j
              · subst z; exact ⟨by omega, by omega, by omega, by omega⟩
              · exact h i (by omega) hl
            · exact .inr ⟨⟨i, by omega, b, c⟩, e⟩
theorem ck_is (k : Nat) (L O : List Int) (hk : 20 < k) : (Valid L O ∧ cycle_Check.f k L O = some 0) ∨ (¬ Valid L O ∧ ∃ c, c ≠ 0 ∧ cycle_Check.f k L O = some c) := by
  obtain ⟨k, rfl⟩ : ∃ q, k = q + 1 := ⟨k - 1, by omega⟩
  unfold cycle_Check.f
  by_cases c1 : (L.length : Int) < 1
  · rw [if_pos c1]
    exact .inr ⟨fun v => by have := v.l1; omega, 2, by omega, by simp [cycle_Check.j0]⟩
  · rw [if_neg c1]
    by_cases c2 : (L.length : Int) > 8
    · rw [decide_eq_true c2]
      exact .inr ⟨fun v => by have := v.l8; omega, 2, by omega, by simp [cycle_Check.j0]⟩
    · rw [decide_eq_false c2]
      simp only [cycle_Check.j0]
      rw [if_neg (by decide)]
      by_cases c3 : (O.length : Int) = L.length
      · rw [if_pos c3]
        rcases ck_loop L O (by omega) (by omega) L.length k 0 (by omega) (by omega) (by omega) (by omega) with ⟨h, e⟩ | ⟨⟨i, a, b, c⟩, e⟩
        · exact .inl ⟨⟨by omega, by omega, by omega, h⟩, e⟩
        · exact .inr ⟨fun v => c (v.good i a b), 3, by omega, e⟩
      · rw [if_neg c3]
        exact .inr ⟨fun v => c3 (by have := v.lo; omega), 8, by omega, rfl⟩
theorem ck_ok (k : Nat) (L O : List Int) (hk : 20 < k) (v : Valid L O) : cycle_Check.f k L O = some 0 := by
  rcases ck_is k L O hk with ⟨_, e⟩ | ⟨n, _⟩
  · exact e
  · exact absurd v n
/-- The least common multiple, as the program computes it. -/
def lc (s n : Int) : Int := s / (Int.gcd s n : Int) * n
theorem lc_facts (s n : Int) (hs : 1 ≤ s) (hn : 1 ≤ n) : ∃ g m s' : Int, (Int.gcd s n : Int) = g ∧ 1 ≤ g ∧ 1 ≤ m ∧ m ≤ n ∧ 1 ≤ s' ∧ s = g * s' ∧ n = g * m ∧ Int.gcd m s' = 1 ∧ lc s n = m * s ∧ s / g = s' := by
  have g0 : 0 < Int.gcd s n := Int.gcd_pos_of_ne_zero_right s (by omega)
  have d1 : (Int.gcd s n : Int) ∣ s := Int.gcd_dvd_left ..
  have d2 : (Int.gcd s n : Int) ∣ n := Int.gcd_dvd_right ..
  obtain ⟨s', hs'⟩ := d1
  obtain ⟨m, hm⟩ := d2
  have cop : Int.gcd m s' = 1 := by
    have e : Int.gcd s n = Int.gcd s n * Int.gcd s' m := by
      conv => lhs; rw [hs']
      conv => lhs; arg 2; rw [hm]
      rw [Int.gcd_mul_left]; simp
    have := Nat.eq_of_mul_eq_mul_left g0 (show Int.gcd s n * Int.gcd s' m = Int.gcd s n * 1 by omega)
    rw [Int.gcd_comm]; exact this
  have hdiv : s / (Int.gcd s n : Int) = s' := by
    conv => lhs; arg 1; rw [hs']
    exact Int.mul_ediv_cancel_left _ (by omega)
  have hlc : lc s n = m * s := by
    unfold lc; rw [hdiv]
    generalize (Int.gcd s n : Int) = g at *
    rw [hs', hm]; ac_rfl
  refine ⟨_, m, s', rfl, by omega, ?_, ?_, ?_, hs', hm, cop, hlc, hdiv⟩
  · by_cases c : 1 ≤ m
    · exact c
    · have : (Int.gcd s n : Int) * m ≤ 0 := Int.mul_nonpos_of_nonneg_of_nonpos (by omega) (by omega)
      omega
  · have h1 : 1 ≤ m := by
      by_cases c : 1 ≤ m
      · exact c
      · have : (Int.gcd s n : Int) * m ≤ 0 := Int.mul_nonpos_of_nonneg_of_nonpos (by omega) (by omega)
        omega
    have : 1 * m ≤ (Int.gcd s n : Int) * m := Int.mul_le_mul_of_nonneg_right (by omega) (by omega)
    omega
  · by_cases c : 1 ≤ s'
    · exact c
    · have : (Int.gcd s n : Int) * s' ≤ 0 := Int.mul_nonpos_of_nonneg_of_nonpos (by omega) (by omega)
      omega
theorem lc_ge (s n : Int) (hs : 1 ≤ s) (hn : 1 ≤ n) : s ≤ lc s n := by
  obtain ⟨g, m, s', _, _, hm, _, _, _, _, _, e, _⟩ := lc_facts s n hs hn
  rw [e]
  have : 1 * s ≤ m * s := Int.mul_le_mul_of_nonneg_right hm (by omega)
  omega
def fullS (L : List Int) : Nat → Int → Int → Option Int
  | 0, _, acc => some acc
  | d + 1, j, acc => if lc acc (rd L j) > 1000000000 then none else fullS L d (j + 1) (lc acc (rd L j))
def meetS (L : List Int) (day : Int) : Nat → Int → Int → Option Int
  | 0, _, acc => some acc
  | d + 1, j, acc => if day + lc acc (rd L j) > 4000000 then none else meetS L day d (j + 1) (lc acc (rd L j))
theorem fullS_ge (L : List Int) (n : Int) (d : Nat) : ∀ (j acc S : Int), 0 ≤ j → j + d ≤ n → (∀ i : Int, 0 ≤ i → i < n → 1 ≤ rd L i) → 1 ≤ acc → fullS L d j acc = some S → acc ≤ S := by
  induction d with
  | zero => intro j acc S _ _ _ _ h; simp [fullS] at h; omega
  | succ d ih =>
    intro j acc S h0 h1 hg ha h
    have hn := hg j h0 (by omega)
    have := lc_ge acc (rd L j) ha hn
    simp only [fullS] at h
    by_cases c : lc acc (rd L j) > 1000000000
    · rw [if_pos c] at h; cases h
    · rw [if_neg c] at h
      have := ih (j + 1) _ S (by omega) (by omega) hg (by omega) h
      omega
theorem meet_full (L : List Int) (day n : Int) (hd : -3000000 ≤ day) (d : Nat) : ∀ (j acc : Int), 0 ≤ j → j + d ≤ n → (∀ i : Int, 0 ≤ i → i < n → 1 ≤ rd L i) → 1 ≤ acc → day + acc ≤ 4000000 →
    (∀ S, meetS L day d j acc = some S → fullS L d j acc = some S ∧ day + S ≤ 4000000 ∧ 1 ≤ S) ∧ (meetS L day d j acc = none → ∀ S, fullS L d j acc = some S → day + S > 4000000) := by
  induction d with
  | zero =>
    intro j acc h0 h1 hg ha hm
    refine ⟨fun S h => ?_, fun h => ?_⟩
    · simp [meetS] at h; subst h; exact ⟨rfl, hm, ha⟩
    · simp [meetS] at h
  | succ d ih =>
    intro j acc h0 h1 hg ha hm
    have hn := hg j h0 (by omega)
    have hge := lc_ge acc (rd L j) ha hn
    simp only [meetS, fullS]
    by_cases c : day + lc acc (rd L j) > 4000000
    · rw [if_pos c]
      refine ⟨fun S h => (by cases h), fun _ S h => ?_⟩
      by_cases c2 : lc acc (rd L j) > 1000000000
      · rw [if_pos c2] at h; cases h
      · rw [if_neg c2] at h
        have := fullS_ge L n d (j + 1) _ S (by omega) (by omega) hg (by omega) h
        omega
    · rw [if_neg c, if_neg (by omega)]
      exact ih (j + 1) _ (by omega) (by omega) hg (by omega) (by omega)
theorem full_loop (L : List Int) (hL : L.length ≤ 8) (hg : ∀ i : Int, 0 ≤ i → i < L.length → 1 ≤ rd L i ∧ rd L i ≤ 1000) (d : Nat) : ∀ (k : Nat) (j acc : Int), 0 ≤ j → j + d = L.length → d + 1100 < k → 1 ≤ acc → acc ≤ 1000000000 →
    cycle_Full.l0 k acc L (L.length : Int) j = some (match fullS L d j acc with | some S => (S, 0) | none => (0, 14)) := by
  induction d with
  | zero =>
    intro k j acc h0 h1 hk ha hb
    obtain ⟨k, rfl⟩ : ∃ q, k = q + 1 := ⟨k - 1, by omega⟩
    simp only [cycle_Full.l0, fullS]
    rw [if_neg (by omega)]
  | succ d ih =>
    intro k j acc h0 h1 hk ha hb
    obtain ⟨k, rfl⟩ : ∃ q, k = q + 1 := ⟨k - 1, by omega⟩
    have hn := hg j h0 (by omega)
    obtain ⟨g, m, s', e1, e2, e3, e4, e5, e6, e7, e8, e9, e10⟩ := lc_facts acc (rd L j) ha hn.1
    have hge := lc_ge acc (rd L j) ha hn.1
    have hs : s' ≤ acc := by
      have : 1 * s' ≤ g * s' := Int.mul_le_mul_of_nonneg_right e2 (by omega)
      omega
    have hp : s' * rd L j ≤ 1000000000 * 1000 := Int.mul_le_mul (by omega) (by omega) (by omega) (by omega)
    have hp0 : 0 ≤ s' * rd L j := Int.mul_nonneg (by omega) (by omega)
    have elc : lc acc (rd L j) = s' * rd L j := by unfold lc; rw [e1, e10]
    simp only [cycle_Full.l0, fullS]
    rw [if_pos (by omega), if_pos h0, if_pos (by omega), wgcd_is k acc (rd L j) (by omega) (by omega) (by omega) (by omega) (by omega)]
    simp only [Option.bind_some]
    rw [e1, if_neg (by omega), tdiv_pos (by omega), e10, w64 (n := s') (by omega) (by omega), w64 (n := s' * rd L j) (by omega) (by omega), ← elc]
    by_cases c : lc acc (rd L j) > 1000000000
    · rw [if_pos c, if_pos c]
    · rw [if_neg c, if_neg c, w64 (n := j + 1) (by omega) (by omega)]
      exact ih k (j + 1) _ (by omega) (by omega) (by omega) (by omega) (by omega)
theorem full_is (k : Nat) (L O : List Int) (hk : 2000 < k) (v : Valid L O) : cycle_Full.f k L O = some (match fullS L L.length 0 1 with | some S => (S, 0) | none => (0, 14)) := by
  unfold cycle_Full.f
  have := v.l8
  rw [ck_ok k L O (by omega) v]
  simp only [Option.bind_some]
  rw [if_pos trivial]
  exact full_loop L v.l8 (fun i a b => ⟨(v.good i a b).1, (v.good i a b).2.1⟩) L.length k 0 1 (by omega) (by omega) (by omega) (by omega) (by omega)
theorem of_loop (L O : List Int) (v : Valid L O) (day : Int) (hd1 : -3000000 ≤ day) (hd2 : day ≤ 4000000) (d : Nat) : ∀ (k : Nat) (j : Int) (acc : List Int), 0 ≤ j → j + d = L.length → d < k → (acc.length : Int) = j → (∀ i : Int, 0 ≤ i → i < j → rd acc i = (day + rd O i) % rd L i) →
    ∃ P, cycle_Of.l0 k day acc L (L.length : Int) j L O = some (P, 0) ∧ P.length = L.length ∧ ∀ i : Int, 0 ≤ i → i < L.length → rd P i = (day + rd O i) % rd L i := by
  induction d with
  | zero =>
    intro k j acc h0 h1 hk hl ha
    obtain ⟨k, rfl⟩ : ∃ q, k = q + 1 := ⟨k - 1, by omega⟩
    refine ⟨acc, ?_, by omega, fun i a b => ha i a (by omega)⟩
    simp only [cycle_Of.l0]
    rw [if_neg (by omega)]
  | succ d ih =>
    intro k j acc h0 h1 hk hl ha
    obtain ⟨k, rfl⟩ : ∃ q, k = q + 1 := ⟨k - 1, by omega⟩
    have l8 := v.l8
    have lo := v.lo
    obtain ⟨g1, g2, g3, g4⟩ := v.good j h0 (by omega)
    simp only [cycle_Of.l0]
    rw [if_pos (by omega), if_pos h0, if_pos (by omega), if_pos (by omega), w64 (n := day + rd O j) (by omega) (by omega), wmod_is _ _ (by omega) (by omega)]
    simp only [Option.bind_some]
    rw [if_pos (by omega), w64 (n := j + 1) (by omega) (by omega)]
    refine ih k (j + 1) _ (by omega) (by omega) (by omega) (by simp; omega) (fun i a b => ?_)
    by_cases z : i = j
    · subst z; exact rd_snoc_eq _ _ _ hl.symm
    · rw [rd_snoc_lt _ _ _ a (by omega)]; exact ha i a (by omega)
theorem begin_loop (L O P : List Int) (v : Valid L O) (hP : P.length = L.length) (hp : ∀ i : Int, 0 ≤ i → i < L.length → 0 ≤ rd P i ∧ rd P i < rd L i) (d : Nat) : ∀ (k : Nat) (j : Int), 0 ≤ j → j + d = L.length → d < k → cycle_begin.l0 k P (P.length : Int) j L O = some 0 := by
  induction d with
  | zero =>
    intro k j h0 h1 hk
    obtain ⟨k, rfl⟩ : ∃ q, k = q + 1 := ⟨k - 1, by omega⟩
    simp only [cycle_begin.l0]
    rw [if_neg (by omega)]
  | succ d ih =>
    intro k j h0 h1 hk
    obtain ⟨k, rfl⟩ : ∃ q, k = q + 1 := ⟨k - 1, by omega⟩
    have l8 := v.l8
    obtain ⟨g1, g2⟩ := hp j h0 (by omega)
    simp only [cycle_begin.l0]
    rw [if_pos (by omega), if_pos h0, if_pos (by omega), if_neg (by omega), if_pos (by omega), if_neg (by omega), w64 (n := j + 1) (by omega) (by omega)]
    exact ih k (j + 1) (by omega) (by omega) (by omega)
theorem begin_is (k : Nat) (L O P : List Int) (v : Valid L O) (hP : P.length = L.length) (hp : ∀ i : Int, 0 ≤ i → i < L.length → 0 ≤ rd P i ∧ rd P i < rd L i) (x : Int) (h1 : -4000000 ≤ x) (h2 : x ≤ 4000000) (hk : 100 < k) : cycle_begin.f k L O x P = some 0 := by
  unfold cycle_begin.f
  have l8 := v.l8
  rw [ck_ok k L O (by omega) v]
  simp only [Option.bind_some]
  rw [if_pos trivial, check_ok x h1 h2]
  simp only [Option.bind_some]
  rw [if_pos trivial, if_pos (by omega)]
  exact begin_loop L O P v hP hp L.length k 0 (by omega) (by omega) (by omega)
theorem mn_le (a b : Int) : mn a b ≤ a ∧ mn a b ≤ b ∧ (mn a b = a ∨ mn a b = b) := by unfold mn; split <;> omega
/-- Where the day itself has the places: no step is made. -/
theorem meet_here (L O P : List Int) (v : Valid L O) (day : Int) (hd1 : -3000000 ≤ day) (hd2 : day ≤ 4000000) (hP : P.length = L.length) (hp : ∀ i : Int, 0 ≤ i → i < L.length → rd P i = (day + rd O i) % rd L i) (d : Nat) :
    ∀ (k : Nat) (j st : Int), 0 ≤ j → j + d = L.length → 3 * d + 1100 < k → 1 ≤ st → st ≤ 1099511627776 → ∃ st', cycle_meet.l0 k P day st L (L.length : Int) j L O = some (day, st') ∧ 1 ≤ st' := by
  induction d with
  | zero =>
    intro k j st h0 h1 hk hs1 hs2
    obtain ⟨k, rfl⟩ : ∃ q, k = q + 1 := ⟨k - 1, by omega⟩
    refine ⟨st, ?_, hs1⟩
    simp only [cycle_meet.l0]
    rw [if_neg (by omega)]
  | succ d ih =>
    intro k j st h0 h1 hk hs1 hs2
    obtain ⟨k, rfl⟩ : ∃ q, k = q + 3 := ⟨k - 3, by omega⟩
    have l8 := v.l8
    have lo := v.lo
    obtain ⟨g1, g2, g3, g4⟩ := v.good j h0 (by omega)
    obtain ⟨g, m, s', e1, e2, e3, e4, e5, e6, e7, e8, e9, e10⟩ := lc_facts st (rd L j) hs1 g1
    have hge := lc_ge st (rd L j) hs1 g1
    have hs : s' ≤ st := by
      have : 1 * s' ≤ g * s' := Int.mul_le_mul_of_nonneg_right e2 (by omega)
      omega
    have hq : s' * rd L j ≤ 1099511627776 * 1000 := Int.mul_le_mul (by omega) (by omega) (by omega) (by omega)
    have hq0 : 1 ≤ s' * rd L j := by have := Int.mul_pos (show 0 < s' by omega) (show 0 < rd L j by omega); omega
    have hm := mn_le (s' * rd L j) 1099511627776
    obtain ⟨st', e, hst⟩ := ih k (j + 1) (mn (s' * rd L j) 1099511627776) (by omega) (by omega) (by omega) (by omega) (by omega)
    refine ⟨st', ?_, hst⟩
    simp only [cycle_meet.l0]
    rw [if_pos (by omega), if_pos h0, if_pos (by omega)]
    simp only [cycle_meet.l1]
    rw [if_pos (by omega), if_pos h0, if_pos (by omega), w64 (n := day + rd O j) (by omega) (by omega), wmod_is _ _ (by omega) (by omega)]
    simp only [Option.bind_some]
    rw [if_pos (by omega), hp j h0 (by omega), show ((day + rd O j) % rd L j != (day + rd O j) % rd L j) = false from by simp]
    simp only [cycle_meet.j2]
    rw [if_neg (by decide), if_neg (by omega), wgcd_is k st (rd L j) (by omega) (by omega) (by omega) (by omega) (by omega)]
    simp only [Option.bind_some]
    rw [e1, if_neg (by omega), tdiv_pos (by omega), e10, w64 (n := s') (by omega) (by omega), w64 (n := s' * rd L j) (by omega) (by omega), w64 (n := j + 1) (by omega) (by omega), e]
/-- One length: the next day that has the place is m steps further on. -/
theorem meet_inner (L O P : List Int) (v : Valid L O) (day : Int) (hd1 : -3000000 ≤ day) (hd2 : day ≤ 4000000) (hP : P.length = L.length) (hp : ∀ i : Int, 0 ≤ i → i < L.length → rd P i = (day + rd O i) % rd L i)
    (j st m g s' : Int) (h0 : 0 ≤ j) (h1 : j < L.length) (e1 : (Int.gcd st (rd L j) : Int) = g) (e2 : 1 ≤ g) (e3 : 1 ≤ m) (e4 : m ≤ rd L j) (e5 : 1 ≤ s') (e6 : st = g * s') (e7 : rd L j = g * m) (e8 : Int.gcd m s' = 1) (e10 : st / g = s') (hs1 : 1 ≤ st) (hs2 : st ≤ 7000000) (d : Nat) :
    ∀ (k : Nat) (c : Int), 0 ≤ c → c + 1 + d = m → 2 * d + 1100 < k → day + (c + 1) * st ≤ 4000000 →
      if day + m * st ≤ 4000000 then cycle_meet.l1 k P (day + (c + 1) * st) st j (rd L j) c L (L.length : Int) j L O = cycle_meet.l0 (k - 2 * d - 2) P (day + m * st) (mn (m * st) 1099511627776) L (L.length : Int) (j + 1) L O
      else cycle_meet.l1 k P (day + (c + 1) * st) st j (rd L j) c L (L.length : Int) j L O = some (0, -1) := by
  have l8 := v.l8
  have lo := v.lo
  obtain ⟨g1, g2, g3, g4⟩ := v.good j h0 h1
  -- when is the place met
  have same : ∀ c : Int, 0 ≤ c → c + 1 < m → (day + (c + 1) * st + rd O j) % rd L j ≠ (day + rd O j) % rd L j := by
    intro c hc hcm e
    have h := Int.emod_emod_of_dvd
    have hdv : rd L j ∣ (day + (c + 1) * st + rd O j) - (day + rd O j) := Int.dvd_of_emod_eq_zero (Int.emod_eq_emod_iff_emod_sub_eq_zero.mp e)
    rw [show (day + (c + 1) * st + rd O j) - (day + rd O j) = g * ((c + 1) * s') from by rw [e6]; grind, e7] at hdv
    have hdv2 : m ∣ (c + 1) * s' := Int.dvd_of_mul_dvd_mul_left (by omega) hdv
    have hdv3 : m ∣ c + 1 := dvd_cop (by rw [Int.mul_comm]; exact hdv2) e8
    have := Int.le_of_dvd (by omega) hdv3
    omega
  have last : (day + m * st + rd O j) % rd L j = (day + rd O j) % rd L j := by
    rw [show day + m * st + rd O j = (day + rd O j) + rd L j * s' from by rw [e6, e7]; grind]
    exact Int.add_mul_emod_self_left ..
  have hq : 1 ≤ m * st ∧ m * st ≤ 1000 * 7000000 := ⟨by have := Int.mul_pos (show 0 < m by omega) (show 0 < st by omega); omega, Int.mul_le_mul (by omega) hs2 (by omega) (by omega)⟩
  have elc : s' * rd L j = m * st := by rw [e6, e7]; ac_rfl
  induction d with
  | zero =>
    intro k c hc hcm hk hx
    obtain ⟨k, rfl⟩ : ∃ q, k = q + 2 := ⟨k - 2, by omega⟩
    have hcm' : c + 1 = m := by omega
    rw [hcm'] at hx ⊢
    rw [if_pos hx]
    simp only [cycle_meet.l1]
    have hxs : -9000000 ≤ day + m * st := by omega
    rw [if_pos (by omega), if_pos h0, if_pos (by omega), w64 (n := day + m * st + rd O j) (by omega) (by omega), wmod_is _ _ (by omega) (by omega)]
    simp only [Option.bind_some]
    rw [if_pos (by omega), hp j h0 h1, last, show ((day + rd O j) % rd L j != (day + rd O j) % rd L j) = false from by simp]
    simp only [cycle_meet.j2]
    rw [if_neg (by decide), if_neg (by omega), wgcd_is k st (rd L j) (by omega) (by omega) (by omega) (by omega) (by omega)]
    simp only [Option.bind_some]
    have hs3 : s' ≤ st := by
      have : 1 * s' ≤ g * s' := Int.mul_le_mul_of_nonneg_right e2 (by omega)
      omega
    rw [e1, if_neg (by omega), tdiv_pos (by omega), e10, w64 (n := s') (by omega) (by omega), elc, w64 (n := m * st) (by omega) (by omega), w64 (n := j + 1) (by omega) (by omega)]
    congr 1
  | succ d ih =>
    intro k c hc hcm hk hx
    obtain ⟨k, rfl⟩ : ∃ q, k = q + 2 := ⟨k - 2, by omega⟩
    have hne := same c hc (by omega)
    have hcs : 1 ≤ (c + 1) * st := by have := Int.mul_pos (show 0 < c + 1 by omega) (show 0 < st by omega); omega
    have hstep : cycle_meet.l1 (k + 2) P (day + (c + 1) * st) st j (rd L j) c L (L.length : Int) j L O = if day + (c + 1 + 1) * st > 4000000 then some (0, -1) else cycle_meet.l1 k P (day + (c + 1 + 1) * st) st j (rd L j) (c + 1) L (L.length : Int) j L O := by
      conv => lhs; simp only [cycle_meet.l1]
      rw [if_pos (by omega), if_pos h0, if_pos (by omega), w64 (n := day + (c + 1) * st + rd O j) (by omega) (by omega), wmod_is _ _ (by omega) (by omega)]
      simp only [Option.bind_some]
      rw [if_pos (by omega), hp j h0 h1, show ((day + (c + 1) * st + rd O j) % rd L j != (day + rd O j) % rd L j) = true from bne_iff_ne.mpr hne]
      simp only [cycle_meet.j2]
      rw [if_pos trivial, w64 (n := day + (c + 1) * st + st) (by omega) (by omega), w64 (n := c + 1) (by omega) (by omega), show day + (c + 1) * st + st = day + (c + 1 + 1) * st from by grind]
    rw [hstep]
    have hmono : (c + 1 + 1) * st ≤ m * st := Int.mul_le_mul_of_nonneg_right (by omega) (by omega)
    by_cases z : day + (c + 1 + 1) * st > 4000000
    · rw [if_pos z, if_neg (by omega)]
    · rw [if_neg z]
      have := ih k (c + 1) (by omega) (by omega) (by omega) (by omega)
      rw [show k + 2 - 2 * (d + 1) - 2 = k - 2 * d - 2 from by omega]
      exact this
theorem meet_next (L O P : List Int) (v : Valid L O) (day : Int) (hd1 : -3000000 ≤ day) (hd2 : day ≤ 4000000) (hP : P.length = L.length) (hp : ∀ i : Int, 0 ≤ i → i < L.length → rd P i = (day + rd O i) % rd L i) (d : Nat) :
    ∀ (k : Nat) (j st : Int), 0 ≤ j → j + d = L.length → 2100 * d + 3300 < k → 1 ≤ st → day + st ≤ 4000000 →
      cycle_meet.l0 k P (day + st) st L (L.length : Int) j L O = some (match meetS L day d j st with | some S => (day + S, S) | none => (0, -1)) := by
  induction d with
  | zero =>
    intro k j st h0 h1 hk hs1 hs2
    obtain ⟨k, rfl⟩ : ∃ q, k = q + 1 := ⟨k - 1, by omega⟩
    simp only [cycle_meet.l0, meetS]
    rw [if_neg (by omega)]
  | succ d ih =>
    intro k j st h0 h1 hk hs1 hs2
    obtain ⟨k, rfl⟩ : ∃ q, k = q + 1 := ⟨k - 1, by omega⟩
    have l8 := v.l8
    obtain ⟨g1, g2, g3, g4⟩ := v.good j h0 (by omega)
    obtain ⟨g, m, s', e1, e2, e3, e4, e5, e6, e7, e8, e9, e10⟩ := lc_facts st (rd L j) hs1 g1
    have hst : cycle_meet.l0 (k + 1) P (day + st) st L (L.length : Int) j L O = cycle_meet.l1 k P (day + st) st j (rd L j) 0 L (L.length : Int) j L O := by
      conv => lhs; simp only [cycle_meet.l0]
      rw [if_pos (by omega), if_pos h0, if_pos (by omega)]
    have hin := meet_inner L O P v day hd1 hd2 hP hp j st m g s' h0 (by omega) e1 e2 e3 e4 e5 e6 e7 e8 e10 hs1 (by omega) (m - 1).toNat k 0 (by omega) (by omega) (by omega) (by rw [Int.zero_add, Int.one_mul]; omega)
    rw [show (0 : Int) + 1 = 1 from rfl, Int.one_mul] at hin
    simp only [meetS]
    rw [hst, e9]
    by_cases c : day + m * st ≤ 4000000
    · rw [if_pos c] at hin
      have hm1 : 1 ≤ m * st := by have := Int.mul_pos (show 0 < m by omega) (show 0 < st by omega); omega
      rw [hin, if_neg (by omega)]
      have hmn : mn (m * st) 1099511627776 = m * st := by unfold mn; split <;> omega
      rw [hmn]
      exact ih _ (j + 1) (m * st) (by omega) (by omega) (by omega) hm1 c
    · rw [if_neg c] at hin
      rw [hin, if_pos (by omega)]
theorem CycleMeets : ephemeriskeep1_CycleMeets.Pure := by
  intro L O a hL hO ha
  refine ⟨100002, ?_⟩
  obtain ⟨x, ex, x1, x2, -⟩ := cut_is a (-3000000) 4000000 (by omega) (by omega) (by omega) (by omega)
  have v2 : Valid [4, 6] [0, 0] := by
    refine ⟨by decide, by decide, rfl, fun i h0 h1 => ?_⟩
    have : i = 0 ∨ i = 1 := by simp at h1; omega
    rcases this with rfl | rfl <;> exact ⟨by decide, by decide, by decide, by decide⟩
  unfold ephemeriskeep1_CycleMeets.f
  rw [full_is 100002 _ _ (by omega) v2, show fullS [4, 6] ([4, 6] : List Int).length 0 1 = some 12 from by decide]
  simp only [Option.bind_some]
  rw [if_pos trivial]
  simp only [ephemeriskeep1_CycleMeets.j0]
  rw [if_neg (by decide), ex]
  simp only [Option.bind_some]
  rcases ck_is 100001 L O (by omega) with ⟨v, ck⟩ | ⟨_, c, hc, ck⟩
  · obtain ⟨P, eP, hP, hp⟩ := of_loop L O v x (by omega) (by omega) L.length 100001 0 [] (by omega) (by omega) (by have := v.l8; omega) rfl (fun i a b => by omega)
    have l8 := v.l8
    have hpb : ∀ i : Int, 0 ≤ i → i < L.length → 0 ≤ rd P i ∧ rd P i < rd L i := by
      intro i h0 h1
      rw [hp i h0 h1]
      have := (v.good i h0 h1).1
      exact ⟨Int.emod_nonneg _ (by omega), Int.emod_lt_of_pos _ (by omega)⟩
    have eOf : cycle_Of.f 100001 L O x = some (P, 0) := by
      unfold cycle_Of.f
      rw [ck]
      simp only [Option.bind_some]
      rw [if_pos trivial, check_ok x (by omega) (by omega)]
      simp only [Option.bind_some]
      rw [if_pos trivial, eP]
    have eN1 : cycle_Next.f 100001 L O x P = some (x, 0) := by
      unfold cycle_Next.f
      rw [begin_is 100001 L O P v hP hpb x (by omega) (by omega) (by omega)]
      simp only [Option.bind_some]
      obtain ⟨st, e, hst⟩ := meet_here L O P v x (by omega) (by omega) hP hp L.length 100001 0 1 (by omega) (by omega) (by omega) (by omega) (by omega)
      rw [if_pos trivial]
      unfold cycle_meet.f
      rw [e]
      simp only [Option.bind_some]
      rw [if_neg (by omega)]
    have eN2 : cycle_Next.f 100000 L O (x + 1) P = some (match meetS L x L.length 0 1 with | some S => (x + S, 0) | none => (0, 6)) := by
      unfold cycle_Next.f
      rw [begin_is 100000 L O P v hP hpb (x + 1) (by omega) (by omega) (by omega)]
      simp only [Option.bind_some]
      rw [if_pos trivial]
      unfold cycle_meet.f
      rw [meet_next L O P v x (by omega) (by omega) hP hp L.length 100000 0 1 (by omega) (by omega) (by omega) (by omega) (by omega)]
      simp only [Option.bind_some]
      cases hm : meetS L x L.length 0 1 with
      | none => simp
      | some S =>
        have := ((meet_full L x L.length (by omega) L.length 0 1 (by omega) (by omega) (fun i a b => (v.good i a b).1) (by omega) (by omega)).1 S hm).2.2
        simp only []
        rw [if_neg (by omega)]
    rw [eOf]
    simp only [Option.bind_some]
    rw [if_pos trivial, eN1]
    simp only [Option.bind_some]
    rw [if_pos trivial]
    simp only [ephemeriskeep1_CycleMeets.j1]
    rw [if_neg (by simp), full_is 100000 L O (by omega) v]
    simp only [Option.bind_some]
    rw [w64 (n := x + 1) (by omega) (by omega), eN2]
    simp only [Option.bind_some]
    have mf := meet_full L x L.length (by omega) L.length 0 1 (by omega) (by omega) (fun i a b => (v.good i a b).1) (by omega) (by omega)
    cases hm : meetS L x L.length 0 1 with
    | none =>
      cases hf : fullS L L.length 0 1 with
      | none => simp
      | some S =>
        have h1 := mf.2 hm S hf
        have h2 : S ≤ 1000000000 ∨ 1000000000 < S := by omega
        simp only []
        rw [if_pos trivial]
        by_cases z : wrap64 (x + S) > 4000000
        · rw [if_pos z]; rfl
        · rw [if_neg z]
          exfalso
          have key : ∀ (d : Nat) (j acc T : Int), acc ≤ 1000000000 → fullS L d j acc = some T → T ≤ 1000000000 := by
            intro d
            induction d with
            | zero => intro j acc T h e; simp [fullS] at e; omega
            | succ d ih =>
              intro j acc T h e
              simp only [fullS] at e
              by_cases c : lc acc (rd L j) > 1000000000
              · rw [if_pos c] at e; cases e
              · rw [if_neg c] at e; exact ih _ _ _ (by omega) e
          have := key _ _ _ S (by omega) hf
          rw [w64 (by omega) (by omega)] at z
          omega
    | some S =>
      obtain ⟨h1, h2, h3⟩ := mf.1 S hm
      rw [h1]
      simp only []
      rw [if_pos trivial, w64 (by omega) (by omega), if_neg (by omega), if_pos trivial]
      simp
  · have eOf : cycle_Of.f 100001 L O x = some ([], c) := by
      unfold cycle_Of.f
      rw [ck]
      simp only [Option.bind_some]
      rw [if_neg hc]
    rw [eOf]
    simp only [Option.bind_some]
    rw [if_neg hc]

end Go.Proofs.Ytboddbgmgcjppaa.Pure
