/- For every valid recurrence that begins early enough, and two adjoining ranges from its first day on: the days of the one and then those of the other are the days of both together, and with a count there are at most so many. No conditions. -/
import Derived.Test.YtidjaahpabppaaaQRecurPartsx21
import Derived.Test.YtidjaahpabppaaaStmtRecurParts
set_option linter.unusedVariables false
set_option linter.unusedSimpArgs false
namespace Go.Proofs.Ytidjaahpabppaaa.Pure
open Go.RowKit Go.Proofs.Ytidjaahpabppaaa.QRecurParts Go.Proofs.YtidjaahpabppaaaW.PrintWords Go.Proofs.YtidjaahpabppaaaW.PrintLast

theorem lit64 {a : Int} (h : (Go.Lit.int .i64 a).wf = true) : -9223372036854775808 ≤ a ∧ a ≤ 9223372036854775807 := by
  simp only [Go.Lit.wf, Bool.and_eq_true, decide_eq_true_eq] at h
  have h1 : Go.IntKind.i64.min = -9223372036854775808 := by decide
  have h2 : Go.IntKind.i64.max = 9223372036854775807 := by decide
  omega
theorem w64 {n : Int} (h1 : -9223372036854775808 ≤ n) (h2 : n ≤ 9223372036854775807) : wrap64 n = n := by unfold wrap64; omega
theorem w64r (n : Int) : -9223372036854775808 ≤ wrap64 n ∧ wrap64 n ≤ 9223372036854775807 := by unfold wrap64; omega
theorem tmod_pos {a b : Int} (ha : 0 ≤ a) : Int.tmod a b = a % b := by rw [Int.tmod_eq_emod, if_pos (Or.inl ha)]; simp
theorem tdiv_pos {a b : Int} (ha : 0 ≤ a) : Int.tdiv a b = a / b := by rw [Int.tdiv_eq_ediv, if_pos (Or.inl ha)]; simp
theorem tmod_bounds {a b : Int} (hb : 0 < b) : -b < Int.tmod a b ∧ Int.tmod a b < b ∧ (0 ≤ a → 0 ≤ Int.tmod a b) ∧ (a ≤ 0 → Int.tmod a b ≤ 0) := by
  rw [Int.tmod_eq_emod]
  have h1 := Int.emod_nonneg a (show b ≠ 0 by omega)
  have h2 := Int.emod_lt_of_pos a hb
  split
  · rename_i h
    refine ⟨by omega, by omega, fun _ => by omega, fun h0 => ?_⟩
    rcases h with h | h
    · have : a = 0 := by omega
      subst this; simp
    · rw [Int.emod_eq_zero_of_dvd h]; simp
  · refine ⟨by omega, by omega, fun _ => by omega, fun _ => by omega⟩
/-- tmod and tdiv against emod and ediv, for a positive divisor. -/
theorem tmod_cases {a b : Int} (hb : 0 < b) : (Int.tmod a b = a % b ∧ Int.tdiv a b = a / b ∧ (0 ≤ a ∨ a % b = 0)) ∨ (a < 0 ∧ a % b ≠ 0 ∧ Int.tmod a b = a % b - b ∧ Int.tdiv a b = a / b + 1) := by
  by_cases h : 0 ≤ a ∨ b ∣ a
  · left
    refine ⟨by rw [Int.tmod_eq_emod, if_pos h]; simp, by rw [Int.tdiv_eq_ediv, if_pos h]; simp, h.imp id Int.emod_eq_zero_of_dvd⟩
  · right
    have h' := not_or.mp h
    refine ⟨by omega, fun e => h'.2 (Int.dvd_of_emod_eq_zero e), ?_, ?_⟩
    · rw [Int.tmod_eq_emod, if_neg h]; omega
    · rw [Int.tdiv_eq_ediv, if_neg h, Int.sign_eq_one_of_pos hb]
theorem ediv_range {a b : Int} (hb : 0 < b) (h1 : -9223372036854775808 ≤ a) (h2 : a ≤ 9223372036854775807) : -9223372036854775808 ≤ a / b ∧ a / b ≤ 9223372036854775807 := by
  have e := Int.mul_ediv_add_emod a b
  have l := Int.emod_nonneg a (show b ≠ 0 by omega)
  have u := Int.emod_lt_of_pos a hb
  constructor
  · by_cases c : 0 ≤ a
    · have := Int.ediv_nonneg c (show 0 ≤ b by omega); omega
    · have : a ≤ a / b := by
        rw [Int.le_ediv_iff_mul_le hb]
        have : a * b ≤ a * 1 := Int.mul_le_mul_of_nonpos_left (by omega) (by omega)
        omega
      omega
  · by_cases c : 0 ≤ a
    · have : a / b ≤ a := Int.ediv_le_self b c
      omega
    · have : a / b ≤ 0 := by
        have : a / b < 0 := Int.ediv_neg_of_neg_of_pos (by omega) hb
        omega
      omega
/-- the remainder from 0 on, as the program computes it twice. -/
theorem mod_twice {a b : Int} (hb : 0 < b) (hb2 : b ≤ 4611686018427387904) : Int.tmod (wrap64 ((Int.tmod a b) + b)) b = a % b := by
  have hc := tmod_bounds (a := a) hb
  have h1 := Int.emod_nonneg a (show b ≠ 0 by omega)
  have h2 := Int.emod_lt_of_pos a hb
  rw [w64 (by omega) (by omega)]
  rw [tmod_pos (by omega)]
  rcases tmod_cases (a := a) hb with ⟨e, _, _⟩ | ⟨_, _, e, _⟩
  · rw [e]; simp
  · rw [e, show a % b - b + b = a % b from by omega]; simp

theorem mod_is (a b : Int) (hb : 0 < b) (hb2 : b ≤ 4611686018427387904) : ephemeriskeep1_mod.f a b = some (a % b) := by
  unfold ephemeriskeep1_mod.f
  rw [if_neg (by omega), mod_twice hb hb2]
theorem cut_is (a l n : Int) (hn : 0 < n) (hn2 : n ≤ 4611686018427387904) (h1 : -4611686018427387904 ≤ l) (h2 : l ≤ 4611686018427387904) :
    ∃ r, ephemeriskeep1_cut.f a l n = some r ∧ l ≤ r ∧ r < l + n ∧ r = l + a % n := by
  have h3 := Int.emod_nonneg a (show n ≠ 0 by omega)
  have h4 := Int.emod_lt_of_pos a hn
  refine ⟨l + a % n, ?_, by omega, by omega, rfl⟩
  unfold ephemeriskeep1_cut.f
  rw [mod_is a n hn hn2, Option.bind_some, w64 (by omega) (by omega)]

def lp (y : Int) : Int := if y % 4 = 0 then (if y % 100 = 0 then (if y % 400 = 0 then 1 else 0) else 1) else 0
theorem lp_cases (y : Int) : lp y = 0 ∨ lp y = 1 := by unfold lp; split <;> (try split) <;> (try split) <;> simp
def bg (y : Int) : Int := 365 * (y - 1) + (y - 1) / 4 - (y - 1) / 100 + (y - 1) / 400
theorem bg_succ (y : Int) : bg (y + 1) = bg y + 365 + lp y := by
  unfold bg lp
  split <;> (try split) <;> (try split) <;> omega
def len (y m : Int) : Int := if m = 2 then 28 + lp y else if m = 4 then 30 else if m = 6 then 30 else if m = 9 then 30 else if m = 11 then 30 else 31
def cumT (m : Int) : Int := if m ≤ 1 then 0 else if m = 2 then 31 else if m = 3 then 59 else if m = 4 then 90 else if m = 5 then 120 else if m = 6 then 151 else if m = 7 then 181 else if m = 8 then 212 else if m = 9 then 243 else if m = 10 then 273 else if m = 11 then 304 else if m = 12 then 334 else 365
def cum (y m : Int) : Int := cumT m + if m ≤ 2 then 0 else lp y
theorem months12 {m : Int} (h1 : 1 ≤ m) (h2 : m ≤ 12) : m = 1 ∨ m = 2 ∨ m = 3 ∨ m = 4 ∨ m = 5 ∨ m = 6 ∨ m = 7 ∨ m = 8 ∨ m = 9 ∨ m = 10 ∨ m = 11 ∨ m = 12 := by omega
theorem cum_one (y : Int) : cum y 1 = 0 := by simp [cum, cumT]
theorem cum_end (y : Int) : cum y 13 = 365 + lp y := by simp [cum, cumT]
theorem cum_succ (y m : Int) (h1 : 1 ≤ m) (h2 : m ≤ 12) : cum y (m + 1) = cum y m + len y m := by
  rcases months12 h1 h2 with h | h | h | h | h | h | h | h | h | h | h | h <;> subst h <;> simp [cum, cumT, len] <;> omega
theorem len_lo (y m : Int) : 28 ≤ len y m ∧ len y m ≤ 31 := by
  have := lp_cases y
  unfold len
  split <;> (try split) <;> (try split) <;> (try split) <;> (try split) <;> omega
theorem cum_mono (y : Int) (n : Nat) : ∀ m : Int, 1 ≤ m → m + n ≤ 13 → cum y m + 28 * n ≤ cum y (m + n) := by
  induction n with
  | zero => intro m _ _; simp
  | succ n ih =>
    intro m h1 h2
    have h3 := ih m h1 (by omega)
    have h4 := cum_succ y (m + n) (by omega) (by omega)
    have h5 := len_lo y (m + n)
    rw [show m + ((n + 1 : Nat) : Int) = m + n + 1 from by omega]
    omega
theorem cum_lt (y m m' : Int) (h1 : 1 ≤ m) (h2 : m < m') (h3 : m' ≤ 13) : cum y m + len y m ≤ cum y m' := by
  have e := cum_succ y m h1 (by omega)
  have := cum_mono y (m' - (m + 1)).toNat (m + 1) (by omega) (by omega)
  rw [show m + 1 + ((m' - (m + 1)).toNat : Int) = m' from by omega] at this
  omega
theorem bg_mono (n : Nat) : ∀ y : Int, bg y + 365 * n ≤ bg (y + n) := by
  induction n with
  | zero => intro y; simp
  | succ n ih =>
    intro y
    have h1 := ih y
    have h2 := bg_succ (y + n)
    have h3 := lp_cases (y + n)
    rw [show y + ((n + 1 : Nat) : Int) = y + n + 1 from by omega]
    omega
theorem bg_lt (y y' : Int) (h : y < y') : bg y + 365 + lp y ≤ bg y' := by
  have e := bg_succ y
  have := bg_mono (y' - (y + 1)).toNat (y + 1)
  rw [show y + 1 + ((y' - (y + 1)).toNat : Int) = y' from by omega] at this
  omega
/-- a date of the calendar, and the day on which it is. -/
def Valid (y m d : Int) : Prop := 1 ≤ m ∧ m ≤ 12 ∧ 1 ≤ d ∧ d ≤ len y m
def dayOf (y m d : Int) : Int := bg y + cum y m + d
theorem day_year (y m d : Int) (h : Valid y m d) : bg y < dayOf y m d ∧ dayOf y m d ≤ bg (y + 1) := by
  obtain ⟨h1, h2, h3, h4⟩ := h
  have e := cum_lt y m 13 h1 (by omega) (by omega)
  have e2 := cum_end y
  have e3 := bg_succ y
  have e4 : 0 ≤ cum y m := by
    by_cases c : m = 1
    · subst c; rw [cum_one]; omega
    · have := cum_lt y 1 m (by omega) (by omega) (by omega); have := cum_one y; have := len_lo y 1; omega
  unfold dayOf; omega
theorem date_unique {y m d y' m' d' : Int} (h : Valid y m d) (h' : Valid y' m' d') (e : dayOf y m d = dayOf y' m' d') : y = y' ∧ m = m' ∧ d = d' := by
  have a := day_year y m d h
  have a' := day_year y' m' d' h'
  have ey : y = y' := by
    by_cases c : y < y'
    · have := bg_lt y y' c; have := bg_succ y; omega
    · by_cases c' : y' < y
      · have := bg_lt y' y c'; have := bg_succ y'; omega
      · omega
  subst ey
  obtain ⟨h1, h2, h3, h4⟩ := h
  obtain ⟨h1', h2', h3', h4'⟩ := h'
  unfold dayOf at e
  have em : m = m' := by
    by_cases c : m < m'
    · have := cum_lt y m m' h1 c (by omega); omega
    · by_cases c' : m' < m
      · have := cum_lt y m' m h1' c' (by omega); omega
      · omega
  subst em
  exact ⟨rfl, rfl, by omega⟩
/-- the day behind a date. -/
theorem date_next {y m d y' m' d' : Int} (h : Valid y m d) (h' : Valid y' m' d') (e : dayOf y' m' d' = dayOf y m d + 1) :
    (y' = y ∧ m' = m ∧ d' = d + 1) ∨ (d' = 1 ∧ y' = y ∧ m' = m + 1 ∧ d = len y m) ∨ (d' = 1 ∧ y' = y + 1 ∧ m' = 1 ∧ m = 12 ∧ d = len y m) := by
  obtain ⟨h1, h2, h3, h4⟩ := h
  by_cases c : d < len y m
  · left
    exact date_unique h' (show Valid y m (d + 1) from ⟨h1, h2, by omega, by omega⟩) (by rw [e]; unfold dayOf; omega)
  · have hd : d = len y m := by omega
    right
    by_cases c2 : m < 12
    · left
      have l := len_lo y (m + 1)
      have := date_unique h' (show Valid y (m + 1) 1 from ⟨by omega, by omega, by omega, by omega⟩) (by rw [e]; unfold dayOf; rw [cum_succ y m h1 h2]; omega)
      exact ⟨this.2.2, this.1, this.2.1, hd⟩
    · right
      have hm : m = 12 := by omega
      have l := len_lo (y + 1) 1
      have e1 := cum_succ y 12 (by omega) (by omega)
      have e2 := cum_end y
      have := date_unique h' (show Valid (y + 1) 1 1 from ⟨by omega, by omega, by omega, by omega⟩) (by rw [e]; unfold dayOf; rw [bg_succ, cum_one, hd, hm]; rw [show (12 : Int) + 1 = 13 from rfl] at e1; omega)
      exact ⟨this.2.2, this.1, this.2.1, hm, hd⟩

theorem div_is (k : Nat) (a b : Int) (hb : 0 < b) (h1 : -9223372036854775808 ≤ a) (h2 : a ≤ 9223372036854775807) (hb2 : b ≤ 4611686018427387904) :
    whole_Div.f (k + 1) a b = some (a / b, a % b, 0) := by
  have hj : whole_Div.j0 (k + 1) a b false = some (a / b, a % b, 0) := by
    have hm1 := Int.emod_nonneg a (show b ≠ 0 by omega)
    have hm2 := Int.emod_lt_of_pos a hb
    have hr := ediv_range hb h1 h2
    simp only [whole_Div.j0]
    rw [if_neg (by decide), if_neg (by omega)]
    rcases tmod_cases (a := a) hb with ⟨e, e', c⟩ | ⟨c, c', e, e'⟩
    · rw [e, e', w64 hr.1 hr.2]
      by_cases z : a % b = 0
      · rw [if_pos z, z]
      · rw [if_neg z, if_neg]
        have hd1 : decide (a % b < 0) = false := decide_eq_false (by omega)
        have hd2 : decide (b < 0) = false := decide_eq_false (by omega)
        rw [hd1, hd2]; decide
    · rw [e, e']
      have hr2 : a / b < 0 := Int.ediv_neg_of_neg_of_pos c hb
      rw [w64 (by omega) (by omega)]
      have hd1 : decide (a % b - b < 0) = true := decide_eq_true (by omega)
      have hd2 : decide (b < 0) = false := decide_eq_false (by omega)
      rw [if_neg (by omega), hd1, hd2, if_pos (by decide), w64 (by omega) (by omega), w64 (by omega) (by omega)]
      congr 2
      · omega
      · congr 1; omega
  unfold whole_Div.f
  rw [if_neg (by omega)]
  by_cases c : a = -9223372036854775808
  · rw [if_pos c]
    have : (b == -1) = false := beq_eq_false_iff_ne.mpr (by omega)
    rw [this]; exact hj
  · rw [if_neg c]; exact hj

theorem wmod_is (a b : Int) (hb : 0 < b) (hb2 : b ≤ 4611686018427387904) : whole_Mod.f a b = some (a % b) := by
  have hc := tmod_bounds (a := a) hb
  have h1 := Int.emod_nonneg a (show b ≠ 0 by omega)
  have h2 := Int.emod_lt_of_pos a hb
  unfold whole_Mod.f
  rw [if_neg (by omega)]
  rcases tmod_cases (a := a) hb with ⟨e, _, c⟩ | ⟨c, c', e, _⟩
  · rw [e, if_neg (by omega)]
  · rw [e, if_pos (by omega), w64 (by omega) (by omega)]
    congr 1; omega

theorem check_ok (d : Int) (h1 : -4000000 ≤ d) (h2 : d ≤ 4000000) : line_Check.f d = some 0 := by
  unfold line_Check.f
  rw [if_neg (by omega), if_neg (by omega)]
theorem check_bad (d : Int) (h : d < -4000000 ∨ 4000000 < d) : line_Check.f d = some 3 := by
  unfold line_Check.f
  by_cases c : d < -4000000
  · rw [if_pos c]
  · rw [if_neg c, if_pos (by omega)]

theorem tmod_zero (a n : Int) (hn : 0 < n) : (Int.tmod a n = 0) = (a % n = 0) := by
  apply propext
  rcases tmod_cases (a := a) hn with ⟨e, _, _⟩ | ⟨_, h, e, _⟩
  · rw [e]
  · have := Int.emod_lt_of_pos a hn
    rw [e]; constructor
    · intro h2; omega
    · intro h2; exact absurd h2 h
theorem leap_is (y : Int) : line_leap.f y = some (lp y == 1) := by
  unfold line_leap.f lp
  simp only [tmod_zero _ 4 (by omega), tmod_zero _ 100 (by omega)]
  split
  · split
    · congr 1
      rw [Bool.eq_iff_iff, beq_iff_eq, tmod_zero _ 400 (by omega)]
      split <;> simp_all
    · simp
  · simp
theorem length_is (y m : Int) : line_length.f y m = some (len y m) := by
  unfold line_length.f len
  rw [leap_is]
  split
  · simp only [Option.bind_some]
    rcases lp_cases y with h | h <;> rw [h] <;> simp
  · repeat' split
    all_goals rfl
theorem begin_is (k : Nat) (y : Int) (h1 : -100000 ≤ y) (h2 : y ≤ 100000) : line_begin.f (k + 1) y = some (bg y) := by
  unfold line_begin.f bg
  rw [w64 (n := y - 1) (by omega) (by omega), div_is k (y - 1) 4 (by omega) (by omega) (by omega) (by omega)]
  simp only [Option.bind_some]
  rw [div_is k (y - 1) 100 (by omega) (by omega) (by omega) (by omega)]
  simp only [Option.bind_some]
  rw [div_is k (y - 1) 400 (by omega) (by omega) (by omega) (by omega)]
  simp only [Option.bind_some]
  rw [w64 (n := 365 * (y - 1)) (by omega) (by omega), w64 (n := 365 * (y - 1) + (y - 1) / 4) (by omega) (by omega), w64 (n := 365 * (y - 1) + (y - 1) / 4 - (y - 1) / 100) (by omega) (by omega), w64 (by omega) (by omega)]
theorem bg_range (y : Int) (h1 : -100000 ≤ y) (h2 : y ≤ 100000) : -40000000 ≤ bg y ∧ bg y ≤ 40000000 := by unfold bg; omega

theorem date_l2 (d : Nat) : ∀ (k : Nat) (y r m : Int), 1 ≤ m → m ≤ 12 → 13 - m ≤ d → d < k → 1 ≤ r → cum y m + r ≤ cum y 13 → -100000 ≤ y → y ≤ 100000 →
    ∃ M D, line_Date.l2 k y r m = some (y, M, D, 0) ∧ Valid y M D ∧ cum y M + D = cum y m + r := by
  induction d with
  | zero => intro k y r m h1 h2 hd hk; omega
  | succ d ih =>
    intro k y r m h1 h2 hd hk hr hc hy1 hy2
    obtain ⟨k, rfl⟩ : ∃ q, k = q + 1 := ⟨k - 1, by omega⟩
    have l := len_lo y m
    have e := cum_succ y m h1 h2
    have ce := cum_end y
    have lpc := lp_cases y
    have c0 : 0 ≤ cum y m := by
      by_cases z : m = 1
      · subst z; rw [cum_one]; omega
      · have := cum_lt y 1 m (by omega) (by omega) (by omega); have := len_lo y 1; have := cum_one y; omega
    simp only [line_Date.l2]
    rw [length_is]
    simp only [Option.bind_some]
    by_cases c : r > len y m
    · rw [if_pos c]
      have hm : m < 12 := by
        by_cases z : m = 12
        · subst z; rw [show (12 : Int) + 1 = 13 from rfl] at e; omega
        · omega
      rw [w64 (n := r - len y m) (by omega) (by omega), w64 (n := m + 1) (by omega) (by omega)]
      obtain ⟨M, D, e1, e2, e3⟩ := ih k y (r - len y m) (m + 1) (by omega) (by omega) (by omega) (by omega) (by omega) (by omega) hy1 hy2
      exact ⟨M, D, e1, e2, by omega⟩
    · rw [if_neg c]
      exact ⟨m, r, rfl, ⟨h1, h2, hr, by omega⟩, rfl⟩
theorem date_l1 (k : Nat) (y x : Int) (h1 : -50000 ≤ y) (h2 : y ≤ 50000) (hb : bg y < x) (hx : x ≤ bg (y + 1)) :
    ∃ M D, line_Date.l1 (k + 20) x y = some (y, M, D, 0) ∧ Valid y M D ∧ dayOf y M D = x := by
  have r := bg_range y (by omega) (by omega)
  have r2 := bg_range (y + 1) (by omega) (by omega)
  have s := bg_succ y
  have c1 := cum_one y
  have ce := cum_end y
  simp only [line_Date.l1]
  rw [w64 (n := y + 1) (by omega) (by omega), begin_is _ _ (by omega) (by omega)]
  simp only [Option.bind_some]
  rw [if_neg (by omega), begin_is _ _ (by omega) (by omega)]
  simp only [Option.bind_some]
  rw [w64 (by omega) (by omega)]
  obtain ⟨M, D, e1, e2, e3⟩ := date_l2 12 (k + 19) y (x - bg y) 1 (by omega) (by omega) (by omega) (by omega) (by omega) (by omega) (by omega) (by omega)
  exact ⟨M, D, e1, e2, by unfold dayOf; omega⟩
theorem date_l1s (k : Nat) (y x : Int) (h1 : -50000 ≤ y) (h2 : y ≤ 50000) (hx : bg (y + 1) < x) : line_Date.l1 (k + 2) x y = line_Date.l1 (k + 1) x (y + 1) := by
  conv => lhs; simp only [line_Date.l1]
  rw [w64 (n := y + 1) (by omega) (by omega), begin_is _ _ (by omega) (by omega)]
  simp only [Option.bind_some]
  rw [if_pos hx]
  simp only [line_Date.l1]
theorem date_is (k : Nat) (x : Int) (h1 : -4000000 ≤ x) (h2 : x ≤ 4000000) : ∃ Y M D, line_Date.f (k + 30) x = some (Y, M, D, 0) ∧ Valid Y M D ∧ dayOf Y M D = x ∧ -11000 ≤ Y ∧ Y ≤ 11000 := by
  unfold line_Date.f
  rw [check_ok x h1 h2]
  simp only [Option.bind_some]
  rw [if_pos trivial, w64 (n := x - 1) (by omega) (by omega), w64 (n := 400 * (x - 1)) (by omega) (by omega), div_is _ _ 146097 (by omega) (by omega) (by omega) (by omega)]
  simp only [Option.bind_some]
  rw [w64 (by omega) (by omega)]
  generalize hn : 400 * (x - 1) / 146097 = n
  have b1 : bg n < x := by unfold bg; omega
  have b3 : x ≤ bg (n + 3) := by unfold bg; omega
  have hn1 : -10960 ≤ n := by omega
  have hn2 : n ≤ 10960 := by omega
  clear hn
  have go : ∀ j y, -10970 ≤ y → y ≤ 10970 → bg y < x → x ≤ bg (y + 3) → ∃ Y M D, line_Date.l1 (j + 23) x y = some (Y, M, D, 0) ∧ Valid Y M D ∧ dayOf Y M D = x ∧ -11000 ≤ Y ∧ Y ≤ 11000 := by
    intro j y y1 y2 hb hx
    by_cases c : x ≤ bg (y + 1)
    · obtain ⟨M, D, e1, e2, e3⟩ := date_l1 (j + 3) y x (by omega) (by omega) hb c
      exact ⟨y, M, D, e1, e2, e3, by omega, by omega⟩
    · rw [date_l1s (j + 21) y x (by omega) (by omega) (by omega)]
      by_cases c2 : x ≤ bg (y + 1 + 1)
      · obtain ⟨M, D, e1, e2, e3⟩ := date_l1 (j + 2) (y + 1) x (by omega) (by omega) (by omega) c2
        exact ⟨y + 1, M, D, e1, e2, e3, by omega, by omega⟩
      · rw [date_l1s (j + 20) (y + 1) x (by omega) (by omega) (by omega)]
        obtain ⟨M, D, e1, e2, e3⟩ := date_l1 (j + 1) (y + 1 + 1) x (by omega) (by omega) (by omega) (by rw [show y + 1 + 1 + 1 = y + 3 from by omega]; exact hx)
        exact ⟨y + 1 + 1, M, D, e1, e2, e3, by omega, by omega⟩
  simp only [line_Date.l0]
  rw [begin_is _ _ (by omega) (by omega)]
  simp only [Option.bind_some]
  by_cases c : bg (n + 1) ≥ x
  · rw [if_pos c, w64 (by omega) (by omega), show n + 1 - 1 = n from by omega, begin_is _ _ (by omega) (by omega)]
    simp only [Option.bind_some]
    rw [if_neg (by omega)]
    exact go (k + 5) n (by omega) (by omega) b1 b3
  · rw [if_neg c]
    exact go (k + 6) (n + 1) (by omega) (by omega) (by omega) (by have := bg_succ (n + 3); have := lp_cases (n + 3); rw [show n + 1 + 3 = n + 3 + 1 from by omega]; omega)

theorem date_any (k : Nat) (hk : 30 ≤ k) (x : Int) (h1 : -4000000 ≤ x) (h2 : x ≤ 4000000) : ∃ Y M D, line_Date.f k x = some (Y, M, D, 0) ∧ Valid Y M D ∧ dayOf Y M D = x ∧ -11000 ≤ Y ∧ Y ≤ 11000 := by
  obtain ⟨q, rfl⟩ : ∃ q, k = q + 30 := ⟨k - 30, by omega⟩
  exact date_is q x h1 h2

theorem rlength_is (y m d : Int) : recur_length.f y m d = some (len y m) := by
  unfold recur_length.f len lp
  simp only [tmod_zero _ 4 (by omega), tmod_zero _ 100 (by omega), tmod_zero _ 400 (by omega)]
  split
  · split
    · split
      · split <;> rfl
      · rfl
    · rfl
  · repeat' split
    all_goals rfl
theorem index_some (l : List Int) (x : Int) (hl : l.length ≤ 1000000) (d : Nat) : ∀ (k : Nat) (j : Int), 0 ≤ j → j + d = l.length → d < k → ∃ r, slices_Index_int_int.l0 k l x (l.length : Int) j = some r := by
  induction d with
  | zero =>
    intro k j h0 h1 hk
    obtain ⟨k, rfl⟩ : ∃ q, k = q + 1 := ⟨k - 1, by omega⟩
    refine ⟨-1, ?_⟩
    simp only [slices_Index_int_int.l0]
    rw [if_neg (by omega)]
  | succ d ih =>
    intro k j h0 h1 hk
    obtain ⟨k, rfl⟩ : ∃ q, k = q + 1 := ⟨k - 1, by omega⟩
    by_cases c : x = rd l j
    · refine ⟨j, ?_⟩
      simp only [slices_Index_int_int.l0]
      rw [if_pos (by omega), if_pos h0, if_pos (by omega), if_pos c]
    · obtain ⟨r, e⟩ := ih k (j + 1) (by omega) (by omega) (by omega)
      refine ⟨r, ?_⟩
      simp only [slices_Index_int_int.l0]
      rw [if_pos (by omega), if_pos h0, if_pos (by omega), if_neg c, w64 (n := j + 1) (by omega) (by omega), e]
theorem contains_some (k : Nat) (l : List Int) (x : Int) (hl : l.length ≤ 1000000) (hk : l.length < k) : ∃ b, slices_Contains_int_int.f k l x = some b := by
  unfold slices_Contains_int_int.f slices_Index_int_int.f
  obtain ⟨r, e⟩ := index_some l x hl l.length k 0 (by omega) (by omega) hk
  rw [e]
  exact ⟨_, rfl⟩
theorem list_some (l : List Int) (lo hi : Int) (hl : l.length ≤ 31) (d : Nat) : ∀ (k : Nat) (j : Int), 0 ≤ j → j + d = l.length → 2 * d + 50 < k → ∃ r, recur_list.l0 k l lo hi l (l.length : Int) j = some r := by
  induction d with
  | zero =>
    intro k j h0 h1 hk
    obtain ⟨k, rfl⟩ : ∃ q, k = q + 1 := ⟨k - 1, by omega⟩
    refine ⟨0, ?_⟩
    simp only [recur_list.l0]
    rw [if_neg (by omega)]
  | succ d ih =>
    intro k j h0 h1 hk
    obtain ⟨k, rfl⟩ : ∃ q, k = q + 2 := ⟨k - 2, by omega⟩
    have hj : ∀ b : Bool, ∃ r, recur_list.j1 (k + 1) l lo hi j (rd l j) l (l.length : Int) j b = some r := by
      intro b
      simp only [recur_list.j1]
      split
      · exact ⟨_, rfl⟩
      · first | rw [if_pos h0, if_pos (by omega)] | rw [if_pos (by omega)]
        obtain ⟨c, e⟩ := contains_some k (l.take (j : Int).toNat) (rd l j) (by rw [List.length_take]; omega) (by rw [List.length_take]; omega)
        rw [e]
        simp only [Option.bind_some]
        split
        · exact ⟨_, rfl⟩
        · rw [w64 (n := j + 1) (by omega) (by omega)]
          exact ih k (j + 1) (by omega) (by omega) (by omega)
    simp only [recur_list.l0]
    rw [if_pos (by omega), if_pos h0, if_pos (by omega)]
    split
    · exact hj _
    · split
      · exact hj _
      · split
        · exact hj _
        · exact hj _
theorem rlist_some (k : Nat) (l : List Int) (lo hi : Int) (hk : 150 < k) : ∃ c, recur_list.f k l lo hi = some c ∧ (c = 0 → l.length ≤ 31) := by
  unfold recur_list.f
  by_cases c : (l.length : Int) > 31
  · rw [if_pos c]; exact ⟨2, rfl, fun h => by omega⟩
  · rw [if_neg c]
    obtain ⟨r, e⟩ := list_some l lo hi (by omega) l.length k 0 (by omega) (by omega) (by omega)
    exact ⟨r, e, fun _ => by omega⟩
/-- What Check makes sure of. -/
structure VRec (Ev Fr Ct Un : Int) (W D M : List Int) : Prop where
  ev : 1 ≤ Ev ∧ Ev ≤ 1000
  fr : -4000000 ≤ Fr ∧ Fr ≤ Un
  un : Un ≤ 4000000
  ct : 0 ≤ Ct ∧ Ct ≤ 1000
  w : W.length ≤ 31
  d : D.length ≤ 31
  m : M.length ≤ 31
theorem rcheck_is (k : Nat) (U Ev Fr Ct Un : Int) (W D M : List Int) (hk : 200 < k) : ∃ c, recur_Check.f k U Ev Fr Ct Un W D M = some c ∧ (c = 0 → VRec Ev Fr Ct Un W D M) := by
  obtain ⟨k, rfl⟩ : ∃ q, k = q + 2 := ⟨k - 2, by omega⟩
  have j1 : ∀ b : Bool, ∃ c, recur_Check.j1 (k + 1) b U Ev Fr Ct Un W D M = some c ∧ (c = 0 → b = false ∧ W.length ≤ 31 ∧ D.length ≤ 31 ∧ M.length ≤ 31) := by
    intro b
    simp only [recur_Check.j1]
    cases b with
    | true => rw [if_pos rfl]; exact ⟨3, rfl, fun h => by omega⟩
    | false =>
      rw [if_neg (by decide)]
      obtain ⟨c1, e1, h1⟩ := rlist_some k W 0 6 (by omega)
      obtain ⟨c2, e2, h2⟩ := rlist_some k D (-31) 31 (by omega)
      obtain ⟨c3, e3, h3⟩ := rlist_some k M 1 12 (by omega)
      rw [e1]
      simp only [Option.bind_some]
      by_cases z1 : c1 = 0
      · rw [if_pos z1, e2]
        simp only [Option.bind_some]
        by_cases z2 : c2 = 0
        · rw [if_pos z2, e3]
          exact ⟨c3, rfl, fun z3 => ⟨by simp, h1 z1, h2 z2, h3 z3⟩⟩
        · rw [if_neg z2]; exact ⟨c2, rfl, fun h => absurd h z2⟩
      · rw [if_neg z1]; exact ⟨c1, rfl, fun h => absurd h z1⟩
  have bad : ∀ b : Bool, b = true → ∃ c, recur_Check.j1 (k + 1) b U Ev Fr Ct Un W D M = some c ∧ (c = 0 → VRec Ev Fr Ct Un W D M) := by
    intro b hb
    obtain ⟨c, e, h⟩ := j1 b
    exact ⟨c, e, fun z => by have := (h z).1; rw [hb] at this; cases this⟩
  have j0 : ∀ b : Bool, ∃ c, recur_Check.j0 (k + 2) b U Ev Fr Ct Un W D M = some c ∧ (c = 0 → VRec Ev Fr Ct Un W D M) := by
    intro b
    simp only [recur_Check.j0]
    cases b with
    | true => rw [if_pos rfl]; exact ⟨1, rfl, fun h => by omega⟩
    | false =>
      rw [if_neg (by decide)]
      by_cases c1 : Ev < 1
      · rw [if_pos c1]; exact bad _ rfl
      rw [if_neg c1]
      by_cases c2 : Ev > 1000
      · rw [if_pos c2]; exact bad _ rfl
      rw [if_neg c2]
      by_cases c3 : -4000000 ≤ Fr ∧ Fr ≤ 4000000
      rotate_left
      · rw [check_bad Fr (by omega)]
        simp only [Option.bind_some]
        rw [if_neg (by decide)]; exact bad _ rfl
      rw [check_ok Fr c3.1 c3.2]
      simp only [Option.bind_some]
      rw [if_pos trivial]
      by_cases c4 : -4000000 ≤ Un ∧ Un ≤ 4000000
      rotate_left
      · rw [check_bad Un (by omega)]
        simp only [Option.bind_some]
        rw [if_neg (by decide)]; exact bad _ rfl
      rw [check_ok Un c4.1 c4.2]
      simp only [Option.bind_some]
      rw [if_pos trivial]
      by_cases c5 : Un < Fr
      · rw [if_pos c5]; exact bad _ rfl
      rw [if_neg c5]
      by_cases c6 : Ct < 0
      · rw [if_pos c6]; exact bad _ rfl
      rw [if_neg c6]
      obtain ⟨c, e, h⟩ := j1 (decide (Ct > 1000))
      refine ⟨c, e, fun z => ?_⟩
      obtain ⟨h0, h1, h2, h3⟩ := h z
      have := of_decide_eq_false h0
      exact ⟨by omega, by omega, by omega, by omega, h1, h2, h3⟩
  unfold recur_Check.f
  split
  · exact j0 _
  · exact j0 _
theorem explicit_is (k : Nat) (U Ev Fr Ct Un : Int) (W D M : List Int) (v : VRec Ev Fr Ct Un W D M) (hk : 50 < k) : ∃ W' D' M', recur_explicit.f k U Ev Fr Ct Un W D M = some (U, Ev, Fr, Ct, Un, W', D', M') ∧ W'.length ≤ 31 ∧ D'.length ≤ 31 ∧ M'.length ≤ 31 := by
  obtain ⟨k, rfl⟩ : ∃ q, k = q + 1 := ⟨k - 1, by omega⟩
  have hw := v.w; have hd := v.d; have hm := v.m
  have j0 : ∀ b : Bool, ∃ W' D' M', recur_explicit.j0 (k + 1) b U Ev Fr Ct Un W D M = some (U, Ev, Fr, Ct, Un, W', D', M') ∧ W'.length ≤ 31 ∧ D'.length ≤ 31 ∧ M'.length ≤ 31 := by
    intro b
    simp only [recur_explicit.j0]
    split
    · exact ⟨W, D, M, rfl, hw, hd, hm⟩
    · obtain ⟨Y, Mo, Da, e, _⟩ := date_any k (by omega) Fr v.fr.1 (by have := v.fr; have := v.un; omega)
      rw [e]
      simp only [Option.bind_some]
      rw [wmod_is _ 7 (by omega) (by omega)]
      simp only [Option.bind_some]
      split
      · exact ⟨_, D, M, rfl, by simp, hd, hm⟩
      · split
        · exact ⟨W, _, M, rfl, hw, by simp, hm⟩
        · split
          · split
            · exact ⟨W, _, _, rfl, hw, by simp, by simp⟩
            · exact ⟨W, _, M, rfl, hw, by simp, hm⟩
          · exact ⟨W, D, M, rfl, hw, hd, hm⟩
  unfold recur_explicit.f slices_Clone__int_int.f
  rw [if_pos (by omega), if_pos (by omega), if_pos (by omega)]
  simp only [Option.bind_some]
  split
  · exact j0 _
  · exact j0 _
theorem week_some (k : Nat) (x : Int) : ∃ r, recur_week.f (k + 1) x = some r := by
  have h := w64r (x - 1)
  unfold recur_week.f
  rw [div_is k (wrap64 (x - 1)) 7 (by omega) h.1 h.2 (by omega)]
  exact ⟨_, rfl⟩
theorem fits_some (k : Nat) (U Ev Fr Ct Un : Int) (W D M : List Int) (fy fm fd y m d day n : Int) (he : Ev ≠ 0) (hw : W.length ≤ 31) (hd : D.length ≤ 31) (hm : M.length ≤ 31) (hk : 100 < k) : ∃ b, recur_fits.f k U Ev Fr Ct Un W D M fy fm fd y m d day n = some b := by
  obtain ⟨k, rfl⟩ : ∃ q, k = q + 5 := ⟨k - 5, by omega⟩
  have j3 : ∀ b : Bool, ∃ r, recur_fits.j3 (k + 2) n b U Ev Fr Ct Un W D M y m d = some r := by
    intro b
    simp only [recur_fits.j3]
    split
    · exact ⟨_, rfl⟩
    · split
      · exact ⟨_, rfl⟩
      · obtain ⟨c, e⟩ := contains_some (k + 1) D d (by omega) (by omega)
        rw [e]
        simp only [Option.bind_some]
        split
        · exact ⟨_, rfl⟩
        · obtain ⟨c, e⟩ := contains_some (k + 1) D (wrap64 (wrap64 (d - n) - 1)) (by omega) (by omega)
          rw [e]
          exact ⟨_, rfl⟩
  have j2 : ∀ b : Bool, ∃ r, recur_fits.j2 (k + 3) day n b U Ev Fr Ct Un W D M y m d = some r := by
    intro b
    simp only [recur_fits.j2]
    split
    · exact ⟨_, rfl⟩
    · split
      · rw [wmod_is _ 7 (by omega) (by omega)]
        simp only [Option.bind_some]
        obtain ⟨c, e⟩ := contains_some (k + 2) W (wrap64 (day - 1) % 7) (by omega) (by omega)
        rw [e]
        simp only [Option.bind_some]
        exact j3 _
      · exact j3 _
  have j1 : ∀ x : Int, ∃ r, recur_fits.j1 (k + 4) day n x U Ev Fr Ct Un W D M y m d = some r := by
    intro x
    simp only [recur_fits.j1]
    rw [if_neg he]
    split
    · split
      · obtain ⟨c, e⟩ := contains_some (k + 3) M m (by omega) (by omega)
        rw [e]
        simp only [Option.bind_some]
        exact j2 _
      · exact j2 _
    · exact ⟨_, rfl⟩
  have j0 : ∀ b : Bool, ∃ r, recur_fits.j0 (k + 5) day n b U Ev Fr Ct Un W D M fy fm fd y m d = some r := by
    intro b
    simp only [recur_fits.j0]
    split
    · exact ⟨_, rfl⟩
    · split
      · exact j1 _
      · split
        · obtain ⟨a, e⟩ := week_some (k + 3) day
          obtain ⟨c, e'⟩ := week_some (k + 3) Fr
          rw [e]
          simp only [Option.bind_some]
          rw [e']
          simp only [Option.bind_some]
          exact j1 _
        · split
          · exact j1 _
          · split
            · exact j1 _
            · exact j1 _
  unfold recur_fits.f
  split
  · exact j0 _
  · exact j0 _
/-- The date of a day. -/
structure Dt (Y M D x : Int) : Prop where
  v : Valid Y M D
  e : dayOf Y M D = x
def dts (x : Int) : Int × Int × Int × Int := (line_Date.f 30 x).getD (0, 0, 0, 0)
theorem dts_is {Y M D x : Int} (h : Dt Y M D x) (h1 : -4000000 ≤ x) (h2 : x ≤ 4000000) : dts x = (Y, M, D, 0) := by
  obtain ⟨Y', M', D', e, v, e', _⟩ := date_is 0 x h1 h2
  unfold dts
  rw [e]
  obtain ⟨rfl, rfl, rfl⟩ := date_unique v h.v (by rw [e', h.e])
  rfl
theorem dt_next {Y M D x : Int} (h : Dt Y M D x) (c : D + 1 ≤ len Y M) : Dt Y M (D + 1) (x + 1) := by
  have v := h.v
  have e := h.e
  unfold Valid at v
  refine ⟨⟨v.1, v.2.1, by omega, c⟩, ?_⟩
  unfold dayOf at e ⊢
  omega
section
variable {U Ev Fr Ct Un : Int} {W D M : List Int} {fy fm fd : Int}
/-- Whether a day fits. -/
def Fi (U Ev Fr Ct Un : Int) (W D M : List Int) (fy fm fd x : Int) : Bool := (recur_fits.f 200 U Ev Fr Ct Un W D M fy fm fd (dts x).1 (dts x).2.1 (dts x).2.2.1 x (len (dts x).1 (dts x).2.1)).getD false
theorem fi_is (k : Nat) (he : Ev ≠ 0) (hw : W.length ≤ 31) (hd : D.length ≤ 31) (hm : M.length ≤ 31) (hk : 200 ≤ k) {Y Mo Da x : Int} (h : Dt Y Mo Da x) (h1 : -4000000 ≤ x) (h2 : x ≤ 4000000) :
    recur_fits.f k U Ev Fr Ct Un W D M fy fm fd Y Mo Da x (len Y Mo) = some (Fi U Ev Fr Ct Un W D M fy fm fd x) := by
  unfold Fi
  rw [dts_is h h1 h2]
  obtain ⟨b, e⟩ := fits_some 200 U Ev Fr Ct Un W D M fy fm fd Y Mo Da x (len Y Mo) he hw hd hm (by omega)
  rw [e]
  exact at_rounds (g := fun k => recur_fits.f k U Ev Fr Ct Un W D M fy fm fd Y Mo Da x (len Y Mo)) (fun k => recur_fits.mono _ _ _ _ _ _ _ _ _ _ _ _ _ _ _ _ k) hk e
end
/-- The days from a day on, so many steps, up to a count, from a bound on. -/
def go (F : Int → Bool) (ct fr : Int) : Nat → Int → Int → List Int
  | 0, _, _ => []
  | n + 1, x, c => if F x = true then (if ct > 0 ∧ c + 1 > ct then [] else (if x ≥ fr then x :: go F ct fr n (x + 1) (c + 1) else go F ct fr n (x + 1) (c + 1))) else go F ct fr n (x + 1) c
theorem go_len (F : Int → Bool) (ct fr : Int) (n : Nat) : ∀ x c, (go F ct fr n x c).length ≤ n := by
  induction n with
  | zero => intro x c; simp [go]
  | succ n ih =>
    intro x c
    simp only [go]
    split
    · split
      · simp
      · split
        · have := ih (x + 1) (c + 1); simp; omega
        · have := ih (x + 1) (c + 1); omega
    · have := ih (x + 1) c; omega
section
variable {U Ev Fr Ct Un : Int} {W D M : List Int} {fy fm fd : Int}
theorem days_loop (he : Ev ≠ 0) (hw : W.length ≤ 31) (hd : D.length ≤ 31) (hm : M.length ≤ 31) (from_ tt : Int) (n : Nat) : ∀ (k : Nat) (out : List Int) (c x Y Mo Da : Int), Dt Y Mo Da x → -4000000 ≤ x → x + n = (mn tt Un) + 1 → mn tt Un ≤ 3999999 → out.length + n ≤ 1000000 → 0 ≤ c → c + n ≤ 1000000 → 3 * n + 400 < k →
    recur_Days.l0 k from_ tt out c (len Y Mo) x U Ev Fr Ct Un W D M fy fm fd Y Mo Da = some (out ++ go (Fi U Ev Fr Ct Un W D M fy fm fd) Ct from_ n x c, 0) := by
  induction n with
  | zero =>
    intro k out c x Y Mo Da h h1 hx ht ho c0 c1 hk
    obtain ⟨k, rfl⟩ : ∃ q, k = q + 1 := ⟨k - 1, by omega⟩
    simp only [recur_Days.l0]
    rw [if_neg (by omega)]
    simp [go]
  | succ n ih =>
    intro k out c x Y Mo Da h h1 hx ht ho c0 c1 hk
    obtain ⟨k, rfl⟩ : ∃ q, k = q + 3 := ⟨k - 3, by omega⟩
    have l5 := len_lo Y Mo
    have hv := h.v
    unfold Valid at hv
    have j5 : ∀ (k : Nat) (out : List Int) (c : Int), 3 * n + 401 < k → out.length + n ≤ 1000000 → 0 ≤ c → c + n ≤ 1000000 → recur_Days.j5 k from_ tt out c (len Y Mo) x U Ev Fr Ct Un W D M fy fm fd Y Mo Da = some (out ++ go (Fi U Ev Fr Ct Un W D M fy fm fd) Ct from_ n (x + 1) c, 0) := by
      intro k out c hk ho c0 c1
      obtain ⟨k, rfl⟩ : ∃ q, k = q + 1 := ⟨k - 1, by omega⟩
      simp only [recur_Days.j5]
      rw [w64 (n := x + 1) (by omega) (by omega), w64 (n := Da + 1) (by omega) (by omega)]
      by_cases cd : Da + 1 > len Y Mo
      · rw [if_pos cd]
        have em : mn (x + 1) 4000000 = x + 1 := by unfold mn; rw [if_neg (by omega)]
        obtain ⟨Y', M', D', e, v, e', _⟩ := date_any k (by omega) (x + 1) (by omega) (by omega)
        rw [em, e]
        simp only [Option.bind_some]
        rw [rlength_is]
        simp only [Option.bind_some]
        exact ih k out c (x + 1) Y' M' D' ⟨v, e'⟩ (by omega) (by omega) ht ho c0 c1 (by omega)
      · rw [if_neg cd]
        exact ih k out c (x + 1) Y Mo (Da + 1) (dt_next h (by omega)) (by omega) (by omega) ht ho c0 c1 (by omega)
    simp only [recur_Days.l0]
    rw [if_pos (by omega), fi_is (k + 2) he hw hd hm (by omega) h h1 (by omega)]
    simp only [Option.bind_some, go]
    by_cases cf : Fi U Ev Fr Ct Un W D M fy fm fd x = true
    · rw [if_pos cf, if_pos cf, w64 (n := c + 1) (by omega) (by omega)]
      have j4 : ∀ b : Bool, b = decide (Ct > 0 ∧ c + 1 > Ct) → recur_Days.j4 (k + 2) from_ tt out (c + 1) (len Y Mo) x b U Ev Fr Ct Un W D M fy fm fd Y Mo Da = some (out ++ (if Ct > 0 ∧ c + 1 > Ct then [] else (if x ≥ from_ then x :: go (Fi U Ev Fr Ct Un W D M fy fm fd) Ct from_ n (x + 1) (c + 1) else go (Fi U Ev Fr Ct Un W D M fy fm fd) Ct from_ n (x + 1) (c + 1))), 0) := by
        intro b hb
        simp only [recur_Days.j4]
        by_cases cc : Ct > 0 ∧ c + 1 > Ct
        · rw [hb, decide_eq_true cc, if_pos rfl, if_pos cc]; simp
        · rw [hb, decide_eq_false cc, if_neg (by decide), if_neg cc]
          by_cases cx : x ≥ from_
          · rw [if_pos cx, if_pos cx, if_pos (by omega), j5 (k + 1) (out ++ [x]) (c + 1) (by omega) (by simp; omega) (by omega) (by omega)]
            simp
          · rw [if_neg cx, if_neg cx]
            exact j5 (k + 1) out (c + 1) (by omega) (by omega) (by omega) (by omega)
      by_cases ct : Ct > 0
      · rw [if_pos ct]
        refine j4 _ ?_
        rw [decide_eq_decide]
        omega
      · rw [if_neg ct]
        exact j4 false (by symm; rw [decide_eq_false_iff_not]; omega)
    · rw [if_neg cf, if_neg cf]
      exact j5 (k + 2) out c (by omega) (by omega) (by omega) (by omega)
end
theorem days_is (k : Nat) (U Ev Fr Ct Un : Int) (W D M W' D' M' : List Int) (fy fm fd : Int) (v : VRec Ev Fr Ct Un W D M) (hc : ∀ k, 250 < k → recur_Check.f k U Ev Fr Ct Un W D M = some 0) (hx : ∀ k, 100 < k → recur_explicit.f k U Ev Fr Ct Un W D M = some (U, Ev, Fr, Ct, Un, W', D', M'))
    (hw : W'.length ≤ 31) (hd : D'.length ≤ 31) (hm : M'.length ≤ 31) (hf : Dt fy fm fd Fr) (from_ tt : Int) (h1 : Fr ≤ from_) (h2 : from_ ≤ tt) (h3 : tt ≤ 3999999) (h4 : tt ≤ Fr + 40000) (h5 : tt - from_ ≤ 3000) (hk : 200000 < k) (hn : mn tt Un + 1 - (if Ct > 0 then Fr else from_) ≤ 50000) :
    recur_Days.f k U Ev Fr Ct Un W D M from_ tt = some (go (Fi U Ev Fr Ct Un W' D' M' fy fm fd) Ct from_ (mn tt Un + 1 - (if Ct > 0 then Fr else from_)).toNat (if Ct > 0 then Fr else from_) 0, 0) := by
  have hfr := v.fr; have hun := v.un; have hev := v.ev
  obtain ⟨k, rfl⟩ : ∃ q, k = q + 3 := ⟨k - 3, by omega⟩
  have mn1 : mn tt Un ≤ 3999999 := by unfold mn; split <;> omega
  have loop : ∀ s : Int, s = (if Ct > 0 then Fr else from_) → recur_Days.j2 (k + 1) from_ tt s U Ev Fr Ct Un W' D' M' = some (go (Fi U Ev Fr Ct Un W' D' M' fy fm fd) Ct from_ (mn tt Un + 1 - (if Ct > 0 then Fr else from_)).toNat (if Ct > 0 then Fr else from_) 0, 0) := by
    intro s hs
    have hs1 : Fr ≤ s ∧ s ≤ from_ := by rw [hs]; split <;> omega
    simp only [recur_Days.j2]
    obtain ⟨Y1, M1, D1, e1, v1, e1', _⟩ := date_any k (by omega) Fr (by omega) (by omega)
    obtain ⟨Y2, M2, D2, e2, v2, e2', _⟩ := date_any k (by omega) s (by omega) (by omega)
    rw [e1]
    simp only [Option.bind_some]
    rw [e2]
    simp only [Option.bind_some]
    rw [rlength_is]
    simp only [Option.bind_some]
    obtain ⟨rfl, rfl, rfl⟩ := date_unique v1 hf.v (by rw [e1', hf.e])
    by_cases c : s ≤ mn tt Un
    · have := days_loop (U := U) (Fr := Fr) (Ct := Ct) (Un := Un) (fy := Y1) (fm := M1) (fd := D1) (show Ev ≠ 0 by omega) hw hd hm from_ tt (mn tt Un + 1 - s).toNat k [] 0 s Y2 M2 D2 ⟨v2, e2'⟩ (by omega) (by omega) mn1 (by rw [← hs] at hn; simp; omega) (by omega) (by rw [← hs] at hn; omega) (by rw [← hs] at hn; omega)
      rw [this, ← hs]
      simp
    · rw [← hs, show (mn tt Un + 1 - s).toNat = 0 from by omega]
      obtain ⟨k, rfl⟩ : ∃ q, k = q + 1 := ⟨k - 1, by omega⟩
      simp only [go, recur_Days.l0]
      rw [if_neg (by omega)]
  unfold recur_Days.f
  rw [hc (k + 3) (by omega)]
  simp only [Option.bind_some]
  rw [if_pos trivial, check_ok from_ (by omega) (by omega)]
  simp only [Option.bind_some]
  rw [if_pos trivial, check_ok tt (by omega) (by omega)]
  simp only [Option.bind_some, recur_Days.j0]
  rw [if_neg (by decide), if_neg (by omega), w64 (n := Fr + 40000) (by omega) (by omega), if_neg (by omega), w64 (n := tt - from_) (by omega) (by omega), decide_eq_false (by omega)]
  simp only [recur_Days.j1]
  rw [if_neg (by decide), hx (k + 1) (by omega)]
  simp only [Option.bind_some]
  by_cases ct : Ct > 0
  · rw [if_pos ct]
    exact loop Fr (by rw [if_pos ct])
  · rw [if_neg ct]
    have em : mx from_ Fr = from_ := by unfold mx; rw [if_neg (by omega)]
    rw [em]
    exact loop from_ (by rw [if_neg ct])

/-- The days that are listed, whatever the bound. -/
def sel (F : Int → Bool) (ct : Int) : Nat → Int → Int → List Int
  | 0, _, _ => []
  | n + 1, x, c => if F x = true then (if ct > 0 ∧ c + 1 > ct then [] else x :: sel F ct n (x + 1) (c + 1)) else sel F ct n (x + 1) c
theorem go_sel (F : Int → Bool) (ct fr : Int) (n : Nat) : ∀ x c, go F ct fr n x c = (sel F ct n x c).filter (fun y => decide (fr ≤ y)) := by
  induction n with
  | zero => intro x c; rfl
  | succ n ih =>
    intro x c
    simp only [go, sel]
    by_cases c1 : F x = true
    · rw [if_pos c1, if_pos c1]
      by_cases c2 : ct > 0 ∧ c + 1 > ct
      · rw [if_pos c2, if_pos c2]; rfl
      · rw [if_neg c2, if_neg c2, List.filter_cons, ih]
        by_cases c3 : fr ≤ x
        · rw [if_pos c3, if_pos (decide_eq_true c3)]
        · rw [if_neg c3, if_neg (by simpa using c3)]
    · rw [if_neg c1, if_neg c1]; exact ih _ _
theorem sel_mem (F : Int → Bool) (ct : Int) (n : Nat) : ∀ x c y, y ∈ sel F ct n x c → x ≤ y ∧ y < x + n := by
  induction n with
  | zero => intro x c y h; simp [sel] at h
  | succ n ih =>
    intro x c y h
    simp only [sel] at h
    split at h
    · split at h
      · simp at h
      · rcases List.mem_cons.1 h with rfl | h
        · omega
        · have := ih _ _ _ h; omega
    · have := ih _ _ _ h; omega
theorem sel_up (F : Int → Bool) (ct : Int) (n : Nat) : ∀ x c, (sel F ct n x c).Pairwise (· < ·) := by
  induction n with
  | zero => intro x c; simp [sel]
  | succ n ih =>
    intro x c
    simp only [sel]
    split
    · split
      · simp
      · refine List.pairwise_cons.mpr ⟨fun y h => ?_, ih _ _⟩
        have := sel_mem F ct n _ _ _ h; omega
    · exact ih _ _
theorem sel_len (F : Int → Bool) (ct : Int) (h0 : 0 < ct) (n : Nat) : ∀ x c, c ≤ ct → ((sel F ct n x c).length : Int) ≤ ct - c := by
  induction n with
  | zero => intro x c h; simp [sel]; omega
  | succ n ih =>
    intro x c h
    simp only [sel]
    split
    · split
      · simp; omega
      · have := ih (x + 1) (c + 1) (by omega); simp; omega
    · exact ih _ _ h
theorem sel_low (F : Int → Bool) (ct t : Int) (n : Nat) : ∀ (m : Nat) x c, m ≤ n → x + m = t + 1 → (sel F ct n x c).filter (fun y => decide (y ≤ t)) = sel F ct m x c := by
  induction n with
  | zero =>
    intro m x c h h1
    obtain rfl : m = 0 := by omega
    rfl
  | succ n ih =>
    intro m x c h h1
    cases m with
    | zero =>
      have e : sel F ct 0 x c = [] := rfl
      rw [e, List.filter_eq_nil_iff]
      intro y hy
      have := sel_mem F ct _ _ _ _ hy
      simp; omega
    | succ m =>
      simp only [sel]
      by_cases c1 : F x = true
      · rw [if_pos c1, if_pos c1]
        by_cases c2 : ct > 0 ∧ c + 1 > ct
        · rw [if_pos c2, if_pos c2]; rfl
        · rw [if_neg c2, if_neg c2, List.filter_cons, if_pos (decide_eq_true (by omega)), ih m (x + 1) (c + 1) (by omega) (by omega)]
      · rw [if_neg c1, if_neg c1]; exact ih m (x + 1) c (by omega) (by omega)
theorem sel_any (F : Int → Bool) (ct : Int) (h : ¬ ct > 0) (n : Nat) : ∀ x c c', sel F ct n x c = sel F ct n x c' := by
  induction n with
  | zero => intro x c c'; rfl
  | succ n ih =>
    intro x c c'
    simp only [sel]
    rw [if_neg (show ¬ (ct > 0 ∧ c + 1 > ct) by omega), if_neg (show ¬ (ct > 0 ∧ c' + 1 > ct) by omega), ih (x + 1) (c + 1) (c' + 1), ih (x + 1) c c']
theorem sel_app (F : Int → Bool) (ct : Int) (h : ¬ ct > 0) (m n : Nat) : ∀ x c c', sel F ct (m + n) x c = sel F ct m x c ++ sel F ct n (x + m) c' := by
  induction m with
  | zero => intro x c c'; simp [sel]; exact sel_any F ct h n x c c'
  | succ m ih =>
    intro x c c'
    rw [show m + 1 + n = (m + n) + 1 from by omega]
    simp only [sel]
    have e : x + ((m + 1 : Nat) : Int) = x + 1 + m := by omega
    simp only [if_neg (show ¬ (ct > 0 ∧ c + 1 > ct) by omega)]
    rw [ih (x + 1) (c + 1) c', ih (x + 1) c c', e]
    split <;> rfl
theorem filter_all (l : List Int) (fr : Int) (h : ∀ y, y ∈ l → fr ≤ y) : l.filter (fun y => decide (fr ≤ y)) = l := by
  rw [List.filter_eq_self]
  intro y hy
  exact decide_eq_true (h y hy)
theorem filter_parts (l : List Int) (t : Int) (h : l.Pairwise (· < ·)) : l.filter (fun y => decide (y ≤ t)) ++ l.filter (fun y => decide (t + 1 ≤ y)) = l := by
  induction l with
  | nil => rfl
  | cons a r ih =>
    have hp := List.pairwise_cons.mp h
    rw [List.filter_cons, List.filter_cons]
    by_cases c : a ≤ t
    · rw [if_pos (decide_eq_true c), if_neg (by simp; omega), List.cons_append, ih hp.2]
    · rw [if_neg (by simpa using c), if_pos (decide_eq_true (by omega))]
      have e1 : r.filter (fun y => decide (y ≤ t)) = [] := by
        rw [List.filter_eq_nil_iff]
        intro y hy
        have := hp.1 y hy
        simp; omega
      rw [e1, List.nil_append, filter_all r (t + 1) (fun y hy => by have := hp.1 y hy; omega)]
/-- The days of adjoining ranges. -/
theorem parts_go (F : Int → Bool) (ct Fr Un a b : Int) (ha : 0 ≤ a) (hb : 1 ≤ b) (hu : Fr ≤ Un) :
    go F ct Fr (mn (Fr + a) Un + 1 - (if ct > 0 then Fr else Fr)).toNat (if ct > 0 then Fr else Fr) 0 ++ go F ct (Fr + a + 1) (mn (Fr + a + b) Un + 1 - (if ct > 0 then Fr else Fr + a + 1)).toNat (if ct > 0 then Fr else Fr + a + 1) 0
      = go F ct Fr (mn (Fr + a + b) Un + 1 - (if ct > 0 then Fr else Fr)).toNat (if ct > 0 then Fr else Fr) 0 := by
  have m1 : mn (Fr + a) Un = if Un < Fr + a then Un else Fr + a := rfl
  have m2 : mn (Fr + a + b) Un = if Un < Fr + a + b then Un else Fr + a + b := rfl
  rw [ite_self]
  generalize hN1 : (mn (Fr + a) Un + 1 - Fr).toNat = N1
  generalize hN2 : (mn (Fr + a + b) Un + 1 - Fr).toNat = N2
  have low : ∀ n c, ∀ y, y ∈ sel F ct n Fr c → Fr ≤ y := fun n c y hy => (sel_mem F ct n Fr c y hy).1
  rw [go_sel, go_sel, go_sel, filter_all _ Fr (low _ _), filter_all _ Fr (low _ _)]
  by_cases c : ct > 0
  · rw [if_pos c, hN2]
    have e := filter_parts (sel F ct N2 Fr 0) (Fr + a) (sel_up F ct N2 Fr 0)
    by_cases c2 : Un < Fr + a
    · have : N1 = N2 := by
        rw [m1, if_pos c2] at hN1
        rw [m2, if_pos (by omega)] at hN2
        omega
      rw [this]
      have e1 : (sel F ct N2 Fr 0).filter (fun y => decide (y ≤ Fr + a)) = sel F ct N2 Fr 0 := by
        rw [List.filter_eq_self]
        intro y hy
        have := sel_mem F ct N2 Fr 0 y hy
        refine decide_eq_true ?_
        rw [m2, if_pos (by omega)] at hN2
        omega
      rw [e1] at e
      exact e
    · have hm : mn (Fr + a + b) Un ≥ Fr + a := by rw [m2]; split <;> omega
      rw [m1, if_neg c2] at hN1
      rw [sel_low F ct (Fr + a) N2 N1 Fr 0 (by omega) (by omega)] at e
      exact e
  · rw [if_neg c, filter_all _ (Fr + a + 1) (fun y hy => (sel_mem F ct _ _ _ y hy).1)]
    by_cases c2 : Un < Fr + a + 1
    · have e0 : mn (Fr + a + b) Un = Un := by rw [m2, if_pos (by omega)]
      have : N1 = N2 := by
        rw [e0] at hN2
        rw [m1] at hN1
        split at hN1 <;> omega
      rw [this, e0, show (Un + 1 - (Fr + a + 1)).toNat = 0 from by omega]
      simp [sel]
    · rw [m1, if_neg (by omega)] at hN1
      have hm : mn (Fr + a + b) Un ≥ Fr + a + 1 := by rw [m2]; split <;> omega
      generalize hN3 : (mn (Fr + a + b) Un + 1 - (Fr + a + 1)).toNat = N3
      have : N2 = N1 + N3 := by omega
      rw [this, sel_app F ct c N1 N3 Fr 0 0, show Fr + (N1 : Int) = Fr + a + 1 from by omega]
theorem equal_loop (l : List Int) (hl : l.length ≤ 1000000) (d : Nat) : ∀ (k : Nat) (j : Int), 0 ≤ j → j + d = l.length → d < k → slices_Equal_int_int.l0 k l l (l.length : Int) j = some true := by
  induction d with
  | zero =>
    intro k j h0 h1 hk
    obtain ⟨k, rfl⟩ : ∃ q, k = q + 1 := ⟨k - 1, by omega⟩
    simp only [slices_Equal_int_int.l0]
    rw [if_neg (by omega)]
  | succ d ih =>
    intro k j h0 h1 hk
    obtain ⟨k, rfl⟩ : ∃ q, k = q + 1 := ⟨k - 1, by omega⟩
    simp only [slices_Equal_int_int.l0]
    rw [if_pos (by omega), if_pos h0, if_pos (by omega), if_pos (by omega), if_pos trivial, w64 (n := j + 1) (by omega) (by omega)]
    exact ih k (j + 1) (by omega) (by omega) (by omega)
theorem equal_is (k : Nat) (l : List Int) (hl : l.length ≤ 1000000) (hk : l.length < k) : slices_Equal_int_int.f k l l = some true := by
  unfold slices_Equal_int_int.f
  rw [if_pos rfl]
  exact equal_loop l hl l.length k 0 (by omega) (by omega) hk
theorem few_is (l : List Int) (hl : l.length ≤ 1000000) : ephemeriskeep1_few.f l = some l := by
  unfold ephemeriskeep1_few.f
  simp only [Option.bind_some]
  rw [if_pos (by simp; omega)]
  simp
theorem daily_is (k : Nat) (hk : 300 ≤ k) : recur_Days.f k 1 3 1 0 9 [] [] [] 1 30 = some ([1, 4, 7], 0) :=
  at_rounds (g := fun k => recur_Days.f k 1 3 1 0 9 [] [] [] 1 30) (fun k => recur_Days.mono _ _ _ _ _ _ _ _ _ _ k) hk (by decide +kernel)
theorem RecurParts : ephemeriskeep1_RecurParts.Pure := by
  intro U Ev Fr Ct Un W D M a0 b0 wU wEv wFr wCt wUn hW hD hM ha0 hb0
  obtain ⟨K, hK⟩ : ∃ K : Nat, 300000 < K := ⟨300001, by omega⟩
  refine ⟨K + 3, ?_⟩
  unfold ephemeriskeep1_RecurParts.f
  rw [daily_is (K + 3) (by omega)]
  simp only [Option.bind_some]
  rw [if_pos trivial, if_pos (by decide), if_pos (by decide)]
  simp only [ephemeriskeep1_RecurParts.j0]
  rw [if_neg (by decide)]
  obtain ⟨c, e, h⟩ := rcheck_is 250 U Ev Fr Ct Un W D M (by omega)
  have hc : ∀ k, 250 ≤ k → recur_Check.f k U Ev Fr Ct Un W D M = some c := fun k hk => at_rounds (g := fun k => recur_Check.f k U Ev Fr Ct Un W D M) (fun k => recur_Check.mono _ _ _ _ _ _ _ _ k) hk e
  have out : ∀ b : Bool, b = true → ephemeriskeep1_RecurParts.j1 (K + 2) a0 b0 b U Ev Fr Ct Un W D M = some true := by
    intro b hb
    simp only [ephemeriskeep1_RecurParts.j1]
    rw [if_pos hb]
  rw [hc (K + 2) (by omega)]
  simp only [Option.bind_some]
  by_cases z : c = 0
  rotate_left
  · rw [if_neg z]; exact out true rfl
  subst z
  rw [if_pos rfl]
  by_cases cf : Fr > 3900000
  · exact out _ (decide_eq_true cf)
  rw [decide_eq_false cf]
  have v := h rfl
  have hfr := v.fr; have hun := v.un
  obtain ⟨W', D', M', ex, hw, hd, hm⟩ := explicit_is 100 U Ev Fr Ct Un W D M v (by omega)
  have hx : ∀ k, 100 < k → recur_explicit.f k U Ev Fr Ct Un W D M = some (U, Ev, Fr, Ct, Un, W', D', M') := fun k hk => at_rounds (g := fun k => recur_explicit.f k U Ev Fr Ct Un W D M) (fun k => recur_explicit.mono _ _ _ _ _ _ _ _ k) (by omega) ex
  obtain ⟨fy, fm, fd, _, vf, ef, _⟩ := date_is 0 Fr (by omega) (by omega)
  have hf : Dt fy fm fd Fr := ⟨vf, ef⟩
  simp only [ephemeriskeep1_RecurParts.j1]
  rw [if_neg (by decide)]
  obtain ⟨a, ea, a1, a2, _⟩ := cut_is a0 0 300 (by omega) (by omega) (by omega) (by omega)
  obtain ⟨b, eb, b1, b2, _⟩ := cut_is b0 1 300 (by omega) (by omega) (by omega) (by omega)
  rw [ea]
  simp only [Option.bind_some]
  rw [eb]
  simp only [Option.bind_some]
  rw [w64 (n := Fr + a) (by omega) (by omega), w64 (n := Fr + a + 1) (by omega) (by omega), w64 (n := Fr + a + b) (by omega) (by omega)]
  have mb : ∀ x y : Int, mn x y ≤ x := fun x y => by unfold mn; split <;> omega
  have hc' : ∀ k, 250 < k → recur_Check.f k U Ev Fr Ct Un W D M = some 0 := fun k hk => hc k (by omega)
  rw [days_is (K + 1) U Ev Fr Ct Un W D M W' D' M' fy fm fd v hc' hx hw hd hm hf Fr (Fr + a) (by omega) (by omega) (by omega) (by omega) (by omega) (by omega) (by rw [ite_self]; have := mb (Fr + a) Un; omega)]
  simp only [Option.bind_some]
  rw [days_is (K + 1) U Ev Fr Ct Un W D M W' D' M' fy fm fd v hc' hx hw hd hm hf (Fr + a + 1) (Fr + a + b) (by omega) (by omega) (by omega) (by omega) (by omega) (by omega) (by have := mb (Fr + a + b) Un; split <;> omega)]
  simp only [Option.bind_some]
  rw [days_is (K + 1) U Ev Fr Ct Un W D M W' D' M' fy fm fd v hc' hx hw hd hm hf Fr (Fr + a + b) (by omega) (by omega) (by omega) (by omega) (by omega) (by omega) (by rw [ite_self]; have := mb (Fr + a + b) Un; omega)]
  simp only [Option.bind_some]
  rw [if_pos trivial, if_pos trivial, if_pos trivial]
  have hp := parts_go (Fi U Ev Fr Ct Un W' D' M' fy fm fd) Ct Fr Un a b a1 b1 hfr.2
  have hlen := go_len (Fi U Ev Fr Ct Un W' D' M' fy fm fd) Ct Fr (mn (Fr + a + b) Un + 1 - (if Ct > 0 then Fr else Fr)).toNat (if Ct > 0 then Fr else Fr) 0
  have hlc : Ct ≠ 0 → ((go (Fi U Ev Fr Ct Un W' D' M' fy fm fd) Ct Fr (mn (Fr + a + b) Un + 1 - (if Ct > 0 then Fr else Fr)).toNat (if Ct > 0 then Fr else Fr) 0).length : Int) ≤ Ct := by
    intro hne
    have h0 := v.ct
    rw [go_sel]
    have l1 := List.length_filter_le (fun y => decide (Fr ≤ y)) (sel (Fi U Ev Fr Ct Un W' D' M' fy fm fd) Ct (mn (Fr + a + b) Un + 1 - (if Ct > 0 then Fr else Fr)).toNat (if Ct > 0 then Fr else Fr) 0)
    have l2 := sel_len (Fi U Ev Fr Ct Un W' D' M' fy fm fd) Ct (by omega) (mn (Fr + a + b) Un + 1 - (if Ct > 0 then Fr else Fr)).toNat (if Ct > 0 then Fr else Fr) 0 h0.1
    omega
  have hn2 : (mn (Fr + a + b) Un + 1 - (if Ct > 0 then Fr else Fr)).toNat ≤ 1000 := by rw [ite_self]; have := mb (Fr + a + b) Un; omega
  generalize go (Fi U Ev Fr Ct Un W' D' M' fy fm fd) Ct Fr (mn (Fr + a + b) Un + 1 - (if Ct > 0 then Fr else Fr)).toNat (if Ct > 0 then Fr else Fr) 0 = all at *
  generalize go (Fi U Ev Fr Ct Un W' D' M' fy fm fd) Ct Fr (mn (Fr + a) Un + 1 - (if Ct > 0 then Fr else Fr)).toNat (if Ct > 0 then Fr else Fr) 0 = x at *
  generalize go (Fi U Ev Fr Ct Un W' D' M' fy fm fd) Ct (Fr + a + 1) (mn (Fr + a + b) Un + 1 - (if Ct > 0 then Fr else Fr + a + 1)).toNat (if Ct > 0 then Fr else Fr + a + 1) 0 = y at *
  have hxy : x.length + y.length = all.length := by rw [← hp, List.length_append]
  rw [if_pos (by omega), hp, few_is all (by omega)]
  simp only [Option.bind_some]
  rw [equal_is (K + 1) all (by omega) (by omega)]
  simp only [Option.bind_some]
  rw [if_pos trivial]
  by_cases ct : Ct = 0
  · rw [if_pos ct]
  · rw [if_neg ct, decide_eq_true (hlc ct)]

end Go.Proofs.Ytidjaahpabppaaa.Pure
