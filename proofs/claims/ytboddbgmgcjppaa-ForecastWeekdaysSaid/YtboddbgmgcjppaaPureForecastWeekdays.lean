/- For every list of rules, every offset ahead of them and every year: where the changes of the year exist, each of them lies, by the local time ahead of it, on the weekday, in the week and month and at the time that its rule tells, and there is one for each rule. No conditions. -/
import Derived.Test.YtboddbgmgcjppaaQForecastWeekdaysx18
import Derived.Test.YtboddbgmgcjppaaStmtForecastWeekdays
set_option linter.unusedVariables false
set_option linter.unusedSimpArgs false
namespace Go.Proofs.Ytboddbgmgcjppaa.Pure
open Go.RowKit Go.Proofs.Ytboddbgmgcjppaa.QForecastWeekdays Go.Proofs.YtboddbgmgcjppaaW.PrintWords Go.Proofs.YtboddbgmgcjppaaW.PrintLast

theorem lit64 {a : Int} (h : (Go.Lit.int .i64 a).wf = true) : -9223372036854775808 ≤ a ∧ a ≤ 9223372036854775807 := by
  simp only [Go.Lit.wf, Bool.and_eq_true, decide_eq_true_eq] at h
  have h1 : Go.IntKind.i64.min = -9223372036854775808 := by decide
  have h2 : Go.IntKind.i64.max = 9223372036854775807 := by decide
  omega
theorem w64 {n : Int} (h1 : -9223372036854775808 ≤ n) (h2 : n ≤ 9223372036854775807) : wrap64 n = n := by unfold wrap64; omega
theorem w64r (n : Int) : -9223372036854775808 ≤ wrap64 n ∧ wrap64 n ≤ 9223372036854775807 := by unfold wrap64; omega
theorem tmod_pos {a b : Int} (ha : 0 ≤ a) : Int.tmod a b = a % b := by rw [Int.tmod_eq_emod, if_pos (Or.inl ha)]; simp
theorem tdiv_pos {a b : Int} (ha : 0 ≤ a) : Int.tdiv a b = a / b := by rw [Int.tdiv_eq_ediv, if_pos (Or.inl ha)]; simp
theorem tmod_bounds {a b : Int} (hb : 0 < b) : -b < Int.tmod a b ∧ Int.tmod a b < b ∧ (0 ≤ a → 0 ≤ Int.tmod a b) ∧ (a ≤ 0 → Int.tmod a b ≤ 0) := by
  rw [Int.tmod_eq_emod]
  have h1 := Int.emod_nonneg a (show b ≠ 0 by omega)
  have h2 := Int.emod_lt_of_pos a hb
  split
  · rename_i h
    refine ⟨by omega, by omega, fun _ => by omega, fun h0 => ?_⟩
    rcases h with h | h
    · have : a = 0 := by omega
      subst this; simp
    · rw [Int.emod_eq_zero_of_dvd h]; simp
  · refine ⟨by omega, by omega, fun _ => by omega, fun _ => by omega⟩
/-- tmod and tdiv against emod and ediv, for a positive divisor. -/
theorem tmod_cases {a b : Int} (hb : 0 < b) : (Int.tmod a b = a % b ∧ Int.tdiv a b = a / b ∧ (0 ≤ a ∨ a % b = 0)) ∨ (a < 0 ∧ a % b ≠ 0 ∧ Int.tmod a b = a % b - b ∧ Int.tdiv a b = a / b + 1) := by
  by_cases h : 0 ≤ a ∨ b ∣ a
  · left
    refine ⟨by rw [Int.tmod_eq_emod, if_pos h]; simp, by rw [Int.tdiv_eq_ediv, if_pos h]; simp, h.imp id Int.emod_eq_zero_of_dvd⟩
  · right
    have h' := not_or.mp h
    refine ⟨by omega, fun e => h'.2 (Int.dvd_of_emod_eq_zero e), ?_, ?_⟩
    · rw [Int.tmod_eq_emod, if_neg h]; omega
    · rw [Int.tdiv_eq_ediv, if_neg h, Int.sign_eq_one_of_pos hb]
theorem ediv_range {a b : Int} (hb : 0 < b) (h1 : -9223372036854775808 ≤ a) (h2 : a ≤ 9223372036854775807) : -9223372036854775808 ≤ a / b ∧ a / b ≤ 9223372036854775807 := by
  have e := Int.mul_ediv_add_emod a b
  have l := Int.emod_nonneg a (show b ≠ 0 by omega)
  have u := Int.emod_lt_of_pos a hb
  constructor
  · by_cases c : 0 ≤ a
    · have := Int.ediv_nonneg c (show 0 ≤ b by omega); omega
    · have : a ≤ a / b := by
        rw [Int.le_ediv_iff_mul_le hb]
        have : a * b ≤ a * 1 := Int.mul_le_mul_of_nonpos_left (by omega) (by omega)
        omega
      omega
  · by_cases c : 0 ≤ a
    · have : a / b ≤ a := Int.ediv_le_self b c
      omega
    · have : a / b ≤ 0 := by
        have : a / b < 0 := Int.ediv_neg_of_neg_of_pos (by omega) hb
        omega
      omega
/-- the remainder from 0 on, as the program computes it twice. -/
theorem mod_twice {a b : Int} (hb : 0 < b) (hb2 : b ≤ 4611686018427387904) : Int.tmod (wrap64 ((Int.tmod a b) + b)) b = a % b := by
  have hc := tmod_bounds (a := a) hb
  have h1 := Int.emod_nonneg a (show b ≠ 0 by omega)
  have h2 := Int.emod_lt_of_pos a hb
  rw [w64 (by omega) (by omega)]
  rw [tmod_pos (by omega)]
  rcases tmod_cases (a := a) hb with ⟨e, _, _⟩ | ⟨_, _, e, _⟩
  · rw [e]; simp
  · rw [e, show a % b - b + b = a % b from by omega]; simp

theorem mod_is (a b : Int) (hb : 0 < b) (hb2 : b ≤ 4611686018427387904) : ephemeriskeep1_mod.f a b = some (a % b) := by
  unfold ephemeriskeep1_mod.f
  rw [if_neg (by omega), mod_twice hb hb2]
theorem cut_is (a l n : Int) (hn : 0 < n) (hn2 : n ≤ 4611686018427387904) (h1 : -4611686018427387904 ≤ l) (h2 : l ≤ 4611686018427387904) :
    ∃ r, ephemeriskeep1_cut.f a l n = some r ∧ l ≤ r ∧ r < l + n ∧ r = l + a % n := by
  have h3 := Int.emod_nonneg a (show n ≠ 0 by omega)
  have h4 := Int.emod_lt_of_pos a hn
  refine ⟨l + a % n, ?_, by omega, by omega, rfl⟩
  unfold ephemeriskeep1_cut.f
  rw [mod_is a n hn hn2, Option.bind_some, w64 (by omega) (by omega)]

def lp (y : Int) : Int := if y % 4 = 0 then (if y % 100 = 0 then (if y % 400 = 0 then 1 else 0) else 1) else 0
theorem lp_cases (y : Int) : lp y = 0 ∨ lp y = 1 := by unfold lp; split <;> (try split) <;> (try split) <;> simp
def bg (y : Int) : Int := 365 * (y - 1) + (y - 1) / 4 - (y - 1) / 100 + (y - 1) / 400
theorem bg_succ (y : Int) : bg (y + 1) = bg y + 365 + lp y := by
  unfold bg lp
  split <;> (try split) <;> (try split) <;> omega
def len (y m : Int) : Int := if m = 2 then 28 + lp y else if m = 4 then 30 else if m = 6 then 30 else if m = 9 then 30 else if m = 11 then 30 else 31
def cumT (m : Int) : Int := if m ≤ 1 then 0 else if m = 2 then 31 else if m = 3 then 59 else if m = 4 then 90 else if m = 5 then 120 else if m = 6 then 151 else if m = 7 then 181 else if m = 8 then 212 else if m = 9 then 243 else if m = 10 then 273 else if m = 11 then 304 else if m = 12 then 334 else 365
def cum (y m : Int) : Int := cumT m + if m ≤ 2 then 0 else lp y
theorem months12 {m : Int} (h1 : 1 ≤ m) (h2 : m ≤ 12) : m = 1 ∨ m = 2 ∨ m = 3 ∨ m = 4 ∨ m = 5 ∨ m = 6 ∨ m = 7 ∨ m = 8 ∨ m = 9 ∨ m = 10 ∨ m = 11 ∨ m = 12 := by omega
theorem cum_one (y : Int) : cum y 1 = 0 := by simp [cum, cumT]
theorem cum_end (y : Int) : cum y 13 = 365 + lp y := by simp [cum, cumT]
theorem cum_succ (y m : Int) (h1 : 1 ≤ m) (h2 : m ≤ 12) : cum y (m + 1) = cum y m + len y m := by
  rcases months12 h1 h2 with h | h | h | h | h | h | h | h | h | h | h | h <;> subst h <;> simp [cum, cumT, len] <;> omega
theorem len_lo (y m : Int) : 28 ≤ len y m ∧ len y m ≤ 31 := by
  have := lp_cases y
  unfold len
  split <;> (try split) <;> (try split) <;> (try split) <;> (try split) <;> omega
theorem cum_mono (y : Int) (n : Nat) : ∀ m : Int, 1 ≤ m → m + n ≤ 13 → cum y m + 28 * n ≤ cum y (m + n) := by
  induction n with
  | zero => intro m _ _; simp
  | succ n ih =>
    intro m h1 h2
    have h3 := ih m h1 (by omega)
    have h4 := cum_succ y (m + n) (by omega) (by omega)
    have h5 := len_lo y (m + n)
    rw [show m + ((n + 1 : Nat) : Int) = m + n + 1 from by omega]
    omega
theorem cum_lt (y m m' : Int) (h1 : 1 ≤ m) (h2 : m < m') (h3 : m' ≤ 13) : cum y m + len y m ≤ cum y m' := by
  have e := cum_succ y m h1 (by omega)
  have := cum_mono y (m' - (m + 1)).toNat (m + 1) (by omega) (by omega)
  rw [show m + 1 + ((m' - (m + 1)).toNat : Int) = m' from by omega] at this
  omega
theorem bg_mono (n : Nat) : ∀ y : Int, bg y + 365 * n ≤ bg (y + n) := by
  induction n with
  | zero => intro y; simp
  | succ n ih =>
    intro y
    have h1 := ih y
    have h2 := bg_succ (y + n)
    have h3 := lp_cases (y + n)
    rw [show y + ((n + 1 : Nat) : Int) = y + n + 1 from by omega]
    omega
theorem bg_lt (y y' : Int) (h : y < y') : bg y + 365 + lp y ≤ bg y' := by
  have e := bg_succ y
  have := bg_mono (y' - (y + 1)).toNat (y + 1)
  rw [show y + 1 + ((y' - (y + 1)).toNat : Int) = y' from by omega] at this
  omega
/-- a date of the calendar, and the day on which it is. -/
def Valid (y m d : Int) : Prop := 1 ≤ m ∧ m ≤ 12 ∧ 1 ≤ d ∧ d ≤ len y m
def dayOf (y m d : Int) : Int := bg y + cum y m + d
theorem day_year (y m d : Int) (h : Valid y m d) : bg y < dayOf y m d ∧ dayOf y m d ≤ bg (y + 1) := by
  obtain ⟨h1, h2, h3, h4⟩ := h
  have e := cum_lt y m 13 h1 (by omega) (by omega)
  have e2 := cum_end y
  have e3 := bg_succ y
  have e4 : 0 ≤ cum y m := by
    by_cases c : m = 1
    · subst c; rw [cum_one]; omega
    · have := cum_lt y 1 m (by omega) (by omega) (by omega); have := cum_one y; have := len_lo y 1; omega
  unfold dayOf; omega
theorem date_unique {y m d y' m' d' : Int} (h : Valid y m d) (h' : Valid y' m' d') (e : dayOf y m d = dayOf y' m' d') : y = y' ∧ m = m' ∧ d = d' := by
  have a := day_year y m d h
  have a' := day_year y' m' d' h'
  have ey : y = y' := by
    by_cases c : y < y'
    · have := bg_lt y y' c; have := bg_succ y; omega
    · by_cases c' : y' < y
      · have := bg_lt y' y c'; have := bg_succ y'; omega
      · omega
  subst ey
  obtain ⟨h1, h2, h3, h4⟩ := h
  obtain ⟨h1', h2', h3', h4'⟩ := h'
  unfold dayOf at e
  have em : m = m' := by
    by_cases c : m < m'
    · have := cum_lt y m m' h1 c (by omega); omega
    · by_cases c' : m' < m
      · have := cum_lt y m' m h1' c' (by omega); omega
      · omega
  subst em
  exact ⟨rfl, rfl, by omega⟩
/-- the day behind a date. -/
theorem date_next {y m d y' m' d' : Int} (h : Valid y m d) (h' : Valid y' m' d') (e : dayOf y' m' d' = dayOf y m d + 1) :
    (y' = y ∧ m' = m ∧ d' = d + 1) ∨ (d' = 1 ∧ y' = y ∧ m' = m + 1 ∧ d = len y m) ∨ (d' = 1 ∧ y' = y + 1 ∧ m' = 1 ∧ m = 12 ∧ d = len y m) := by
  obtain ⟨h1, h2, h3, h4⟩ := h
  by_cases c : d < len y m
  · left
    exact date_unique h' (show Valid y m (d + 1) from ⟨h1, h2, by omega, by omega⟩) (by rw [e]; unfold dayOf; omega)
  · have hd : d = len y m := by omega
    right
    by_cases c2 : m < 12
    · left
      have l := len_lo y (m + 1)
      have := date_unique h' (show Valid y (m + 1) 1 from ⟨by omega, by omega, by omega, by omega⟩) (by rw [e]; unfold dayOf; rw [cum_succ y m h1 h2]; omega)
      exact ⟨this.2.2, this.1, this.2.1, hd⟩
    · right
      have hm : m = 12 := by omega
      have l := len_lo (y + 1) 1
      have e1 := cum_succ y 12 (by omega) (by omega)
      have e2 := cum_end y
      have := date_unique h' (show Valid (y + 1) 1 1 from ⟨by omega, by omega, by omega, by omega⟩) (by rw [e]; unfold dayOf; rw [bg_succ, cum_one, hd, hm]; rw [show (12 : Int) + 1 = 13 from rfl] at e1; omega)
      exact ⟨this.2.2, this.1, this.2.1, hm, hd⟩

theorem div_is (k : Nat) (a b : Int) (hb : 0 < b) (h1 : -9223372036854775808 ≤ a) (h2 : a ≤ 9223372036854775807) (hb2 : b ≤ 4611686018427387904) :
    whole_Div.f (k + 1) a b = some (a / b, a % b, 0) := by
  have hj : whole_Div.j0 (k + 1) a b false = some (a / b, a % b, 0) := by
    have hm1 := Int.emod_nonneg a (show b ≠ 0 by omega)
    have hm2 := Int.emod_lt_of_pos a hb
    have hr := ediv_range hb h1 h2
    simp only [whole_Div.j0]
    rw [if_neg (by decide), if_neg (by omega)]
    rcases tmod_cases (a := a) hb with ⟨e, e', c⟩ | ⟨c, c', e, e'⟩
    · rw [e, e', w64 hr.1 hr.2]
      by_cases z : a % b = 0
      · rw [if_pos z, z]
      · rw [if_neg z, if_neg]
        have hd1 : decide (a % b < 0) = false := decide_eq_false (by omega)
        have hd2 : decide (b < 0) = false := decide_eq_false (by omega)
        rw [hd1, hd2]; decide
    · rw [e, e']
      have hr2 : a / b < 0 := Int.ediv_neg_of_neg_of_pos c hb
      rw [w64 (by omega) (by omega)]
      have hd1 : decide (a % b - b < 0) = true := decide_eq_true (by omega)
      have hd2 : decide (b < 0) = false := decide_eq_false (by omega)
      rw [if_neg (by omega), hd1, hd2, if_pos (by decide), w64 (by omega) (by omega), w64 (by omega) (by omega)]
      congr 2
      · omega
      · congr 1; omega
  unfold whole_Div.f
  rw [if_neg (by omega)]
  by_cases c : a = -9223372036854775808
  · rw [if_pos c]
    have : (b == -1) = false := beq_eq_false_iff_ne.mpr (by omega)
    rw [this]; exact hj
  · rw [if_neg c]; exact hj

theorem wmod_is (a b : Int) (hb : 0 < b) (hb2 : b ≤ 4611686018427387904) : whole_Mod.f a b = some (a % b) := by
  have hc := tmod_bounds (a := a) hb
  have h1 := Int.emod_nonneg a (show b ≠ 0 by omega)
  have h2 := Int.emod_lt_of_pos a hb
  unfold whole_Mod.f
  rw [if_neg (by omega)]
  rcases tmod_cases (a := a) hb with ⟨e, _, c⟩ | ⟨c, c', e, _⟩
  · rw [e, if_neg (by omega)]
  · rw [e, if_pos (by omega), w64 (by omega) (by omega)]
    congr 1; omega

theorem check_ok (d : Int) (h1 : -4000000 ≤ d) (h2 : d ≤ 4000000) : line_Check.f d = some 0 := by
  unfold line_Check.f
  rw [if_neg (by omega), if_neg (by omega)]
theorem check_bad (d : Int) (h : d < -4000000 ∨ 4000000 < d) : line_Check.f d = some 3 := by
  unfold line_Check.f
  by_cases c : d < -4000000
  · rw [if_pos c]
  · rw [if_neg c, if_pos (by omega)]

theorem tmod_zero (a n : Int) (hn : 0 < n) : (Int.tmod a n = 0) = (a % n = 0) := by
  apply propext
  rcases tmod_cases (a := a) hn with ⟨e, _, _⟩ | ⟨_, h, e, _⟩
  · rw [e]
  · have := Int.emod_lt_of_pos a hn
    rw [e]; constructor
    · intro h2; omega
    · intro h2; exact absurd h2 h
theorem leap_is (y : Int) : line_leap.f y = some (lp y == 1) := by
  unfold line_leap.f lp
  simp only [tmod_zero _ 4 (by omega), tmod_zero _ 100 (by omega)]
  split
  · split
    · congr 1
      rw [Bool.eq_iff_iff, beq_iff_eq, tmod_zero _ 400 (by omega)]
      split <;> simp_all
    · simp
  · simp
theorem length_is (y m : Int) : line_length.f y m = some (len y m) := by
  unfold line_length.f len
  rw [leap_is]
  split
  · simp only [Option.bind_some]
    rcases lp_cases y with h | h <;> rw [h] <;> simp
  · repeat' split
    all_goals rfl
theorem begin_is (k : Nat) (y : Int) (h1 : -100000 ≤ y) (h2 : y ≤ 100000) : line_begin.f (k + 1) y = some (bg y) := by
  unfold line_begin.f bg
  rw [w64 (n := y - 1) (by omega) (by omega), div_is k (y - 1) 4 (by omega) (by omega) (by omega) (by omega)]
  simp only [Option.bind_some]
  rw [div_is k (y - 1) 100 (by omega) (by omega) (by omega) (by omega)]
  simp only [Option.bind_some]
  rw [div_is k (y - 1) 400 (by omega) (by omega) (by omega) (by omega)]
  simp only [Option.bind_some]
  rw [w64 (n := 365 * (y - 1)) (by omega) (by omega), w64 (n := 365 * (y - 1) + (y - 1) / 4) (by omega) (by omega), w64 (n := 365 * (y - 1) + (y - 1) / 4 - (y - 1) / 100) (by omega) (by omega), w64 (by omega) (by omega)]
theorem bg_range (y : Int) (h1 : -100000 ≤ y) (h2 : y ≤ 100000) : -40000000 ≤ bg y ∧ bg y ≤ 40000000 := by unfold bg; omega

theorem day_loop (d : Nat) : ∀ (k : Nat) (out m Y M D : Int), 1 ≤ m → m ≤ M → M ≤ 12 → M - m = d → d < k → -100000000 ≤ out → out + cum Y M - cum Y m ≤ 100000000 →
    line_Day.l0 k out m Y M D = some (out + cum Y M - cum Y m, 0) := by
  induction d with
  | zero =>
    intro k out m Y M D h1 h2 h3 hd hk ho1 ho2
    obtain ⟨k, rfl⟩ : ∃ q, k = q + 1 := ⟨k - 1, by omega⟩
    obtain rfl : m = M := by omega
    simp only [line_Day.l0]
    rw [if_neg (by omega)]
    congr 2; omega
  | succ d ih =>
    intro k out m Y M D h1 h2 h3 hd hk ho1 ho2
    obtain ⟨k, rfl⟩ : ∃ q, k = q + 1 := ⟨k - 1, by omega⟩
    have l := len_lo Y m
    have e := cum_succ Y m h1 (by omega)
    have g := cum_lt Y m M h1 (by omega) (by omega)
    simp only [line_Day.l0]
    rw [if_pos (by omega), length_is]
    simp only [Option.bind_some]
    rw [w64 (n := m + 1) (by omega) (by omega), w64 (by omega) (by omega), ih k (out + len Y m) (m + 1) Y M D (by omega) (by omega) h3 (by omega) (by omega) (by omega) (by omega), e]
    congr 2; omega
theorem day_is (k : Nat) (y m d : Int) (h1 : -10000 ≤ y) (h2 : y ≤ 10000) (hv : Valid y m d) : line_Day.f (k + 20) y m d = some (dayOf y m d, 0) := by
  obtain ⟨v1, v2, v3, v4⟩ := hv
  have r := bg_range y (by omega) (by omega)
  have l := len_lo y m
  unfold line_Day.f
  have e1 : decide (y > 10000) = false := decide_eq_false (by omega)
  rw [if_neg (by omega), e1]
  simp only [line_Day.j0]
  rw [if_neg (by decide), if_neg (by omega), if_neg (by omega), if_neg (by omega), length_is]
  simp only [Option.bind_some]
  have e2 : decide (d > len y m) = false := decide_eq_false (by omega)
  rw [e2]
  simp only [line_Day.j1]
  rw [if_neg (by decide), begin_is _ _ (by omega) (by omega)]
  simp only [Option.bind_some]
  have c := cum_one y
  have g : cum y m ≤ 366 := by
    have := cum_lt y m 13 v1 (by omega) (by omega); have := cum_end y; have := lp_cases y; omega
  have g0 : 0 ≤ cum y m := by
    by_cases z : m = 1
    · subst z; omega
    · have := cum_lt y 1 m (by omega) (by omega) (by omega); have := len_lo y 1; omega
  rw [w64 (by omega) (by omega), day_loop (m - 1).toNat (k + 18) (bg y + d) 1 y m d (by omega) v1 v2 (by omega) (by omega) (by omega) (by omega), c]
  unfold dayOf
  congr 2; omega
theorem day_badarg (k : Nat) (y m d : Int) (h1 : -10000 ≤ y) (h2 : y ≤ 10000) (hv : ¬ Valid y m d) : line_Day.f (k + 20) y m d = some (0, 1) := by
  unfold line_Day.f
  have e1 : decide (y > 10000) = false := decide_eq_false (by omega)
  rw [if_neg (by omega), e1]
  simp only [line_Day.j0]
  rw [if_neg (by decide)]
  by_cases c1 : m < 1
  · rw [if_pos c1]; simp [line_Day.j1]
  · rw [if_neg c1]
    by_cases c2 : m > 12
    · rw [if_pos c2]; simp [line_Day.j1]
    · rw [if_neg c2]
      by_cases c3 : d < 1
      · rw [if_pos c3]; simp [line_Day.j1]
      · rw [if_neg c3, length_is]
        have c4 : d > len y m := by
          by_cases c : d > len y m
          · exact c
          · exact absurd ⟨by omega, by omega, by omega, by omega⟩ hv
        simp only [Option.bind_some]
        rw [decide_eq_true c4]; simp [line_Day.j1]

theorem day_any (k : Nat) (hk : 20 ≤ k) (y m d : Int) (h1 : -10000 ≤ y) (h2 : y ≤ 10000) (hv : Valid y m d) : line_Day.f k y m d = some (dayOf y m d, 0) := by
  obtain ⟨q, rfl⟩ : ∃ q, k = q + 20 := ⟨k - 20, by omega⟩
  exact day_is q y m d h1 h2 hv
theorem day_bad (k : Nat) (hk : 20 ≤ k) (y m d : Int) (h1 : -10000 ≤ y) (h2 : y ≤ 10000) (hv : ¬ Valid y m d) : line_Day.f k y m d = some (0, 1) := by
  obtain ⟨q, rfl⟩ : ∃ q, k = q + 20 := ⟨k - 20, by omega⟩
  exact day_badarg q y m d h1 h2 hv

theorem nth_pos (k : Nat) (d w n : Int) (h1 : -4000000 ≤ d) (h2 : d ≤ 4000000) (h3 : 0 ≤ w) (h4 : w ≤ 6) (h5 : 1 ≤ n) (h6 : n ≤ 1000000) (h7 : d + (w - (d - 1)) % 7 + 7 * (n - 1) ≤ 4000000) :
    line_Nth.f (k + 2) d w n = some (d + (w - (d - 1)) % 7 + 7 * (n - 1), 0) := by
  unfold line_Nth.f
  rw [check_ok d h1 h2]
  simp only [Option.bind_some]
  rw [if_pos trivial, if_neg (by omega), if_neg (by omega), show (n == 0) = false from beq_eq_false_iff_ne.mpr (by omega)]
  simp only [line_Nth.j0]
  rw [if_neg (by decide), if_neg (by omega), decide_eq_false (by omega)]
  simp only [line_Nth.j1]
  rw [if_neg (by decide), w64 (n := d - 1) (by omega) (by omega), w64 (n := w - (d - 1)) (by omega) (by omega), wmod_is _ 7 (by omega) (by omega)]
  simp only [Option.bind_some]
  rw [if_neg (by omega), w64 (n := n - 1) (by omega) (by omega), w64 (n := 7 * (n - 1)) (by omega) (by omega), w64 (n := d + (w - (d - 1)) % 7) (by omega) (by omega), w64 (by omega) (by omega), check_ok _ (by omega) h7]
  simp only [Option.bind_some]
  rw [if_pos trivial]
theorem nth_last (k : Nat) (d w : Int) (h1 : -3999990 ≤ d) (h2 : d ≤ 4000000) (h3 : 0 ≤ w) (h4 : w ≤ 6) :
    line_Nth.f (k + 2) d w (-1) = some (d - (d - 1 - w) % 7, 0) := by
  unfold line_Nth.f
  rw [check_ok d (by omega) h2]
  simp only [Option.bind_some]
  rw [if_pos trivial, if_neg (by omega), if_neg (by omega), show ((-1 : Int) == 0) = false from rfl]
  simp only [line_Nth.j0]
  rw [if_neg (by decide), if_neg (by omega), decide_eq_false (by omega)]
  simp only [line_Nth.j1]
  rw [if_neg (by decide), w64 (n := d - 1) (by omega) (by omega), w64 (n := w - (d - 1)) (by omega) (by omega), wmod_is _ 7 (by omega) (by omega)]
  simp only [Option.bind_some]
  rw [if_pos (by omega), w64 (n := d - 1 - w) (by omega) (by omega), wmod_is _ 7 (by omega) (by omega)]
  simp only [Option.bind_some]
  rw [w64 (n := -1 + 1) (by omega) (by omega), w64 (n := 7 * (-1 + 1)) (by omega) (by omega), w64 (n := d - (d - 1 - w) % 7) (by omega) (by omega), w64 (by omega) (by omega), show d - (d - 1 - w) % 7 + 7 * (-1 + 1) = d - (d - 1 - w) % 7 from by omega, check_ok _ (by omega) (by omega)]
  simp only [Option.bind_some]
  rw [if_pos trivial]
theorem weekday_is (d : Int) (h1 : -4000000 ≤ d) (h2 : d ≤ 4000000) : line_Weekday.f d = some ((d - 1) % 7, 0) := by
  unfold line_Weekday.f
  rw [check_ok d h1 h2]
  simp only [Option.bind_some]
  rw [if_pos trivial, w64 (by omega) (by omega), wmod_is _ 7 (by omega) (by omega)]
  simp only [Option.bind_some]

theorem nth_posa (k : Nat) (hk : 2 ≤ k) (d w n : Int) (h1 : -4000000 ≤ d) (h2 : d ≤ 4000000) (h3 : 0 ≤ w) (h4 : w ≤ 6) (h5 : 1 ≤ n) (h6 : n ≤ 1000000) (h7 : d + (w - (d - 1)) % 7 + 7 * (n - 1) ≤ 4000000) :
    line_Nth.f k d w n = some (d + (w - (d - 1)) % 7 + 7 * (n - 1), 0) := by
  obtain ⟨q, rfl⟩ : ∃ q, k = q + 2 := ⟨k - 2, by omega⟩
  exact nth_pos q d w n h1 h2 h3 h4 h5 h6 h7
theorem nth_lasta (k : Nat) (hk : 2 ≤ k) (d w : Int) (h1 : -3999990 ≤ d) (h2 : d ≤ 4000000) (h3 : 0 ≤ w) (h4 : w ≤ 6) : line_Nth.f k d w (-1) = some (d - (d - 1 - w) % 7, 0) := by
  obtain ⟨q, rfl⟩ : ∃ q, k = q + 2 := ⟨k - 2, by omega⟩
  exact nth_last q d w h1 h2 h3 h4

theorem split_ok (k : Nat) (t : Int) (h1 : -4000000 ≤ t / 86400000) (h2 : t / 86400000 ≤ 4000000) : line_Split.f (k + 1) t = some (t / 86400000, t % 86400000, 0) := by
  unfold line_Split.f
  rw [div_is k t 86400000 (by omega) (by omega) (by omega) (by omega), Option.bind_some]
  show ((line_Check.f (t / 86400000)).bind _) = _
  rw [check_ok _ h1 h2, Option.bind_some, if_pos rfl]
theorem split_bad (k : Nat) (t : Int) (hl : -9223372036854775808 ≤ t) (hu : t ≤ 9223372036854775807) (h : t / 86400000 < -4000000 ∨ 4000000 < t / 86400000) : line_Split.f (k + 1) t = some (0, 0, 3) := by
  unfold line_Split.f
  rw [div_is k t 86400000 (by omega) hl hu (by omega), Option.bind_some]
  show ((line_Check.f (t / 86400000)).bind _) = _
  rw [check_bad _ h, Option.bind_some, if_neg (by decide)]

theorem date_l2 (d : Nat) : ∀ (k : Nat) (y r m : Int), 1 ≤ m → m ≤ 12 → 13 - m ≤ d → d < k → 1 ≤ r → cum y m + r ≤ cum y 13 → -100000 ≤ y → y ≤ 100000 →
    ∃ M D, line_Date.l2 k y r m = some (y, M, D, 0) ∧ Valid y M D ∧ cum y M + D = cum y m + r := by
  induction d with
  | zero => intro k y r m h1 h2 hd hk; omega
  | succ d ih =>
    intro k y r m h1 h2 hd hk hr hc hy1 hy2
    obtain ⟨k, rfl⟩ : ∃ q, k = q + 1 := ⟨k - 1, by omega⟩
    have l := len_lo y m
    have e := cum_succ y m h1 h2
    have ce := cum_end y
    have lpc := lp_cases y
    have c0 : 0 ≤ cum y m := by
      by_cases z : m = 1
      · subst z; rw [cum_one]; omega
      · have := cum_lt y 1 m (by omega) (by omega) (by omega); have := len_lo y 1; have := cum_one y; omega
    simp only [line_Date.l2]
    rw [length_is]
    simp only [Option.bind_some]
    by_cases c : r > len y m
    · rw [if_pos c]
      have hm : m < 12 := by
        by_cases z : m = 12
        · subst z; rw [show (12 : Int) + 1 = 13 from rfl] at e; omega
        · omega
      rw [w64 (n := r - len y m) (by omega) (by omega), w64 (n := m + 1) (by omega) (by omega)]
      obtain ⟨M, D, e1, e2, e3⟩ := ih k y (r - len y m) (m + 1) (by omega) (by omega) (by omega) (by omega) (by omega) (by omega) hy1 hy2
      exact ⟨M, D, e1, e2, by omega⟩
    · rw [if_neg c]
      exact ⟨m, r, rfl, ⟨h1, h2, hr, by omega⟩, rfl⟩
theorem date_l1 (k : Nat) (y x : Int) (h1 : -50000 ≤ y) (h2 : y ≤ 50000) (hb : bg y < x) (hx : x ≤ bg (y + 1)) :
    ∃ M D, line_Date.l1 (k + 20) x y = some (y, M, D, 0) ∧ Valid y M D ∧ dayOf y M D = x := by
  have r := bg_range y (by omega) (by omega)
  have r2 := bg_range (y + 1) (by omega) (by omega)
  have s := bg_succ y
  have c1 := cum_one y
  have ce := cum_end y
  simp only [line_Date.l1]
  rw [w64 (n := y + 1) (by omega) (by omega), begin_is _ _ (by omega) (by omega)]
  simp only [Option.bind_some]
  rw [if_neg (by omega), begin_is _ _ (by omega) (by omega)]
  simp only [Option.bind_some]
  rw [w64 (by omega) (by omega)]
  obtain ⟨M, D, e1, e2, e3⟩ := date_l2 12 (k + 19) y (x - bg y) 1 (by omega) (by omega) (by omega) (by omega) (by omega) (by omega) (by omega) (by omega)
  exact ⟨M, D, e1, e2, by unfold dayOf; omega⟩
theorem date_l1s (k : Nat) (y x : Int) (h1 : -50000 ≤ y) (h2 : y ≤ 50000) (hx : bg (y + 1) < x) : line_Date.l1 (k + 2) x y = line_Date.l1 (k + 1) x (y + 1) := by
  conv => lhs; simp only [line_Date.l1]
  rw [w64 (n := y + 1) (by omega) (by omega), begin_is _ _ (by omega) (by omega)]
  simp only [Option.bind_some]
  rw [if_pos hx]
  simp only [line_Date.l1]
theorem date_is (k : Nat) (x : Int) (h1 : -4000000 ≤ x) (h2 : x ≤ 4000000) : ∃ Y M D, line_Date.f (k + 30) x = some (Y, M, D, 0) ∧ Valid Y M D ∧ dayOf Y M D = x ∧ -11000 ≤ Y ∧ Y ≤ 11000 := by
  unfold line_Date.f
  rw [check_ok x h1 h2]
  simp only [Option.bind_some]
  rw [if_pos trivial, w64 (n := x - 1) (by omega) (by omega), w64 (n := 400 * (x - 1)) (by omega) (by omega), div_is _ _ 146097 (by omega) (by omega) (by omega) (by omega)]
  simp only [Option.bind_some]
  rw [w64 (by omega) (by omega)]
  generalize hn : 400 * (x - 1) / 146097 = n
  have b1 : bg n < x := by unfold bg; omega
  have b3 : x ≤ bg (n + 3) := by unfold bg; omega
  have hn1 : -10960 ≤ n := by omega
  have hn2 : n ≤ 10960 := by omega
  clear hn
  have go : ∀ j y, -10970 ≤ y → y ≤ 10970 → bg y < x → x ≤ bg (y + 3) → ∃ Y M D, line_Date.l1 (j + 23) x y = some (Y, M, D, 0) ∧ Valid Y M D ∧ dayOf Y M D = x ∧ -11000 ≤ Y ∧ Y ≤ 11000 := by
    intro j y y1 y2 hb hx
    by_cases c : x ≤ bg (y + 1)
    · obtain ⟨M, D, e1, e2, e3⟩ := date_l1 (j + 3) y x (by omega) (by omega) hb c
      exact ⟨y, M, D, e1, e2, e3, by omega, by omega⟩
    · rw [date_l1s (j + 21) y x (by omega) (by omega) (by omega)]
      by_cases c2 : x ≤ bg (y + 1 + 1)
      · obtain ⟨M, D, e1, e2, e3⟩ := date_l1 (j + 2) (y + 1) x (by omega) (by omega) (by omega) c2
        exact ⟨y + 1, M, D, e1, e2, e3, by omega, by omega⟩
      · rw [date_l1s (j + 20) (y + 1) x (by omega) (by omega) (by omega)]
        obtain ⟨M, D, e1, e2, e3⟩ := date_l1 (j + 1) (y + 1 + 1) x (by omega) (by omega) (by omega) (by rw [show y + 1 + 1 + 1 = y + 3 from by omega]; exact hx)
        exact ⟨y + 1 + 1, M, D, e1, e2, e3, by omega, by omega⟩
  simp only [line_Date.l0]
  rw [begin_is _ _ (by omega) (by omega)]
  simp only [Option.bind_some]
  by_cases c : bg (n + 1) ≥ x
  · rw [if_pos c, w64 (by omega) (by omega), show n + 1 - 1 = n from by omega, begin_is _ _ (by omega) (by omega)]
    simp only [Option.bind_some]
    rw [if_neg (by omega)]
    exact go (k + 5) n (by omega) (by omega) b1 b3
  · rw [if_neg c]
    exact go (k + 6) (n + 1) (by omega) (by omega) (by omega) (by have := bg_succ (n + 3); have := lp_cases (n + 3); rw [show n + 1 + 3 = n + 3 + 1 from by omega]; omega)

theorem date_any (k : Nat) (hk : 30 ≤ k) (x : Int) (h1 : -4000000 ≤ x) (h2 : x ≤ 4000000) : ∃ Y M D, line_Date.f k x = some (Y, M, D, 0) ∧ Valid Y M D ∧ dayOf Y M D = x ∧ -11000 ≤ Y ∧ Y ≤ 11000 := by
  obtain ⟨q, rfl⟩ : ∃ q, k = q + 30 := ⟨k - 30, by omega⟩
  exact date_is q x h1 h2

def offOk (o : Int) : Prop := -64800000 ≤ o ∧ o ≤ 64800000 ∧ o % 1000 = 0
theorem isoff_is (o : Int) : ∃ b : Bool, zone_IsOffset.f o = some b ∧ (b = true ↔ offOk o) := by
  unfold zone_IsOffset.f offOk
  by_cases c1 : o ≥ -64800000
  · rw [if_pos c1]
    by_cases c2 : o ≤ 64800000
    · rw [if_pos c2]
      refine ⟨_, rfl, ?_⟩
      rw [beq_iff_eq]
      rcases tmod_cases (a := o) (b := 1000) (by omega) with ⟨e, _, _⟩ | ⟨_, h, e, _⟩
      · rw [e]; omega
      · have := Int.emod_lt_of_pos o (show (0 : Int) < 1000 by omega)
        rw [e]; omega
    · rw [if_neg c2]; exact ⟨false, rfl, by simp; omega⟩
  · rw [if_neg c1]; exact ⟨false, rfl, by simp; omega⟩

abbrev ZR := S76
abbrev ZC := S69
def rr (l : List ZR) (i : Int) : ZR := rd_T76 l i
structure RuleOk (r : ZR) : Prop where
  mo : 1 ≤ r.f0 ∧ r.f0 ≤ 12
  wk : 1 ≤ r.f1 ∧ r.f1 ≤ 5
  wd : 0 ≤ r.f2 ∧ r.f2 ≤ 6
  ms : 0 ≤ r.f3 ∧ r.f3 < 86400000
  off : offOk r.f4
structure VF (l : List ZR) : Prop where
  n : 1 ≤ l.length ∧ l.length ≤ 4
  r : ∀ i : Int, 0 ≤ i → i < l.length → RuleOk (rr l i)
  lab : ∀ i : Int, 0 ≤ i → i < l.length → labelB (rr l i).f5 = true
  up : ∀ i : Int, 0 < i → i < l.length → (rr l (i - 1)).f0 < (rr l i).f0
theorem fcheck_step (k : Nat) (x0 l : List ZR) (j : Int) (h0 : 0 ≤ j) (h1 : j < l.length) : ∃ b : Bool, forecast_Check.l0 (k + 1) x0 l (l.length : Int) j = forecast_Check.j2 k x0 j l (l.length : Int) j b ((rr l j).f0) ((rr l j).f1) ((rr l j).f2) ((rr l j).f3) ((rr l j).f4) ((rr l j).f5) ∧ (b = false ↔ RuleOk (rr l j)) := by
  have hr : rd_T76 l j = rr l j := rfl
  simp only [forecast_Check.l0]
  rw [if_pos h1, if_pos h0, if_pos h1, hr]
  generalize rr l j = r
  by_cases c1 : r.f0 < 1
  · rw [if_pos c1]; exact ⟨true, rfl, by simp; intro h; have := h.mo; omega⟩
  rw [if_neg c1]
  by_cases c2 : r.f0 > 12
  · rw [if_pos c2]; exact ⟨true, rfl, by simp; intro h; have := h.mo; omega⟩
  rw [if_neg c2]
  by_cases c3 : r.f1 < 1
  · rw [if_pos c3]; exact ⟨true, rfl, by simp; intro h; have := h.wk; omega⟩
  rw [if_neg c3]
  by_cases c4 : r.f1 > 5
  · rw [if_pos c4]; exact ⟨true, rfl, by simp; intro h; have := h.wk; omega⟩
  rw [if_neg c4]
  by_cases c5 : r.f2 < 0
  · rw [if_pos c5]; exact ⟨true, rfl, by simp; intro h; have := h.wd; omega⟩
  rw [if_neg c5]
  by_cases c6 : r.f2 > 6
  · rw [if_pos c6]; exact ⟨true, rfl, by simp; intro h; have := h.wd; omega⟩
  rw [if_neg c6]
  by_cases c7 : r.f3 < 0
  · rw [if_pos c7]; exact ⟨true, rfl, by simp; intro h; have := h.ms; omega⟩
  rw [if_neg c7]
  by_cases c8 : r.f3 ≥ 86400000
  · rw [if_pos c8]; exact ⟨true, rfl, by simp; intro h; have := h.ms; omega⟩
  rw [if_neg c8]
  obtain ⟨b, e, hb⟩ := isoff_is r.f4
  rw [e]
  simp only [Option.bind_some]
  refine ⟨!b, rfl, ?_⟩
  rw [Bool.not_eq_false', hb]
  exact ⟨fun h => ⟨by omega, by omega, by omega, by omega, h⟩, fun h => h.off⟩
theorem fcheck_loop (l : List ZR) (hn : 1 ≤ l.length ∧ l.length ≤ 4) (d : Nat) : ∀ (k : Nat) (j : Int), 0 ≤ j → j + d = l.length → 2 * d + 1 < k →
    (∀ i : Int, 0 ≤ i → i < j → RuleOk (rr l i)) → (∀ i : Int, 0 ≤ i → i < j → labelB (rr l i).f5 = true) → (∀ i : Int, 0 < i → i < j → (rr l (i - 1)).f0 < (rr l i).f0) →
    (forecast_Check.l0 k l l (l.length : Int) j = some 0 ∧ VF l) ∨ (¬ VF l ∧ ∃ c, c ≠ 0 ∧ forecast_Check.l0 k l l (l.length : Int) j = some c) := by
  induction d with
  | zero =>
    intro k j h0 h1 hk a b c
    obtain ⟨k, rfl⟩ : ∃ q, k = q + 1 := ⟨k - 1, by omega⟩
    obtain rfl : j = l.length := by omega
    simp only [forecast_Check.l0]
    rw [if_neg (by omega)]
    exact .inl ⟨rfl, hn, a, b, c⟩
  | succ d ih =>
    intro k j h0 h1 hk a b c
    obtain ⟨k, rfl⟩ : ∃ q, k = q + 2 := ⟨k - 2, by omega⟩
    obtain ⟨f, e, hf⟩ := fcheck_step (k + 1) l l j h0 (by omega)
    rw [e]
    simp only [forecast_Check.j2]
    cases f with
    | true =>
      rw [if_pos rfl]
      refine .inr ⟨fun v => ?_, 3, by omega, rfl⟩
      have := hf.mpr (v.r j h0 (by omega))
      cases this
    | false =>
      have ok := hf.mp rfl
      rw [if_neg (by decide)]
      unfold zone_IsLabel.f
      simp only [Option.bind_some]
      by_cases cl : labelB (rr l j).f5 = true
      rotate_left
      · rw [if_neg cl]; exact .inr ⟨fun v => cl (v.lab j h0 (by omega)), 8, by omega, rfl⟩
      rw [if_pos cl]
      have next : (∀ i : Int, 0 < i → i < j + 1 → (rr l (i - 1)).f0 < (rr l i).f0) → (forecast_Check.l0 k l l (l.length : Int) (wrap64 (j + 1)) = some 0 ∧ VF l) ∨ (¬ VF l ∧ ∃ c, c ≠ 0 ∧ forecast_Check.l0 k l l (l.length : Int) (wrap64 (j + 1)) = some c) := by
        intro c'
        rw [w64 (n := j + 1) (by omega) (by omega)]
        refine ih k (j + 1) (by omega) (by omega) (by omega) (fun i x y => ?_) (fun i x y => ?_) c'
        · by_cases z : i = j
          · subst z; exact ok
          · exact a i x (by omega)
        · by_cases z : i = j
          · subst z; exact cl
          · exact b i x (by omega)
      by_cases cj : j > 0
      · rw [if_pos cj, w64 (n := j - 1) (by omega) (by omega), if_pos (by omega), if_pos (by omega)]
        have hr : rd_T76 l (j - 1) = rr l (j - 1) := rfl
        rw [hr]
        by_cases cu : (rr l j).f0 ≤ (rr l (j - 1)).f0
        · rw [if_pos cu]
          refine .inr ⟨fun v => ?_, 9, by omega, rfl⟩
          have := v.up j cj (by omega)
          omega
        · rw [if_neg cu]
          refine next fun i x y => ?_
          by_cases z : i = j
          · subst z; omega
          · exact c i x (by omega)
      · rw [if_neg cj]
        exact next fun i x y => by omega
theorem fcheck_is (k : Nat) (l : List ZR) (hk : 20 < k) : (forecast_Check.f k l = some 0 ∧ VF l) ∨ (¬ VF l ∧ ∃ c, c ≠ 0 ∧ forecast_Check.f k l = some c) := by
  obtain ⟨k, rfl⟩ : ∃ q, k = q + 1 := ⟨k - 1, by omega⟩
  unfold forecast_Check.f
  simp only [forecast_Check.j0]
  by_cases c1 : (l.length : Int) < 1
  · rw [if_pos c1, if_pos trivial]; exact .inr ⟨fun v => by have := v.n; omega, 2, by omega, rfl⟩
  rw [if_neg c1]
  by_cases c2 : (l.length : Int) > 4
  · rw [decide_eq_true c2, if_pos rfl]; exact .inr ⟨fun v => by have := v.n; omega, 2, by omega, rfl⟩
  rw [decide_eq_false c2, if_neg (by decide)]
  exact fcheck_loop l (by omega) l.length k 0 (by omega) (by omega) (by omega) (fun i a b => by omega) (fun i a b => by omega) (fun i a b => by omega)
/-- The day of a rule in a year. -/
structure OnRule (r : ZR) (y t D : Int) : Prop where
  v : Valid y r.f0 D
  e : dayOf y r.f0 D = t
  w : (t - 1) % 7 = r.f2
  wk : r.f1 < 5 → (D + 6) / 7 = r.f1
  last : r.f1 = 5 → len y r.f0 < D + 7
theorem cum_bd (y m : Int) (h1 : 1 ≤ m) (h2 : m ≤ 12) : 0 ≤ cum y m ∧ cum y m ≤ 335 := by
  have a := cum_succ y m h1 h2
  have hl := lp_cases y
  have b := len_lo y m
  unfold cum cumT at *
  rcases months12 h1 h2 with rfl | rfl | rfl | rfl | rfl | rfl | rfl | rfl | rfl | rfl | rfl | rfl <;> simp <;> omega
theorem bg_bd (y : Int) (h1 : -10001 ≤ y) (h2 : y ≤ 10001) : -3660000 ≤ bg y ∧ bg y ≤ 3660000 := by unfold bg; omega
theorem day_down (r : ZR) (ok : RuleOk r) (y : Int) (h1 : -10000 ≤ y) (h2 : y ≤ 10000) (a b c e : Int) (s : ByteArray) (d : Nat) : ∀ (k : Nat) (x : Int), x = len y r.f0 + d → x ≤ 31 → d + 50 < k →
    forecast_day.l0 k a b r.f2 c e s y r.f0 x = some (dayOf y r.f0 (len y r.f0) - (dayOf y r.f0 (len y r.f0) - 1 - r.f2) % 7) := by
  have hmo := ok.mo
  have hl := len_lo y r.f0
  induction d with
  | zero =>
    intro k x hx hx1 hk
    obtain ⟨k, rfl⟩ : ∃ q, k = q + 1 := ⟨k - 1, by omega⟩
    simp only [forecast_day.l0]
    rw [day_any k (by omega) y r.f0 x h1 h2 ⟨hmo.1, hmo.2, by omega, by omega⟩]
    simp only [Option.bind_some]
    obtain rfl : x = len y r.f0 := by omega
    have hb := bg_bd y (by omega) (by omega)
    have hc := cum_bd y r.f0 hmo.1 hmo.2
    have hd : -3999990 ≤ dayOf y r.f0 (len y r.f0) ∧ dayOf y r.f0 (len y r.f0) ≤ 4000000 := by unfold dayOf; omega
    generalize dayOf y r.f0 (len y r.f0) = last at *
    rw [if_pos trivial, nth_lasta k (by omega) last r.f2 hd.1 hd.2 ok.wd.1 ok.wd.2]
    simp only [Option.bind_some]
  | succ d ih =>
    intro k x hx hx1 hk
    obtain ⟨k, rfl⟩ : ∃ q, k = q + 1 := ⟨k - 1, by omega⟩
    simp only [forecast_day.l0]
    rw [day_bad k (by omega) y r.f0 x h1 h2 (fun v => by have := v.2.2.2; omega)]
    simp only [Option.bind_some]
    rw [if_neg (by decide), w64 (n := x - 1) (by omega) (by omega)]
    exact ih k (x - 1) (by omega) (by omega) (by omega)
theorem fday_is (k : Nat) (r : ZR) (ok : RuleOk r) (y : Int) (h1 : -10000 ≤ y) (h2 : y ≤ 10000) (hk : 100 < k) : ∃ t D, forecast_day.f k r.f0 r.f1 r.f2 r.f3 r.f4 r.f5 y = some t ∧ OnRule r y t D := by
  have hmo := ok.mo; have hwk := ok.wk; have hwd := ok.wd
  have hl := len_lo y r.f0
  have hb := bg_bd y (by omega) (by omega)
  have hc := cum_bd y r.f0 hmo.1 hmo.2
  unfold forecast_day.f
  by_cases c : r.f1 = 5
  · rw [if_pos c, day_down r ok y h1 h2 _ _ _ _ _ (31 - len y r.f0).toNat k 31 (by omega) (by omega) (by omega)]
    refine ⟨_, len y r.f0 - (dayOf y r.f0 (len y r.f0) - 1 - r.f2) % 7, rfl, ⟨hmo.1, hmo.2, by omega, by omega⟩, ?_, by omega, fun h => by omega, fun _ => by omega⟩
    unfold dayOf; omega
  · rw [if_neg c, day_any k (by omega) y r.f0 1 h1 h2 ⟨hmo.1, hmo.2, by omega, by omega⟩]
    simp only [Option.bind_some]
    have ed : dayOf y r.f0 1 = bg y + cum y r.f0 + 1 := rfl
    rw [nth_posa k (by omega) (dayOf y r.f0 1) r.f2 r.f1 (by omega) (by omega) hwd.1 hwd.2 hwk.1 (by omega) (by omega)]
    refine ⟨_, 1 + (r.f2 - (dayOf y r.f0 1 - 1)) % 7 + 7 * (r.f1 - 1), rfl, ⟨hmo.1, hmo.2, by omega, by omega⟩, ?_, by omega, fun _ => by omega, fun h => absurd h c⟩
    unfold dayOf; omega
def zc (l : List ZC) (i : Int) : ZC := rd_T69 l i
def bf (before : Int) (l : List ZR) (i : Int) : Int := if i = 0 then before else (rr l (i - 1)).f4
/-- The change that a rule makes in a year. -/
structure Made (before : Int) (l : List ZR) (y : Int) (i : Int) (c : ZC) : Prop where
  t : ∃ t D, OnRule (rr l i) y t D ∧ c.f0 = t * 86400000 + (rr l i).f3 - bf before l i
  off : c.f1 = (rr l i).f4
  lab : c.f2 = (rr l i).f5
theorem bf_ok {before : Int} {l : List ZR} (v : VF l) (hb : offOk before) (i : Int) (h0 : 0 ≤ i) (h1 : i ≤ l.length) : offOk (bf before l i) := by
  unfold bf
  split
  · exact hb
  · exact (v.r (i - 1) (by omega) (by omega)).off
theorem on_bd {r : ZR} {y t D : Int} (o : OnRule r y t D) (h1 : -10000 ≤ y) (h2 : y ≤ 10000) : -3700000 ≤ t ∧ t ≤ 3700000 := by
  have hb := bg_bd y (by omega) (by omega)
  have v := o.v
  unfold Valid at v
  have hc := cum_bd y r.f0 v.1 v.2.1
  have hl := len_lo y r.f0
  have e := o.e
  unfold dayOf at e
  omega
theorem zc_last (acc : List ZC) (c : ZC) (j : Int) (h : (acc.length : Int) = j) : zc (acc ++ [c]) j = c := by
  unfold zc rd_T69
  rw [List.getD_eq_getElem?_getD, List.getElem?_append_right (by omega), show j.toNat - acc.length = 0 from by omega]
  rfl
theorem zc_old (acc : List ZC) (c : ZC) (i : Int) (h0 : 0 ≤ i) (h : i < acc.length) : zc (acc ++ [c]) i = zc acc i := by
  unfold zc rd_T69
  rw [List.getD_eq_getElem?_getD, List.getD_eq_getElem?_getD, List.getElem?_append_left (by omega)]
theorem year_loop (l : List ZR) (v : VF l) (before y : Int) (hb : offOk before) (h1 : -10000 ≤ y) (h2 : y ≤ 10000) (d : Nat) : ∀ (k : Nat) (acc : List ZC) (j : Int), 0 ≤ j → j + d = l.length → d + 150 < k → (acc.length : Int) = j → (∀ i : Int, 0 ≤ i → i < j → Made before l y i (zc acc i)) →
    ∃ out, forecast_Year.l0 k (bf before l j) y acc l (l.length : Int) j = some (out, 0) ∧ out.length = l.length ∧ ∀ i : Int, 0 ≤ i → i < l.length → Made before l y i (zc out i) := by
  have hn := v.n
  induction d with
  | zero =>
    intro k acc j h0 hj hk ha hm
    obtain ⟨k, rfl⟩ : ∃ q, k = q + 1 := ⟨k - 1, by omega⟩
    obtain rfl : j = l.length := by omega
    refine ⟨acc, ?_, by omega, hm⟩
    simp only [forecast_Year.l0]
    rw [if_neg (by omega)]
  | succ d ih =>
    intro k acc j h0 hj hk ha hm
    obtain ⟨k, rfl⟩ : ∃ q, k = q + 1 := ⟨k - 1, by omega⟩
    have ok := v.r j h0 (by omega)
    have hbo := bf_ok v hb j h0 (by omega)
    unfold offOk at hbo
    obtain ⟨t, D, e, on⟩ := fday_is k (rr l j) ok y h1 h2 (by omega)
    have ht := on_bd on h1 h2
    have hms := ok.ms
    have hr : rd_T76 l j = rr l j := rfl
    simp only [forecast_Year.l0]
    rw [if_pos (by omega), if_pos h0, if_pos (by omega), hr, e]
    simp only [Option.bind_some]
    rw [if_pos (by omega), w64 (n := t * 86400000) (by omega) (by omega), w64 (n := t * 86400000 + (rr l j).f3) (by omega) (by omega), w64 (n := t * 86400000 + (rr l j).f3 - bf before l j) (by omega) (by omega), w64 (n := j + 1) (by omega) (by omega)]
    have eb : bf before l (j + 1) = (rr l j).f4 := by unfold bf; rw [if_neg (by omega), show j + 1 - 1 = j from by omega]
    rw [← eb]
    refine ih k _ (j + 1) (by omega) (by omega) (by omega) (by simp; omega) (fun i a b => ?_)
    by_cases z : i = j
    · subst z
      rw [zc_last acc _ i ha]
      exact ⟨⟨t, D, on, rfl⟩, eb, rfl⟩
    · rw [zc_old acc _ i a (by omega)]
      exact hm i a (by omega)
theorem Year_is (k : Nat) (l : List ZR) (v : VF l) (before y : Int) (hb : offOk before) (h1 : -10000 ≤ y) (h2 : y ≤ 10000) (hk : 200 < k) :
    ∃ out, forecast_Year.f k l before y = some (out, 0) ∧ out.length = l.length ∧ ∀ i : Int, 0 ≤ i → i < l.length → Made before l y i (zc out i) := by
  obtain ⟨k, rfl⟩ : ∃ q, k = q + 1 := ⟨k - 1, by omega⟩
  have hn := v.n
  unfold forecast_Year.f
  rcases fcheck_is (k + 1) l (by omega) with ⟨e, _⟩ | ⟨n, _⟩
  rotate_left
  · exact absurd v n
  rw [e]
  simp only [Option.bind_some]
  obtain ⟨b, eb, hbb⟩ := isoff_is before
  rw [if_pos trivial, eb]
  simp only [Option.bind_some]
  rw [if_pos (hbb.mpr hb), if_neg (by omega), decide_eq_false (by omega)]
  simp only [forecast_Year.j0]
  rw [if_neg (by decide)]
  have := year_loop l v before y hb h1 h2 l.length k [] 0 (by omega) (by omega) (by omega) (by simp) (fun i a b => by omega)
  rw [show bf before l 0 = before from rfl] at this
  exact this

/-- Seven days behind the last days of a month another month is. -/
theorem not_same {r : ZR} {Y t D Y2 M2 D2 : Int} (on : OnRule r Y t D) (hl : len Y r.f0 < D + 7) (v2 : Valid Y2 M2 D2) (e2 : dayOf Y2 M2 D2 = dayOf Y r.f0 D + 7) (cm : M2 = r.f0) : False := by
  subst cm
  have v1 := on.v
  have k1 := day_year Y2 r.f0 D2 v2
  have k2 := day_year Y r.f0 D v1
  have l1 := lp_cases Y
  have l2 := lp_cases Y2
  have d1 := cum_bd Y r.f0 v1.1 v1.2.1
  have d2 := cum_bd Y2 r.f0 v1.1 v1.2.1
  have n1 := len_lo Y r.f0
  have n2 := len_lo Y2 r.f0
  have b1 := bg_succ Y
  have b2 := bg_succ Y2
  have c3 : cum Y r.f0 ≤ cum Y2 r.f0 + 1 := by
    unfold cum
    split <;> omega
  have c4 : cum Y2 r.f0 ≤ cum Y r.f0 + 1 := by
    unfold cum
    split <;> omega
  unfold Valid at v1 v2
  unfold dayOf at e2 k1 k2
  by_cases z : Y2 < Y
  · have := bg_lt Y2 Y z
    omega
  by_cases z' : Y < Y2
  · have := bg_lt Y Y2 z'
    omega
  obtain rfl : Y2 = Y := by omega
  omega
theorem summer_is (k : Nat) (hk : 300 ≤ k) : ∃ out : List ZC, forecast_Year.f k (([(⟨3, 5, 6, 0, 3600000, (⟨#[83]⟩ : ByteArray)⟩ : ZR)] : List ZR)) 0 2024 = some (out, 0) ∧ out.length = 1 ∧ (rd_T69 out 0).f0 = 63847526400000 := by
  have e : (forecast_Year.f 300 (([(⟨3, 5, 6, 0, 3600000, (⟨#[83]⟩ : ByteArray)⟩ : ZR)] : List ZR)) 0 2024).map (fun p => (p.2, p.1.length, (rd_T69 p.1 0).f0)) = some (0, 1, 63847526400000) := by decide +kernel
  obtain ⟨⟨out, c⟩, e1, e2⟩ := Option.map_eq_some_iff.mp e
  simp only [Prod.mk.injEq] at e2
  obtain ⟨rfl, e3, e4⟩ := e2
  exact ⟨out, at_rounds (g := fun k => forecast_Year.f k (([(⟨3, 5, 6, 0, 3600000, (⟨#[83]⟩ : ByteArray)⟩ : ZR)] : List ZR)) 0 2024) (fun k => forecast_Year.mono _ _ _ k) hk e1, e3, e4⟩
theorem weekdays_loop (l : List ZR) (v : VF l) (before y : Int) (hb : offOk before) (h1 : -3000 ≤ y) (h2 : y ≤ 3000) (out : List ZC) (ho : out.length = l.length) (hm : ∀ i : Int, 0 ≤ i → i < l.length → Made before l y i (zc out i)) (d : Nat) : ∀ (k : Nat) (j : Int), 0 ≤ j → j + d = l.length → 2 * d + 150 < k →
    ephemeriskeep1_ForecastWeekdays.l0 k l (bf before l j) y out out (out.length : Int) j = some true := by
  have hn := v.n
  induction d with
  | zero =>
    intro k j h0 hj hk
    obtain ⟨k, rfl⟩ : ∃ q, k = q + 1 := ⟨k - 1, by omega⟩
    simp only [ephemeriskeep1_ForecastWeekdays.l0]
    rw [if_neg (by omega), ho]
    simp
  | succ d ih =>
    intro k j h0 hj hk
    obtain ⟨k, rfl⟩ : ∃ q, k = q + 2 := ⟨k - 2, by omega⟩
    have ok := v.r j h0 (by omega)
    have hbo := bf_ok v hb j h0 (by omega)
    unfold offOk at hbo
    have m := hm j h0 (by omega)
    obtain ⟨t, D, on, e0⟩ := m.t
    have ht := on_bd on (by omega) (by omega)
    have hbg : bg y ≤ 1200000 ∧ -1200000 ≤ bg y := by unfold bg; omega
    have hcm := cum_bd y (rr l j).f0 ok.mo.1 ok.mo.2
    have hln := len_lo y (rr l j).f0
    have onv := on.v
    have one := on.e
    unfold Valid at onv
    have ht2 : -1300000 ≤ t ∧ t ≤ 1300000 := by unfold dayOf at one; omega
    have hms := ok.ms
    have hr : rd_T76 l j = rr l j := rfl
    have hz : rd_T69 out j = zc out j := rfl
    simp only [ephemeriskeep1_ForecastWeekdays.l0]
    rw [if_pos (by omega), if_pos h0, if_pos (by omega), hz, hr, e0, m.off, w64 (n := t * 86400000 + (rr l j).f3 - bf before l j + bf before l j) (by omega) (by omega)]
    rw [show t * 86400000 + (rr l j).f3 - bf before l j + bf before l j = t * 86400000 + (rr l j).f3 from by omega, split_ok k _ (by omega) (by omega), show (t * 86400000 + (rr l j).f3) / 86400000 = t from by omega, show (t * 86400000 + (rr l j).f3) % 86400000 = (rr l j).f3 from by omega]
    simp only [Option.bind_some]
    obtain ⟨Y, M, D', e1, v1, e1', _⟩ := date_any (k + 1) (by omega) t (by omega) (by omega)
    obtain ⟨rfl, rfl, rfl⟩ := date_unique v1 on.v (by rw [e1', on.e])
    rw [e1]
    simp only [Option.bind_some]
    rw [weekday_is t (by omega) (by omega)]
    simp only [Option.bind_some]
    rw [if_pos (by omega), if_pos on.w, if_pos trivial, if_pos trivial]
    simp only [ephemeriskeep1_ForecastWeekdays.j2]
    rw [if_neg (by simp), w64 (n := t + 7) (by omega) (by omega)]
    obtain ⟨Y2, M2, D2, e2, v2, e2', _⟩ := date_any k (by omega) (t + 7) (by omega) (by omega)
    rw [e2]
    simp only [Option.bind_some]
    rw [if_pos h0, if_pos (by omega), hr, w64 (n := D' + 6) (by omega) (by omega), tdiv_pos (show 0 ≤ D' + 6 by omega), w64 (n := (D' + 6) / 7) (by omega) (by omega), w64 (n := j + 1) (by omega) (by omega)]
    have eb : bf before l (j + 1) = (rr l j).f4 := by unfold bf; rw [if_neg (by omega), show j + 1 - 1 = j from by omega]
    have next := ih k (j + 1) (by omega) (by omega) (by omega)
    rw [eb] at next
    have hwk := ok.wk
    by_cases c5 : (rr l j).f1 < 5
    · rw [if_pos c5, if_pos (on.wk c5), if_neg (by omega)]
      exact next
    · have c : (rr l j).f1 = 5 := by omega
      rw [if_neg c5, if_pos c]
      by_cases cm : M2 = (rr l j).f0
      · exfalso
        exact not_same on (on.last c) v2 (by rw [e2', on.e]) cm
      · rw [if_neg cm]
        exact next
theorem ForecastWeekdays : ephemeriskeep1_ForecastWeekdays.Pure := by
  intro l before y0 hl hb0 hy
  obtain ⟨K, hK⟩ : ∃ K : Nat, 999 < K := ⟨1000, by omega⟩
  refine ⟨K + 3, ?_⟩
  unfold ephemeriskeep1_ForecastWeekdays.f
  obtain ⟨out, e, e1, e2⟩ := summer_is (K + 3) (by omega)
  rw [e]
  simp only [Option.bind_some]
  rw [if_pos trivial, if_pos (by omega), if_pos (by omega), e2]
  simp only [ephemeriskeep1_ForecastWeekdays.j0]
  rw [if_neg (by decide)]
  obtain ⟨y, e, y1, y2, _⟩ := cut_is y0 (-3000) 6000 (by omega) (by omega) (by omega) (by omega)
  rw [e]
  simp only [Option.bind_some]
  rcases fcheck_is (K + 2) l (by omega) with ⟨ec, v⟩ | ⟨_, c, hc, ec⟩
  · obtain ⟨b, eb, hbb⟩ := isoff_is before
    by_cases hb : offOk before
    · obtain ⟨out, e, ho, hm⟩ := Year_is (K + 2) l v before y hb (by omega) (by omega) (by omega)
      rw [e]
      simp only [Option.bind_some]
      rw [if_pos trivial]
      have := weekdays_loop l v before y hb (by omega) (by omega) out ho hm l.length (K + 2) 0 (by omega) (by omega) (by have := v.n; omega)
      rw [show bf before l 0 = before from rfl] at this
      exact this
    · have hbf : b = false := by
        cases b with
        | true => exact absurd (hbb.mp rfl) hb
        | false => rfl
      have e3 : forecast_Year.f (K + 2) l before y = some ([], 3) := by
        unfold forecast_Year.f
        rw [ec]
        simp only [Option.bind_some]
        rw [if_pos trivial, eb, hbf]
        simp only [Option.bind_some]
        rw [if_neg (by decide)]
        simp only [forecast_Year.j0]
        rw [if_pos trivial]
      rw [e3]
      simp only [Option.bind_some]
      rw [if_neg (by decide)]
  · have e3 : forecast_Year.f (K + 2) l before y = some ([], c) := by
      unfold forecast_Year.f
      rw [ec]
      simp only [Option.bind_some]
      rw [if_neg hc]
    rw [e3]
    simp only [Option.bind_some]
    rw [if_neg hc]

end Go.Proofs.Ytboddbgmgcjppaa.Pure
