/- For every day from -3600000 to 3599999 (so LineBack cuts its argument), the day of the date of the day is the day, and the date of the next day is the next date. No conditions. -/
import Derived.Test.YtboddbgmgcjppaaPLineBackx2
namespace Go.Proofs.Ytboddbgmgcjppaa.Pure
open Go.RowKit Go.Proofs.Ytboddbgmgcjppaa.PLineBack Go.Proofs.YtboddbgmgcjppaaW.PrintWords Go.Proofs.YtboddbgmgcjppaaW.PrintLast

theorem lit64 {a : Int} (h : (Go.Lit.int .i64 a).wf = true) : -9223372036854775808 ≤ a ∧ a ≤ 9223372036854775807 := by
  simp only [Go.Lit.wf, Bool.and_eq_true, decide_eq_true_eq] at h
  have h1 : Go.IntKind.i64.min = -9223372036854775808 := by decide
  have h2 : Go.IntKind.i64.max = 9223372036854775807 := by decide
  omega
theorem w64 {n : Int} (h1 : -9223372036854775808 ≤ n) (h2 : n ≤ 9223372036854775807) : wrap64 n = n := by unfold wrap64; omega
theorem w64r (n : Int) : -9223372036854775808 ≤ wrap64 n ∧ wrap64 n ≤ 9223372036854775807 := by unfold wrap64; omega
theorem tmod_pos {a b : Int} (ha : 0 ≤ a) : Int.tmod a b = a % b := by rw [Int.tmod_eq_emod, if_pos (Or.inl ha)]; simp
theorem tdiv_pos {a b : Int} (ha : 0 ≤ a) : Int.tdiv a b = a / b := by rw [Int.tdiv_eq_ediv, if_pos (Or.inl ha)]; simp
theorem tmod_bounds {a b : Int} (hb : 0 < b) : -b < Int.tmod a b ∧ Int.tmod a b < b ∧ (0 ≤ a → 0 ≤ Int.tmod a b) ∧ (a ≤ 0 → Int.tmod a b ≤ 0) := by
  rw [Int.tmod_eq_emod]
  have h1 := Int.emod_nonneg a (show b ≠ 0 by omega)
  have h2 := Int.emod_lt_of_pos a hb
  split
  · rename_i h
    refine ⟨by omega, by omega, fun _ => by omega, fun h0 => ?_⟩
    rcases h with h | h
    · have : a = 0 := by omega
      subst this; simp
    · rw [Int.emod_eq_zero_of_dvd h]; simp
  · refine ⟨by omega, by omega, fun _ => by omega, fun _ => by omega⟩
/-- tmod and tdiv against emod and ediv, for a positive divisor. -/
theorem tmod_cases {a b : Int} (hb : 0 < b) : (Int.tmod a b = a % b ∧ Int.tdiv a b = a / b ∧ (0 ≤ a ∨ a % b = 0)) ∨ (a < 0 ∧ a % b ≠ 0 ∧ Int.tmod a b = a % b - b ∧ Int.tdiv a b = a / b + 1) := by
  by_cases h : 0 ≤ a ∨ b ∣ a
  · left
    refine ⟨by rw [Int.tmod_eq_emod, if_pos h]; simp, by rw [Int.tdiv_eq_ediv, if_pos h]; simp, h.imp id Int.emod_eq_zero_of_dvd⟩
  · right
    have h' := not_or.mp h
    refine ⟨by omega, fun e => h'.2 (Int.dvd_of_emod_eq_zero e), ?_, ?_⟩
    · rw [Int.tmod_eq_emod, if_neg h]; omega
    · rw [Int.tdiv_eq_ediv, if_neg h, Int.sign_eq_one_of_pos hb]
theorem ediv_range {a b : Int} (hb : 0 < b) (h1 : -9223372036854775808 ≤ a) (h2 : a ≤ 9223372036854775807) : -9223372036854775808 ≤ a / b ∧ a / b ≤ 9223372036854775807 := by
  have e := Int.mul_ediv_add_emod a b
  have l := Int.emod_nonneg a (show b ≠ 0 by omega)
  have u := Int.emod_lt_of_pos a hb
  constructor
  · by_cases c : 0 ≤ a
    · have := Int.ediv_nonneg c (show 0 ≤ b by omega); omega
    · have : a ≤ a / b := by
        rw [Int.le_ediv_iff_mul_le hb]
        have : a * b ≤ a * 1 := Int.mul_le_mul_of_nonpos_left (by omega) (by omega)
        omega
      omega
  · by_cases c : 0 ≤ a
    · have : a / b ≤ a := Int.ediv_le_self b c
      omega
    · have : a / b ≤ 0 := by
        have : a / b < 0 := Int.ediv_neg_of_neg_of_pos (by omega) hb
        omega
      omega
/-- the remainder from 0 on, as the program computes it twice. -/
theorem mod_twice {a b : Int} (hb : 0 < b) (hb2 : b ≤ 4611686018427387904) : Int.tmod (wrap64 ((Int.tmod a b) + b)) b = a % b := by
  have hc := tmod_bounds (a := a) hb
  have h1 := Int.emod_nonneg a (show b ≠ 0 by omega)
  have h2 := Int.emod_lt_of_pos a hb
  rw [w64 (by omega) (by omega)]
  rw [tmod_pos (by omega)]
  rcases tmod_cases (a := a) hb with ⟨e, _, _⟩ | ⟨_, _, e, _⟩
  · rw [e]; simp
  · rw [e, show a % b - b + b = a % b from by omega]; simp

theorem mod_is (a b : Int) (hb : 0 < b) (hb2 : b ≤ 4611686018427387904) : ephemeriskeep1_mod.f a b = some (a % b) := by
  unfold ephemeriskeep1_mod.f
  rw [if_neg (by omega), mod_twice hb hb2]
theorem cut_is (a l n : Int) (hn : 0 < n) (hn2 : n ≤ 4611686018427387904) (h1 : -4611686018427387904 ≤ l) (h2 : l ≤ 4611686018427387904) :
    ∃ r, ephemeriskeep1_cut.f a l n = some r ∧ l ≤ r ∧ r < l + n ∧ r = l + a % n := by
  have h3 := Int.emod_nonneg a (show n ≠ 0 by omega)
  have h4 := Int.emod_lt_of_pos a hn
  refine ⟨l + a % n, ?_, by omega, by omega, rfl⟩
  unfold ephemeriskeep1_cut.f
  rw [mod_is a n hn hn2, Option.bind_some, w64 (by omega) (by omega)]

theorem div_is (k : Nat) (a b : Int) (hb : 0 < b) (h1 : -9223372036854775808 ≤ a) (h2 : a ≤ 9223372036854775807) (hb2 : b ≤ 4611686018427387904) :
    whole_Div.f (k + 1) a b = some (a / b, a % b, 0) := by
  have hj : whole_Div.j0 (k + 1) a b false = some (a / b, a % b, 0) := by
    have hm1 := Int.emod_nonneg a (show b ≠ 0 by omega)
    have hm2 := Int.emod_lt_of_pos a hb
    have hr := ediv_range hb h1 h2
    simp only [whole_Div.j0]
    rw [if_neg (by decide), if_neg (by omega)]
    rcases tmod_cases (a := a) hb with ⟨e, e', c⟩ | ⟨c, c', e, e'⟩
    · rw [e, e', w64 hr.1 hr.2]
      by_cases z : a % b = 0
      · rw [if_pos z, z]
      · rw [if_neg z, if_neg]
        have hd1 : decide (a % b < 0) = false := decide_eq_false (by omega)
        have hd2 : decide (b < 0) = false := decide_eq_false (by omega)
        rw [hd1, hd2]; decide
    · rw [e, e']
      have hr2 : a / b < 0 := Int.ediv_neg_of_neg_of_pos c hb
      rw [w64 (by omega) (by omega)]
      have hd1 : decide (a % b - b < 0) = true := decide_eq_true (by omega)
      have hd2 : decide (b < 0) = false := decide_eq_false (by omega)
      rw [if_neg (by omega), hd1, hd2, if_pos (by decide), w64 (by omega) (by omega), w64 (by omega) (by omega)]
      congr 2
      · omega
      · congr 1; omega
  unfold whole_Div.f
  rw [if_neg (by omega)]
  by_cases c : a = -9223372036854775808
  · rw [if_pos c]
    have : (b == -1) = false := beq_eq_false_iff_ne.mpr (by omega)
    rw [this]; exact hj
  · rw [if_neg c]; exact hj

def lp (y : Int) : Int := if y % 4 = 0 then (if y % 100 = 0 then (if y % 400 = 0 then 1 else 0) else 1) else 0
theorem lp_cases (y : Int) : lp y = 0 ∨ lp y = 1 := by unfold lp; split <;> (try split) <;> (try split) <;> simp
def bg (y : Int) : Int := 365 * (y - 1) + (y - 1) / 4 - (y - 1) / 100 + (y - 1) / 400
theorem bg_succ (y : Int) : bg (y + 1) = bg y + 365 + lp y := by
  unfold bg lp
  split <;> (try split) <;> (try split) <;> omega
def len (y m : Int) : Int := if m = 2 then 28 + lp y else if m = 4 then 30 else if m = 6 then 30 else if m = 9 then 30 else if m = 11 then 30 else 31
def cumT (m : Int) : Int := if m ≤ 1 then 0 else if m = 2 then 31 else if m = 3 then 59 else if m = 4 then 90 else if m = 5 then 120 else if m = 6 then 151 else if m = 7 then 181 else if m = 8 then 212 else if m = 9 then 243 else if m = 10 then 273 else if m = 11 then 304 else if m = 12 then 334 else 365
def cum (y m : Int) : Int := cumT m + if m ≤ 2 then 0 else lp y
theorem months12 {m : Int} (h1 : 1 ≤ m) (h2 : m ≤ 12) : m = 1 ∨ m = 2 ∨ m = 3 ∨ m = 4 ∨ m = 5 ∨ m = 6 ∨ m = 7 ∨ m = 8 ∨ m = 9 ∨ m = 10 ∨ m = 11 ∨ m = 12 := by omega
theorem cum_one (y : Int) : cum y 1 = 0 := by simp [cum, cumT]
theorem cum_end (y : Int) : cum y 13 = 365 + lp y := by simp [cum, cumT]
theorem cum_succ (y m : Int) (h1 : 1 ≤ m) (h2 : m ≤ 12) : cum y (m + 1) = cum y m + len y m := by
  rcases months12 h1 h2 with h | h | h | h | h | h | h | h | h | h | h | h <;> subst h <;> simp [cum, cumT, len] <;> omega
theorem len_lo (y m : Int) : 28 ≤ len y m ∧ len y m ≤ 31 := by
  have := lp_cases y
  unfold len
  split <;> (try split) <;> (try split) <;> (try split) <;> (try split) <;> omega
theorem cum_mono (y : Int) (n : Nat) : ∀ m : Int, 1 ≤ m → m + n ≤ 13 → cum y m + 28 * n ≤ cum y (m + n) := by
  induction n with
  | zero => intro m _ _; simp
  | succ n ih =>
    intro m h1 h2
    have h3 := ih m h1 (by omega)
    have h4 := cum_succ y (m + n) (by omega) (by omega)
    have h5 := len_lo y (m + n)
    rw [show m + ((n + 1 : Nat) : Int) = m + n + 1 from by omega]
    omega
theorem cum_lt (y m m' : Int) (h1 : 1 ≤ m) (h2 : m < m') (h3 : m' ≤ 13) : cum y m + len y m ≤ cum y m' := by
  have e := cum_succ y m h1 (by omega)
  have := cum_mono y (m' - (m + 1)).toNat (m + 1) (by omega) (by omega)
  rw [show m + 1 + ((m' - (m + 1)).toNat : Int) = m' from by omega] at this
  omega
theorem bg_mono (n : Nat) : ∀ y : Int, bg y + 365 * n ≤ bg (y + n) := by
  induction n with
  | zero => intro y; simp
  | succ n ih =>
    intro y
    have h1 := ih y
    have h2 := bg_succ (y + n)
    have h3 := lp_cases (y + n)
    rw [show y + ((n + 1 : Nat) : Int) = y + n + 1 from by omega]
    omega
theorem bg_lt (y y' : Int) (h : y < y') : bg y + 365 + lp y ≤ bg y' := by
  have e := bg_succ y
  have := bg_mono (y' - (y + 1)).toNat (y + 1)
  rw [show y + 1 + ((y' - (y + 1)).toNat : Int) = y' from by omega] at this
  omega
/-- a date of the calendar, and the day on which it is. -/
def Valid (y m d : Int) : Prop := 1 ≤ m ∧ m ≤ 12 ∧ 1 ≤ d ∧ d ≤ len y m
def dayOf (y m d : Int) : Int := bg y + cum y m + d
theorem day_year (y m d : Int) (h : Valid y m d) : bg y < dayOf y m d ∧ dayOf y m d ≤ bg (y + 1) := by
  obtain ⟨h1, h2, h3, h4⟩ := h
  have e := cum_lt y m 13 h1 (by omega) (by omega)
  have e2 := cum_end y
  have e3 := bg_succ y
  have e4 : 0 ≤ cum y m := by
    by_cases c : m = 1
    · subst c; rw [cum_one]; omega
    · have := cum_lt y 1 m (by omega) (by omega) (by omega); have := cum_one y; have := len_lo y 1; omega
  unfold dayOf; omega
theorem date_unique {y m d y' m' d' : Int} (h : Valid y m d) (h' : Valid y' m' d') (e : dayOf y m d = dayOf y' m' d') : y = y' ∧ m = m' ∧ d = d' := by
  have a := day_year y m d h
  have a' := day_year y' m' d' h'
  have ey : y = y' := by
    by_cases c : y < y'
    · have := bg_lt y y' c; have := bg_succ y; omega
    · by_cases c' : y' < y
      · have := bg_lt y' y c'; have := bg_succ y'; omega
      · omega
  subst ey
  obtain ⟨h1, h2, h3, h4⟩ := h
  obtain ⟨h1', h2', h3', h4'⟩ := h'
  unfold dayOf at e
  have em : m = m' := by
    by_cases c : m < m'
    · have := cum_lt y m m' h1 c (by omega); omega
    · by_cases c' : m' < m
      · have := cum_lt y m' m h1' c' (by omega); omega
      · omega
  subst em
  exact ⟨rfl, rfl, by omega⟩
/-- the day behind a date. -/
theorem date_next {y m d y' m' d' : Int} (h : Valid y m d) (h' : Valid y' m' d') (e : dayOf y' m' d' = dayOf y m d + 1) :
    (y' = y ∧ m' = m ∧ d' = d + 1) ∨ (d' = 1 ∧ y' = y ∧ m' = m + 1 ∧ d = len y m) ∨ (d' = 1 ∧ y' = y + 1 ∧ m' = 1 ∧ m = 12 ∧ d = len y m) := by
  obtain ⟨h1, h2, h3, h4⟩ := h
  by_cases c : d < len y m
  · left
    exact date_unique h' (show Valid y m (d + 1) from ⟨h1, h2, by omega, by omega⟩) (by rw [e]; unfold dayOf; omega)
  · have hd : d = len y m := by omega
    right
    by_cases c2 : m < 12
    · left
      have l := len_lo y (m + 1)
      have := date_unique h' (show Valid y (m + 1) 1 from ⟨by omega, by omega, by omega, by omega⟩) (by rw [e]; unfold dayOf; rw [cum_succ y m h1 h2]; omega)
      exact ⟨this.2.2, this.1, this.2.1, hd⟩
    · right
      have hm : m = 12 := by omega
      have l := len_lo (y + 1) 1
      have e1 := cum_succ y 12 (by omega) (by omega)
      have e2 := cum_end y
      have := date_unique h' (show Valid (y + 1) 1 1 from ⟨by omega, by omega, by omega, by omega⟩) (by rw [e]; unfold dayOf; rw [bg_succ, cum_one, hd, hm]; rw [show (12 : Int) + 1 = 13 from rfl] at e1; omega)
      exact ⟨this.2.2, this.1, this.2.1, hm, hd⟩

theorem check_ok (d : Int) (h1 : -4000000 ≤ d) (h2 : d ≤ 4000000) : line_Check.f d = some 0 := by
  unfold line_Check.f
  rw [if_neg (by omega), if_neg (by omega)]
theorem check_bad (d : Int) (h : d < -4000000 ∨ 4000000 < d) : line_Check.f d = some 3 := by
  unfold line_Check.f
  by_cases c : d < -4000000
  · rw [if_pos c]
  · rw [if_neg c, if_pos (by omega)]

theorem tmod_zero (a n : Int) (hn : 0 < n) : (Int.tmod a n = 0) = (a % n = 0) := by
  apply propext
  rcases tmod_cases (a := a) hn with ⟨e, _, _⟩ | ⟨_, h, e, _⟩
  · rw [e]
  · have := Int.emod_lt_of_pos a hn
    rw [e]; constructor
    · intro h2; omega
    · intro h2; exact absurd h2 h
theorem leap_is (y : Int) : line_leap.f y = some (lp y == 1) := by
  unfold line_leap.f lp
  simp only [tmod_zero _ 4 (by omega), tmod_zero _ 100 (by omega)]
  split
  · split
    · congr 1
      rw [Bool.eq_iff_iff, beq_iff_eq, tmod_zero _ 400 (by omega)]
      split <;> simp_all
    · simp
  · simp
theorem length_is (y m : Int) : line_length.f y m = some (len y m) := by
  unfold line_length.f len
  rw [leap_is]
  split
  · simp only [Option.bind_some]
    rcases lp_cases y with h | h <;> rw [h] <;> simp
  · repeat' split
    all_goals rfl
theorem begin_is (k : Nat) (y : Int) (h1 : -100000 ≤ y) (h2 : y ≤ 100000) : line_begin.f (k + 1) y = some (bg y) := by
  unfold line_begin.f bg
  rw [w64 (n := y - 1) (by omega) (by omega), div_is k (y - 1) 4 (by omega) (by omega) (by omega) (by omega)]
  simp only [Option.bind_some]
  rw [div_is k (y - 1) 100 (by omega) (by omega) (by omega) (by omega)]
  simp only [Option.bind_some]
  rw [div_is k (y - 1) 400 (by omega) (by omega) (by omega) (by omega)]
  simp only [Option.bind_some]
  rw [w64 (n := 365 * (y - 1)) (by omega) (by omega), w64 (n := 365 * (y - 1) + (y - 1) / 4) (by omega) (by omega), w64 (n := 365 * (y - 1) + (y - 1) / 4 - (y - 1) / 100) (by omega) (by omega), w64 (by omega) (by omega)]
theorem day_loop (d : Nat) : ∀ (k : Nat) (out m Y M D : Int), 1 ≤ m → m ≤ M → M ≤ 12 → M - m = d → d < k → -100000000 ≤ out → out + cum Y M - cum Y m ≤ 100000000 →
    line_Day.l0 k out m Y M D = some (out + cum Y M - cum Y m, 0) := by
  induction d with
  | zero =>
    intro k out m Y M D h1 h2 h3 hd hk ho1 ho2
    obtain ⟨k, rfl⟩ : ∃ q, k = q + 1 := ⟨k - 1, by omega⟩
    obtain rfl : m = M := by omega
    simp only [line_Day.l0]
    rw [if_neg (by omega)]
    congr 2; omega
  | succ d ih =>
    intro k out m Y M D h1 h2 h3 hd hk ho1 ho2
    obtain ⟨k, rfl⟩ : ∃ q, k = q + 1 := ⟨k - 1, by omega⟩
    have l := len_lo Y m
    have e := cum_succ Y m h1 (by omega)
    have g := cum_lt Y m M h1 (by omega) (by omega)
    simp only [line_Day.l0]
    rw [if_pos (by omega), length_is]
    simp only [Option.bind_some]
    rw [w64 (n := m + 1) (by omega) (by omega), w64 (by omega) (by omega), ih k (out + len Y m) (m + 1) Y M D (by omega) (by omega) h3 (by omega) (by omega) (by omega) (by omega), e]
    congr 2; omega
theorem bg_range (y : Int) (h1 : -100000 ≤ y) (h2 : y ≤ 100000) : -40000000 ≤ bg y ∧ bg y ≤ 40000000 := by unfold bg; omega
theorem day_is (k : Nat) (y m d : Int) (h1 : -10000 ≤ y) (h2 : y ≤ 10000) (hv : Valid y m d) : line_Day.f (k + 20) y m d = some (dayOf y m d, 0) := by
  obtain ⟨v1, v2, v3, v4⟩ := hv
  have r := bg_range y (by omega) (by omega)
  have l := len_lo y m
  unfold line_Day.f
  have e1 : decide (y > 10000) = false := decide_eq_false (by omega)
  rw [if_neg (by omega), e1]
  simp only [line_Day.j0]
  rw [if_neg (by decide), if_neg (by omega), if_neg (by omega), if_neg (by omega), length_is]
  simp only [Option.bind_some]
  have e2 : decide (d > len y m) = false := decide_eq_false (by omega)
  rw [e2]
  simp only [line_Day.j1]
  rw [if_neg (by decide), begin_is _ _ (by omega) (by omega)]
  simp only [Option.bind_some]
  have c := cum_one y
  have g : cum y m ≤ 366 := by
    have := cum_lt y m 13 v1 (by omega) (by omega); have := cum_end y; have := lp_cases y; omega
  have g0 : 0 ≤ cum y m := by
    by_cases z : m = 1
    · subst z; omega
    · have := cum_lt y 1 m (by omega) (by omega) (by omega); have := len_lo y 1; omega
  rw [w64 (by omega) (by omega), day_loop (m - 1).toNat (k + 18) (bg y + d) 1 y m d (by omega) v1 v2 (by omega) (by omega) (by omega) (by omega), c]
  unfold dayOf
  congr 2; omega
theorem day_badarg (k : Nat) (y m d : Int) (h1 : -10000 ≤ y) (h2 : y ≤ 10000) (hv : ¬ Valid y m d) : line_Day.f (k + 20) y m d = some (0, 1) := by
  unfold line_Day.f
  have e1 : decide (y > 10000) = false := decide_eq_false (by omega)
  rw [if_neg (by omega), e1]
  simp only [line_Day.j0]
  rw [if_neg (by decide)]
  by_cases c1 : m < 1
  · rw [if_pos c1]; simp [line_Day.j1]
  · rw [if_neg c1]
    by_cases c2 : m > 12
    · rw [if_pos c2]; simp [line_Day.j1]
    · rw [if_neg c2]
      by_cases c3 : d < 1
      · rw [if_pos c3]; simp [line_Day.j1]
      · rw [if_neg c3, length_is]
        have c4 : d > len y m := by
          by_cases c : d > len y m
          · exact c
          · exact absurd ⟨by omega, by omega, by omega, by omega⟩ hv
        simp only [Option.bind_some]
        rw [decide_eq_true c4]; simp [line_Day.j1]

theorem date_l2 (d : Nat) : ∀ (k : Nat) (y r m : Int), 1 ≤ m → m ≤ 12 → 13 - m ≤ d → d < k → 1 ≤ r → cum y m + r ≤ cum y 13 → -100000 ≤ y → y ≤ 100000 →
    ∃ M D, line_Date.l2 k y r m = some (y, M, D, 0) ∧ Valid y M D ∧ cum y M + D = cum y m + r := by
  induction d with
  | zero => intro k y r m h1 h2 hd hk; omega
  | succ d ih =>
    intro k y r m h1 h2 hd hk hr hc hy1 hy2
    obtain ⟨k, rfl⟩ : ∃ q, k = q + 1 := ⟨k - 1, by omega⟩
    have l := len_lo y m
    have e := cum_succ y m h1 h2
    have ce := cum_end y
    have lpc := lp_cases y
    have c0 : 0 ≤ cum y m := by
      by_cases z : m = 1
      · subst z; rw [cum_one]; omega
      · have := cum_lt y 1 m (by omega) (by omega) (by omega); have := len_lo y 1; have := cum_one y; omega
    simp only [line_Date.l2]
    rw [length_is]
    simp only [Option.bind_some]
    by_cases c : r > len y m
    · rw [if_pos c]
      have hm : m < 12 := by
        by_cases z : m = 12
        · subst z; rw [show (12 : Int) + 1 = 13 from rfl] at e; omega
        · omega
      rw [w64 (n := r - len y m) (by omega) (by omega), w64 (n := m + 1) (by omega) (by omega)]
      obtain ⟨M, D, e1, e2, e3⟩ := ih k y (r - len y m) (m + 1) (by omega) (by omega) (by omega) (by omega) (by omega) (by omega) hy1 hy2
      exact ⟨M, D, e1, e2, by omega⟩
    · rw [if_neg c]
      exact ⟨m, r, rfl, ⟨h1, h2, hr, by omega⟩, rfl⟩
theorem date_l1 (k : Nat) (y x : Int) (h1 : -50000 ≤ y) (h2 : y ≤ 50000) (hb : bg y < x) (hx : x ≤ bg (y + 1)) :
    ∃ M D, line_Date.l1 (k + 20) x y = some (y, M, D, 0) ∧ Valid y M D ∧ dayOf y M D = x := by
  have r := bg_range y (by omega) (by omega)
  have r2 := bg_range (y + 1) (by omega) (by omega)
  have s := bg_succ y
  have c1 := cum_one y
  have ce := cum_end y
  simp only [line_Date.l1]
  rw [w64 (n := y + 1) (by omega) (by omega), begin_is _ _ (by omega) (by omega)]
  simp only [Option.bind_some]
  rw [if_neg (by omega), begin_is _ _ (by omega) (by omega)]
  simp only [Option.bind_some]
  rw [w64 (by omega) (by omega)]
  obtain ⟨M, D, e1, e2, e3⟩ := date_l2 12 (k + 19) y (x - bg y) 1 (by omega) (by omega) (by omega) (by omega) (by omega) (by omega) (by omega) (by omega)
  exact ⟨M, D, e1, e2, by unfold dayOf; omega⟩
theorem date_l1s (k : Nat) (y x : Int) (h1 : -50000 ≤ y) (h2 : y ≤ 50000) (hx : bg (y + 1) < x) : line_Date.l1 (k + 2) x y = line_Date.l1 (k + 1) x (y + 1) := by
  conv => lhs; simp only [line_Date.l1]
  rw [w64 (n := y + 1) (by omega) (by omega), begin_is _ _ (by omega) (by omega)]
  simp only [Option.bind_some]
  rw [if_pos hx]
  simp only [line_Date.l1]
theorem date_is (k : Nat) (x : Int) (h1 : -4000000 ≤ x) (h2 : x ≤ 4000000) : ∃ Y M D, line_Date.f (k + 30) x = some (Y, M, D, 0) ∧ Valid Y M D ∧ dayOf Y M D = x ∧ -11000 ≤ Y ∧ Y ≤ 11000 := by
  unfold line_Date.f
  rw [check_ok x h1 h2]
  simp only [Option.bind_some]
  rw [if_pos trivial, w64 (n := x - 1) (by omega) (by omega), w64 (n := 400 * (x - 1)) (by omega) (by omega), div_is _ _ 146097 (by omega) (by omega) (by omega) (by omega)]
  simp only [Option.bind_some]
  rw [w64 (by omega) (by omega)]
  generalize hn : 400 * (x - 1) / 146097 = n
  have b1 : bg n < x := by unfold bg; omega
  have b3 : x ≤ bg (n + 3) := by unfold bg; omega
  have hn1 : -10960 ≤ n := by omega
  have hn2 : n ≤ 10960 := by omega
  clear hn
  have go : ∀ j y, -10970 ≤ y → y ≤ 10970 → bg y < x → x ≤ bg (y + 3) → ∃ Y M D, line_Date.l1 (j + 23) x y = some (Y, M, D, 0) ∧ Valid Y M D ∧ dayOf Y M D = x ∧ -11000 ≤ Y ∧ Y ≤ 11000 := by
    intro j y y1 y2 hb hx
    by_cases c : x ≤ bg (y + 1)
    · obtain ⟨M, D, e1, e2, e3⟩ := date_l1 (j + 3) y x (by omega) (by omega) hb c
      exact ⟨y, M, D, e1, e2, e3, by omega, by omega⟩
    · rw [date_l1s (j + 21) y x (by omega) (by omega) (by omega)]
      by_cases c2 : x ≤ bg (y + 1 + 1)
      · obtain ⟨M, D, e1, e2, e3⟩ := date_l1 (j + 2) (y + 1) x (by omega) (by omega) (by omega) c2
        exact ⟨y + 1, M, D, e1, e2, e3, by omega, by omega⟩
      · rw [date_l1s (j + 20) (y + 1) x (by omega) (by omega) (by omega)]
        obtain ⟨M, D, e1, e2, e3⟩ := date_l1 (j + 1) (y + 1 + 1) x (by omega) (by omega) (by omega) (by rw [show y + 1 + 1 + 1 = y + 3 from by omega]; exact hx)
        exact ⟨y + 1 + 1, M, D, e1, e2, e3, by omega, by omega⟩
  simp only [line_Date.l0]
  rw [begin_is _ _ (by omega) (by omega)]
  simp only [Option.bind_some]
  by_cases c : bg (n + 1) ≥ x
  · rw [if_pos c, w64 (by omega) (by omega), show n + 1 - 1 = n from by omega, begin_is _ _ (by omega) (by omega)]
    simp only [Option.bind_some]
    rw [if_neg (by omega)]
    exact go (k + 5) n (by omega) (by omega) b1 b3
  · rw [if_neg c]
    exact go (k + 6) (n + 1) (by omega) (by omega) (by omega) (by have := bg_succ (n + 3); have := lp_cases (n + 3); rw [show n + 1 + 3 = n + 3 + 1 from by omega]; omega)

theorem LineBack : ephemeriskeep1_LineBack.Pure := by
  intro a ha
  refine ⟨101, ?_⟩
  obtain ⟨x, ex, x1, x2, -⟩ := cut_is a (-3600000) 7200000 (by omega) (by omega) (by omega) (by omega)
  obtain ⟨Y, M, D, e1, e2, e3, e4, e5⟩ := date_is 70 x (by omega) (by omega)
  obtain ⟨Y', M', D', f1, f2, f3, f4, f5⟩ := date_is 70 (x + 1) (by omega) (by omega)
  have yr := day_year Y M D e2
  have yr1 : -10000 ≤ Y := by
    by_cases c : -10000 ≤ Y
    · exact c
    · exfalso; have := bg_mono (-10000 - (Y + 1)).toNat (Y + 1); rw [show Y + 1 + ((-10000 - (Y + 1)).toNat : Int) = -10000 from by omega] at this; have : bg (-10000) = -3652791 := by decide
      omega
  have yr2 : Y ≤ 10000 := by
    by_cases c : Y ≤ 10000
    · exact c
    · exfalso; have := bg_mono (Y - 10001).toNat 10001; rw [show (10001 : Int) + ((Y - 10001).toNat : Int) = Y from by omega] at this; have : bg 10001 = 3652425 := by decide
      omega
  unfold ephemeriskeep1_LineBack.f
  rw [day_is 81 1 1 1 (by omega) (by omega) ⟨by omega, by omega, by omega, by decide⟩, show dayOf 1 1 1 = 1 from by decide]
  simp only [Option.bind_some]
  rw [if_pos trivial]
  simp only [ephemeriskeep1_LineBack.j0]
  rw [if_neg (by decide), ex]
  simp only [Option.bind_some]
  rw [e1]
  simp only [Option.bind_some]
  rw [if_pos trivial, day_is 80 Y M D yr1 yr2 e2]
  simp only [Option.bind_some]
  rw [if_pos trivial, if_pos e3, w64 (by omega) (by omega), f1]
  simp only [Option.bind_some]
  have l := len_lo Y M
  obtain ⟨v1, v2, v3, v4⟩ := e2
  have nx := date_next (show Valid Y M D from ⟨v1, v2, v3, v4⟩) f2 (by rw [e3, f3])
  rw [w64 (n := D + 1) (by omega) (by omega), w64 (n := M + 1) (by omega) (by omega), w64 (n := Y + 1) (by omega) (by omega)]
  rcases nx with ⟨h1, h2, h3⟩ | ⟨h1, h2, h3, h4⟩ | ⟨h1, h2, h3, h4, h5⟩
  · rw [if_pos h1, if_pos h2, if_pos h3]
  · rw [if_pos h2, if_neg (by omega), if_pos h1, if_pos h3]
  · rw [if_neg (by omega), if_pos h1, if_pos h2, if_pos h3, h4]; rfl

end Go.Proofs.Ytboddbgmgcjppaa.Pure
