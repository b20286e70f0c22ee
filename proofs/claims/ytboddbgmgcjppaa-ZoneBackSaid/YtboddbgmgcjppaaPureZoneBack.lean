/- For every zone and every instant: where the zone is valid and the instant has a local time, each instant that is listed for this local time has it, they are in increasing order, and the instant is among them. No conditions. -/
import Derived.Test.YtboddbgmgcjppaaQZoneBackx12
import Derived.Test.YtboddbgmgcjppaaStmtZoneBack
set_option linter.unusedVariables false
set_option linter.unusedSimpArgs false
namespace Go.Proofs.Ytboddbgmgcjppaa.Pure
open Go.RowKit Go.Proofs.Ytboddbgmgcjppaa.QZoneBack Go.Proofs.YtboddbgmgcjppaaW.PrintWords Go.Proofs.YtboddbgmgcjppaaW.PrintLast

theorem lit64 {a : Int} (h : (Go.Lit.int .i64 a).wf = true) : -9223372036854775808 ≤ a ∧ a ≤ 9223372036854775807 := by
  simp only [Go.Lit.wf, Bool.and_eq_true, decide_eq_true_eq] at h
  have h1 : Go.IntKind.i64.min = -9223372036854775808 := by decide
  have h2 : Go.IntKind.i64.max = 9223372036854775807 := by decide
  omega
theorem w64 {n : Int} (h1 : -9223372036854775808 ≤ n) (h2 : n ≤ 9223372036854775807) : wrap64 n = n := by unfold wrap64; omega
theorem w64r (n : Int) : -9223372036854775808 ≤ wrap64 n ∧ wrap64 n ≤ 9223372036854775807 := by unfold wrap64; omega
theorem tmod_pos {a b : Int} (ha : 0 ≤ a) : Int.tmod a b = a % b := by rw [Int.tmod_eq_emod, if_pos (Or.inl ha)]; simp
theorem tdiv_pos {a b : Int} (ha : 0 ≤ a) : Int.tdiv a b = a / b := by rw [Int.tdiv_eq_ediv, if_pos (Or.inl ha)]; simp
theorem tmod_bounds {a b : Int} (hb : 0 < b) : -b < Int.tmod a b ∧ Int.tmod a b < b ∧ (0 ≤ a → 0 ≤ Int.tmod a b) ∧ (a ≤ 0 → Int.tmod a b ≤ 0) := by
  rw [Int.tmod_eq_emod]
  have h1 := Int.emod_nonneg a (show b ≠ 0 by omega)
  have h2 := Int.emod_lt_of_pos a hb
  split
  · rename_i h
    refine ⟨by omega, by omega, fun _ => by omega, fun h0 => ?_⟩
    rcases h with h | h
    · have : a = 0 := by omega
      subst this; simp
    · rw [Int.emod_eq_zero_of_dvd h]; simp
  · refine ⟨by omega, by omega, fun _ => by omega, fun _ => by omega⟩
/-- tmod and tdiv against emod and ediv, for a positive divisor. -/
theorem tmod_cases {a b : Int} (hb : 0 < b) : (Int.tmod a b = a % b ∧ Int.tdiv a b = a / b ∧ (0 ≤ a ∨ a % b = 0)) ∨ (a < 0 ∧ a % b ≠ 0 ∧ Int.tmod a b = a % b - b ∧ Int.tdiv a b = a / b + 1) := by
  by_cases h : 0 ≤ a ∨ b ∣ a
  · left
    refine ⟨by rw [Int.tmod_eq_emod, if_pos h]; simp, by rw [Int.tdiv_eq_ediv, if_pos h]; simp, h.imp id Int.emod_eq_zero_of_dvd⟩
  · right
    have h' := not_or.mp h
    refine ⟨by omega, fun e => h'.2 (Int.dvd_of_emod_eq_zero e), ?_, ?_⟩
    · rw [Int.tmod_eq_emod, if_neg h]; omega
    · rw [Int.tdiv_eq_ediv, if_neg h, Int.sign_eq_one_of_pos hb]
theorem ediv_range {a b : Int} (hb : 0 < b) (h1 : -9223372036854775808 ≤ a) (h2 : a ≤ 9223372036854775807) : -9223372036854775808 ≤ a / b ∧ a / b ≤ 9223372036854775807 := by
  have e := Int.mul_ediv_add_emod a b
  have l := Int.emod_nonneg a (show b ≠ 0 by omega)
  have u := Int.emod_lt_of_pos a hb
  constructor
  · by_cases c : 0 ≤ a
    · have := Int.ediv_nonneg c (show 0 ≤ b by omega); omega
    · have : a ≤ a / b := by
        rw [Int.le_ediv_iff_mul_le hb]
        have : a * b ≤ a * 1 := Int.mul_le_mul_of_nonpos_left (by omega) (by omega)
        omega
      omega
  · by_cases c : 0 ≤ a
    · have : a / b ≤ a := Int.ediv_le_self b c
      omega
    · have : a / b ≤ 0 := by
        have : a / b < 0 := Int.ediv_neg_of_neg_of_pos (by omega) hb
        omega
      omega
/-- the remainder from 0 on, as the program computes it twice. -/
theorem mod_twice {a b : Int} (hb : 0 < b) (hb2 : b ≤ 4611686018427387904) : Int.tmod (wrap64 ((Int.tmod a b) + b)) b = a % b := by
  have hc := tmod_bounds (a := a) hb
  have h1 := Int.emod_nonneg a (show b ≠ 0 by omega)
  have h2 := Int.emod_lt_of_pos a hb
  rw [w64 (by omega) (by omega)]
  rw [tmod_pos (by omega)]
  rcases tmod_cases (a := a) hb with ⟨e, _, _⟩ | ⟨_, _, e, _⟩
  · rw [e]; simp
  · rw [e, show a % b - b + b = a % b from by omega]; simp

theorem div_is (k : Nat) (a b : Int) (hb : 0 < b) (h1 : -9223372036854775808 ≤ a) (h2 : a ≤ 9223372036854775807) (hb2 : b ≤ 4611686018427387904) :
    whole_Div.f (k + 1) a b = some (a / b, a % b, 0) := by
  have hj : whole_Div.j0 (k + 1) a b false = some (a / b, a % b, 0) := by
    have hm1 := Int.emod_nonneg a (show b ≠ 0 by omega)
    have hm2 := Int.emod_lt_of_pos a hb
    have hr := ediv_range hb h1 h2
    simp only [whole_Div.j0]
    rw [if_neg (by decide), if_neg (by omega)]
    rcases tmod_cases (a := a) hb with ⟨e, e', c⟩ | ⟨c, c', e, e'⟩
    · rw [e, e', w64 hr.1 hr.2]
      by_cases z : a % b = 0
      · rw [if_pos z, z]
      · rw [if_neg z, if_neg]
        have hd1 : decide (a % b < 0) = false := decide_eq_false (by omega)
        have hd2 : decide (b < 0) = false := decide_eq_false (by omega)
        rw [hd1, hd2]; decide
    · rw [e, e']
      have hr2 : a / b < 0 := Int.ediv_neg_of_neg_of_pos c hb
      rw [w64 (by omega) (by omega)]
      have hd1 : decide (a % b - b < 0) = true := decide_eq_true (by omega)
      have hd2 : decide (b < 0) = false := decide_eq_false (by omega)
      rw [if_neg (by omega), hd1, hd2, if_pos (by decide), w64 (by omega) (by omega), w64 (by omega) (by omega)]
      congr 2
      · omega
      · congr 1; omega
  unfold whole_Div.f
  rw [if_neg (by omega)]
  by_cases c : a = -9223372036854775808
  · rw [if_pos c]
    have : (b == -1) = false := beq_eq_false_iff_ne.mpr (by omega)
    rw [this]; exact hj
  · rw [if_neg c]; exact hj

theorem check_ok (d : Int) (h1 : -4000000 ≤ d) (h2 : d ≤ 4000000) : line_Check.f d = some 0 := by
  unfold line_Check.f
  rw [if_neg (by omega), if_neg (by omega)]
theorem check_bad (d : Int) (h : d < -4000000 ∨ 4000000 < d) : line_Check.f d = some 3 := by
  unfold line_Check.f
  by_cases c : d < -4000000
  · rw [if_pos c]
  · rw [if_neg c, if_pos (by omega)]

theorem split_ok (k : Nat) (t : Int) (h1 : -4000000 ≤ t / 86400000) (h2 : t / 86400000 ≤ 4000000) : line_Split.f (k + 1) t = some (t / 86400000, t % 86400000, 0) := by
  unfold line_Split.f
  rw [div_is k t 86400000 (by omega) (by omega) (by omega) (by omega), Option.bind_some]
  show ((line_Check.f (t / 86400000)).bind _) = _
  rw [check_ok _ h1 h2, Option.bind_some, if_pos rfl]
theorem split_bad (k : Nat) (t : Int) (hl : -9223372036854775808 ≤ t) (hu : t ≤ 9223372036854775807) (h : t / 86400000 < -4000000 ∨ 4000000 < t / 86400000) : line_Split.f (k + 1) t = some (0, 0, 3) := by
  unfold line_Split.f
  rw [div_is k t 86400000 (by omega) hl hu (by omega), Option.bind_some]
  show ((line_Check.f (t / 86400000)).bind _) = _
  rw [check_bad _ h, Option.bind_some, if_neg (by decide)]
theorem instant_ok (d m : Int) (h1 : -4000000 ≤ d) (h2 : d ≤ 4000000) (h3 : 0 ≤ m) (h4 : m < 86400000) : line_Instant.f d m = some (d * 86400000 + m, 0) := by
  unfold line_Instant.f
  rw [check_ok _ h1 h2, Option.bind_some, if_pos rfl, if_neg (by omega), if_neg (by omega), w64 (n := d * 86400000) (by omega) (by omega), w64 (by omega) (by omega)]

abbrev ZC := S69
def AT (C : List ZC) (i : Int) : Int := (rd_T69 C i).f0
def OF (C : List ZC) (i : Int) : Int := (rd_T69 C i).f1
def OFF (first : Int) (C : List ZC) (k : Int) : Int := if k = 0 then first else OF C (k - 1)
def offOk (o : Int) : Prop := -64800000 ≤ o ∧ o ≤ 64800000 ∧ o % 1000 = 0
def inDay (t : Int) : Prop := -4000000 ≤ t / 86400000 ∧ t / 86400000 ≤ 4000000
structure ValidZ (nm : ByteArray) (first : Int) (C : List ZC) : Prop where
  name : nameB nm = true
  f : offOk first
  n : C.length ≤ 200
  at_ : ∀ i : Int, 0 ≤ i → i < C.length → inDay (AT C i)
  of_ : ∀ i : Int, 0 ≤ i → i < C.length → offOk (OF C i)
  lab : ∀ i : Int, 0 ≤ i → i < C.length → labelB (rd_T69 C i).f2 = true
  up : ∀ i : Int, 0 < i → i < C.length → AT C (i - 1) < AT C i
theorem ValidZ.off {nm : ByteArray} {first : Int} {C : List ZC} (v : ValidZ nm first C) (k : Int) (h0 : 0 ≤ k) (h1 : k ≤ C.length) : offOk (OFF first C k) := by
  unfold OFF
  by_cases c : k = 0
  · rw [if_pos c]; exact v.f
  · rw [if_neg c]; exact v.of_ (k - 1) (by omega) (by omega)
theorem ValidZ.mono {nm : ByteArray} {first : Int} {C : List ZC} (v : ValidZ nm first C) (d : Nat) : ∀ i : Int, 0 ≤ i → i + d < C.length → AT C i ≤ AT C (i + d) := by
  induction d with
  | zero => intro i _ _; simp
  | succ d ih =>
    intro i h0 h1
    have a := ih i h0 (by omega)
    have b := v.up (i + d + 1) (by omega) (by omega)
    rw [show i + (d : Int) + 1 - 1 = i + d from by omega] at b
    rw [show i + ((d + 1 : Nat) : Int) = i + d + 1 from by omega]
    omega
theorem ValidZ.lt {nm : ByteArray} {first : Int} {C : List ZC} (v : ValidZ nm first C) (i j : Int) (h0 : 0 ≤ i) (h : i < j) (h1 : j < C.length) : AT C i < AT C j := by
  have a := v.up (i + 1) (by omega) (by omega)
  rw [show i + 1 - 1 = i from by omega] at a
  have b := v.mono (j - (i + 1)).toNat (i + 1) (by omega) (by omega)
  rw [show i + 1 + ((j - (i + 1)).toNat : Int) = j from by omega] at b
  omega
theorem split_any (k : Nat) (t : Int) (hl : -9223372036854775808 ≤ t) (hu : t ≤ 9223372036854775807) : (inDay t ∧ line_Split.f (k + 1) t = some (t / 86400000, t % 86400000, 0)) ∨ (¬ inDay t ∧ line_Split.f (k + 1) t = some (0, 0, 3)) := by
  by_cases c : inDay t
  · exact .inl ⟨c, split_ok k t c.1 c.2⟩
  · exact .inr ⟨c, split_bad k t hl hu (by unfold inDay at c; omega)⟩
theorem isoff_is (o : Int) : ∃ b : Bool, zone_IsOffset.f o = some b ∧ (b = true ↔ offOk o) := by
  unfold zone_IsOffset.f offOk
  by_cases c1 : o ≥ -64800000
  · rw [if_pos c1]
    by_cases c2 : o ≤ 64800000
    · rw [if_pos c2]
      refine ⟨_, rfl, ?_⟩
      rw [beq_iff_eq]
      rcases tmod_cases (a := o) (b := 1000) (by omega) with ⟨e, _, _⟩ | ⟨_, h, e, _⟩
      · rw [e]; omega
      · have := Int.emod_lt_of_pos o (show (0 : Int) < 1000 by omega)
        rw [e]; omega
    · rw [if_neg c2]; exact ⟨false, rfl, by simp; omega⟩
  · rw [if_neg c1]; exact ⟨false, rfl, by simp; omega⟩
/-- What Check has found valid from a place on. -/
structure Upto (C : List ZC) (j : Int) : Prop where
  at_ : ∀ i : Int, 0 ≤ i → i < j → inDay (AT C i)
  of_ : ∀ i : Int, 0 ≤ i → i < j → offOk (OF C i)
  lab : ∀ i : Int, 0 ≤ i → i < j → labelB (rd_T69 C i).f2 = true
  up : ∀ i : Int, 0 < i → i < j → AT C (i - 1) < AT C i
theorem zcheck_loop (nm : ByteArray) (first : Int) (C : List ZC) (hn : C.length ≤ 200) (hw : ∀ i : Int, 0 ≤ i → i < C.length → -9223372036854775808 ≤ AT C i ∧ AT C i ≤ 9223372036854775807) (d : Nat) :
    ∀ (k : Nat) (j : Int), 0 ≤ j → j + d = C.length → 2 * d + 3 < k → Upto C j → (zone_Check.l0 k C (C.length : Int) j nm first C = some 0 ∧ Upto C C.length) ∨ ∃ c, c ≠ 0 ∧ zone_Check.l0 k C (C.length : Int) j nm first C = some c ∧ ¬ Upto C C.length := by
  induction d with
  | zero =>
    intro k j h0 h1 hk hu
    obtain ⟨k, rfl⟩ : ∃ q, k = q + 1 := ⟨k - 1, by omega⟩
    left
    obtain rfl : j = C.length := by omega
    simp only [zone_Check.l0]
    rw [if_neg (by omega)]
    exact ⟨rfl, hu⟩
  | succ d ih =>
    intro k j h0 h1 hk hu
    obtain ⟨k, rfl⟩ : ∃ q, k = q + 3 := ⟨k - 3, by omega⟩
    have w := hw j h0 (by omega)
    simp only [zone_Check.l0]
    rw [if_pos (by omega), if_pos h0, if_pos (by omega)]
    have hAT : (rd_T69 C j).f0 = AT C j := rfl
    have hOF : (rd_T69 C j).f1 = OF C j := rfl
    rw [hAT, hOF]
    rcases split_any (k + 1) (AT C j) w.1 w.2 with ⟨hin, e⟩ | ⟨hin, e⟩
    · rw [e]
      simp only [Option.bind_some]
      rw [if_pos trivial]
      obtain ⟨b, eb, hb⟩ := isoff_is (OF C j)
      rw [eb]
      simp only [Option.bind_some, zone_Check.j1]
      by_cases cb : b = true
      · rw [cb, if_neg (by decide)]
        have hof := hb.mp cb
        simp only [zone_IsLabel.f, Option.bind_some]
        by_cases cl : labelB (rd_T69 C j).f2 = true
        · rw [if_pos cl]
          by_cases cj : j > 0
          · rw [if_pos cj, w64 (n := j - 1) (by omega) (by omega), if_pos (by omega), if_pos (by omega)]
            by_cases cu : AT C j ≤ (rd_T69 C (j - 1)).f0
            · rw [if_pos cu]
              refine .inr ⟨9, by omega, rfl, fun u => ?_⟩
              have := u.up j cj (by omega)
              unfold AT at this cu
              omega
            · rw [if_neg cu, w64 (n := j + 1) (by omega) (by omega)]
              refine ih (k + 1) (j + 1) (by omega) (by omega) (by omega) ⟨fun i a b => ?_, fun i a b => ?_, fun i a b => ?_, fun i a b => ?_⟩
              · by_cases z : i = j
                · subst z; exact hin
                · exact hu.at_ i a (by omega)
              · by_cases z : i = j
                · subst z; exact hof
                · exact hu.of_ i a (by omega)
              · by_cases z : i = j
                · subst z; exact cl
                · exact hu.lab i a (by omega)
              · by_cases z : i = j
                · subst z; unfold AT at cu ⊢; omega
                · exact hu.up i a (by omega)
          · rw [if_neg cj, w64 (n := j + 1) (by omega) (by omega)]
            have hj0 : j = 0 := by omega
            refine ih (k + 1) (j + 1) (by omega) (by omega) (by omega) ⟨fun i a b => ?_, fun i a b => ?_, fun i a b => ?_, fun i a b => by omega⟩
            · obtain rfl : i = j := by omega
              exact hin
            · obtain rfl : i = j := by omega
              exact hof
            · obtain rfl : i = j := by omega
              exact cl
        · rw [if_neg cl]
          exact .inr ⟨8, by omega, rfl, fun u => cl (u.lab j h0 (by omega))⟩
      · have cb' : b = false := by simpa using cb
        rw [cb', if_pos (by decide)]
        exact .inr ⟨3, by omega, rfl, fun u => cb (hb.mpr (u.of_ j h0 (by omega)))⟩
    · rw [e]
      simp only [Option.bind_some]
      rw [if_neg (by decide)]
      simp only [zone_Check.j1]
      rw [if_pos trivial]
      exact .inr ⟨3, by omega, rfl, fun u => hin (u.at_ j h0 (by omega))⟩
def WfZ (C : List ZC) : Prop := ∀ i : Int, 0 ≤ i → i < C.length → -9223372036854775808 ≤ AT C i ∧ AT C i ≤ 9223372036854775807
theorem zcheck_is (k : Nat) (nm : ByteArray) (first : Int) (C : List ZC) (hw : WfZ C) (hk : 500 < k) : (ValidZ nm first C ∧ zone_Check.f k nm first C = some 0) ∨ (¬ ValidZ nm first C ∧ ∃ c, c ≠ 0 ∧ zone_Check.f k nm first C = some c) := by
  unfold zone_Check.f rule_Name.f
  simp only [Option.bind_some]
  by_cases c1 : nameB nm = true
  · rw [if_pos c1]
    obtain ⟨b, eb, hb⟩ := isoff_is first
    rw [eb]
    simp only [Option.bind_some]
    by_cases c2 : b = true
    · rw [if_pos c2]
      by_cases c3 : (C.length : Int) > 200
      · rw [if_pos c3]
        exact .inr ⟨fun v => by have := v.n; omega, 2, by omega, rfl⟩
      · rw [if_neg c3]
        rcases zcheck_loop nm first C (by omega) hw C.length k 0 (by omega) (by omega) (by omega) ⟨fun i a b => by omega, fun i a b => by omega, fun i a b => by omega, fun i a b => by omega⟩ with ⟨e, u⟩ | ⟨c, hc, e, u⟩
        · exact .inl ⟨⟨c1, hb.mp c2, by omega, u.at_, u.of_, u.lab, u.up⟩, e⟩
        · exact .inr ⟨fun v => u ⟨v.at_, v.of_, v.lab, v.up⟩, c, hc, e⟩
    · rw [if_neg c2]
      exact .inr ⟨fun v => c2 (hb.mpr v.f), 3, by omega, rfl⟩
  · rw [if_neg c1]
    exact .inr ⟨fun v => c1 v.name, 5, by omega, rfl⟩
theorem zcheck_ok (k : Nat) (nm : ByteArray) (first : Int) (C : List ZC) (hw : WfZ C) (v : ValidZ nm first C) (hk : 500 < k) : zone_Check.f k nm first C = some 0 := by
  rcases zcheck_is k nm first C hw hk with ⟨_, e⟩ | ⟨n, _⟩
  · exact e
  · exact absurd v n
/-- k changes are not later than t. -/
structure Piece (C : List ZC) (t k : Int) : Prop where
  k0 : 0 ≤ k
  kn : k ≤ C.length
  lo : ∀ i : Int, 0 ≤ i → i < k → AT C i ≤ t
  hi : ∀ i : Int, k ≤ i → i < C.length → t < AT C i
theorem Piece.unique {C : List ZC} {t k k' : Int} (h : Piece C t k) (h' : Piece C t k') : k = k' := by
  by_cases c : k < k'
  · have := h'.lo k h.k0 c; have := h.hi k (by omega) (by have := h'.kn; omega); omega
  · by_cases c' : k' < k
    · have := h.lo k' h'.k0 c'; have := h'.hi k' (by omega) (by have := h.kn; omega); omega
    · omega
theorem Piece.of {nm : ByteArray} {first : Int} {C : List ZC} (v : ValidZ nm first C) {t k : Int} (h0 : 0 ≤ k) (h1 : k ≤ C.length) (hl : k > 0 → AT C (k - 1) ≤ t) (hh : k < C.length → t < AT C k) : Piece C t k := by
  refine ⟨h0, h1, fun i a b => ?_, fun i a b => ?_⟩
  · have := hl (by omega)
    by_cases z : i = k - 1
    · subst z; exact this
    · have := v.lt i (k - 1) a (by omega) (by omega); omega
  · have := hh (by omega)
    by_cases z : i = k
    · subst z; exact this
    · have := v.lt k i h0 (by omega) b; omega
theorem Piece.lt {nm : ByteArray} {first : Int} {C : List ZC} (v : ValidZ nm first C) {t t' k k' : Int} (h : Piece C t k) (h' : Piece C t' k') (hk : k < k') : t < t' := by
  have a := h.hi k (by omega) (by have := h'.kn; omega)
  have b := h'.lo k h.k0 hk
  omega
theorem piece_loop (nm : ByteArray) (first : Int) (C : List ZC) (v : ValidZ nm first C) (t : Int) (d : Nat) : ∀ (k : Nat) (lo hi : Int), 0 ≤ lo → lo ≤ hi → hi ≤ C.length → hi - lo ≤ d → d < k →
    (∀ i : Int, 0 ≤ i → i < lo → AT C i ≤ t) → (∀ i : Int, hi ≤ i → i < C.length → t < AT C i) → ∃ p, zone_piece.l0 k t lo hi nm first C = some p ∧ Piece C t p := by
  have hn := v.n
  induction d with
  | zero =>
    intro k lo hi h0 h1 h2 hd hk a b
    obtain ⟨k, rfl⟩ : ∃ q, k = q + 1 := ⟨k - 1, by omega⟩
    obtain rfl : hi = lo := by omega
    refine ⟨hi, ?_, h0, h2, a, b⟩
    simp only [zone_piece.l0]
    rw [if_neg (by omega)]
  | succ d ih =>
    intro k lo hi h0 h1 h2 hd hk a b
    obtain ⟨k, rfl⟩ : ∃ q, k = q + 1 := ⟨k - 1, by omega⟩
    simp only [zone_piece.l0]
    by_cases c : lo < hi
    · rw [if_pos c, w64 (n := lo + hi) (by omega) (by omega), tdiv_pos (by omega), w64 (n := (lo + hi) / 2) (by omega) (by omega), if_pos (by omega), if_pos (by omega)]
      by_cases c2 : (rd_T69 C ((lo + hi) / 2)).f0 ≤ t
      · rw [if_pos c2, w64 (n := (lo + hi) / 2 + 1) (by omega) (by omega)]
        refine ih k _ hi (by omega) (by omega) h2 (by omega) (by omega) (fun i x y => ?_) b
        by_cases z : i = (lo + hi) / 2
        · subst z; exact c2
        · have := v.lt i ((lo + hi) / 2) x (by omega) (by omega)
          unfold AT at this ⊢
          omega
      · rw [if_neg c2]
        refine ih k lo _ h0 (by omega) (by omega) (by omega) (by omega) a (fun i x y => ?_)
        by_cases z : i = (lo + hi) / 2
        · subst z; unfold AT; omega
        · have := v.lt ((lo + hi) / 2) i (by omega) (by omega) y
          unfold AT at this ⊢
          omega
    · rw [if_neg c]
      obtain rfl : hi = lo := by omega
      exact ⟨hi, rfl, h0, h2, a, b⟩
theorem piece_is (k : Nat) (nm : ByteArray) (first : Int) (C : List ZC) (v : ValidZ nm first C) (t : Int) (hk : 200 < k) : ∃ p, zone_piece.f k nm first C t = some p ∧ Piece C t p := by
  have hn := v.n
  unfold zone_piece.f
  exact piece_loop nm first C v t C.length k 0 (C.length : Int) (by omega) (by omega) (by omega) (by omega) (by omega) (fun i a b => by omega) (fun i a b => by omega)
theorem offset_is (k : Nat) (nm : ByteArray) (first : Int) (C : List ZC) (hw : WfZ C) (v : ValidZ nm first C) (t p : Int) (hp : Piece C t p) (ht : inDay t) (hk : 600 < k) : ∃ lab, zone_Offset.f k nm first C t = some (OFF first C p, lab, 0) := by
  obtain ⟨k, rfl⟩ : ∃ q, k = q + 1 := ⟨k - 1, by omega⟩
  have hn := v.n
  have hp0 := hp.k0
  have hpn := hp.kn
  unfold zone_Offset.f zone_begin.f
  rw [zcheck_ok (k + 1) nm first C hw v (by omega)]
  simp only [Option.bind_some]
  rw [if_pos trivial, split_ok k t ht.1 ht.2]
  simp only [Option.bind_some]
  rw [if_pos trivial]
  obtain ⟨p', e, hp'⟩ := piece_is (k + 1) nm first C v t (by omega)
  obtain rfl := hp.unique hp'
  rw [e]
  simp only [Option.bind_some]
  unfold OFF
  by_cases c : p = 0
  · rw [if_pos c, if_pos c]; exact ⟨_, rfl⟩
  · rw [if_neg c, if_neg c, w64 (n := p - 1) (by omega) (by omega), if_pos (by omega), if_pos (by omega)]
    exact ⟨_, rfl⟩
theorem local_is (k : Nat) (nm : ByteArray) (first : Int) (C : List ZC) (hw : WfZ C) (v : ValidZ nm first C) (t p : Int) (hp : Piece C t p) (ht : inDay t) (hk : 600 < k) :
    (inDay (t + OFF first C p) ∧ zone_Local.f k nm first C t = some ((t + OFF first C p) / 86400000, (t + OFF first C p) % 86400000, 0)) ∨ (¬ inDay (t + OFF first C p) ∧ zone_Local.f k nm first C t = some (0, 0, 3)) := by
  obtain ⟨lab, e⟩ := offset_is k nm first C hw v t p hp ht hk
  have ho := v.off p hp.k0 hp.kn
  unfold offOk at ho
  have ht' := ht
  unfold inDay at ht'
  obtain ⟨k, rfl⟩ : ∃ q, k = q + 1 := ⟨k - 1, by omega⟩
  unfold zone_Local.f
  rw [e]
  simp only [Option.bind_some]
  rw [if_pos trivial, w64 (by omega) (by omega)]
  rcases split_any k (t + OFF first C p) (by omega) (by omega) with ⟨h, e⟩ | ⟨h, e⟩
  · rw [e]; exact .inl ⟨h, rfl⟩
  · rw [e]; exact .inr ⟨h, rfl⟩
/-- Offset and Local answer an error just where the zone or the instant is not valid. -/
theorem local_bad (k : Nat) (nm : ByteArray) (first : Int) (C : List ZC) (hw : WfZ C) (t : Int) (htl : -9223372036854775808 ≤ t) (htu : t ≤ 9223372036854775807) (h : ¬ (ValidZ nm first C ∧ inDay t)) (hk : 600 < k) : ∃ c, c ≠ 0 ∧ zone_Local.f k nm first C t = some (0, 0, c) := by
  obtain ⟨k, rfl⟩ : ∃ q, k = q + 1 := ⟨k - 1, by omega⟩
  unfold zone_Local.f zone_Offset.f zone_begin.f
  rcases zcheck_is (k + 1) nm first C hw (by omega) with ⟨v, e⟩ | ⟨_, c, hc, e⟩
  · rw [e]
    simp only [Option.bind_some]
    rw [if_pos trivial]
    rcases split_any k t htl htu with ⟨hi, e⟩ | ⟨_, e⟩
    · exact absurd ⟨v, hi⟩ h
    · rw [e]
      simp only [Option.bind_some]
      rw [if_neg (by omega)]
      simp only [Option.bind_some]
      rw [if_neg (by omega)]
      exact ⟨3, by omega, rfl⟩
  · rw [e]
    simp only [Option.bind_some]
    rw [if_neg hc]
    simp only [Option.bind_some]
    rw [if_neg hc]
    simp only [Option.bind_some]
    rw [if_neg hc]
    exact ⟨c, hc, rfl⟩
/-- What Instants has listed. -/
structure Listed (first : Int) (C : List ZC) (T j : Int) (l : List Int) : Prop where
  mem : ∀ x, x ∈ l → ∃ p, p < j ∧ Piece C x p ∧ x = T - OFF first C p ∧ inDay x
  all : ∀ x p, p < j → Piece C x p → x = T - OFF first C p → inDay x → x ∈ l
  up : l.Pairwise (· < ·)
theorem inst_loop (nm : ByteArray) (first : Int) (C : List ZC) (v : ValidZ nm first C) (T : Int) (hT1 : -400000000000000 ≤ T) (hT2 : T ≤ 400000000000000) (d : Nat) : ∀ (k : Nat) (acc : List Int) (j : Int), 0 ≤ j → j + d = C.length + 1 → 3 * d + 5 < k → (acc.length : Int) ≤ j → Listed first C T j acc →
    ∃ l, zone_Instants.l0 k T acc j nm first C = some (l, 0) ∧ l.length ≤ 201 ∧ Listed first C T (C.length + 1) l := by
  have hn := v.n
  induction d with
  | zero =>
    intro k acc j h0 h1 hk ha hl
    obtain ⟨k, rfl⟩ : ∃ q, k = q + 1 := ⟨k - 1, by omega⟩
    obtain rfl : j = C.length + 1 := by omega
    refine ⟨acc, ?_, by omega, hl⟩
    simp only [zone_Instants.l0]
    rw [if_neg (by omega)]
  | succ d ih =>
    intro k acc j h0 h1 hk ha hl
    obtain ⟨k, rfl⟩ : ∃ q, k = q + 4 := ⟨k - 4, by omega⟩
    have ho := v.off j h0 (by omega)
    unfold offOk at ho
    -- the place from which the loop goes on
    have hj1 : ∀ o, OFF first C j = o → zone_Instants.l0 (k + 4) T acc j nm first C = zone_Instants.j1 (k + 3) T acc j o nm first C := by
      intro o e
      conv => lhs; simp only [zone_Instants.l0]
      rw [if_pos (by omega)]
      unfold OFF at e
      by_cases c : j > 0
      · rw [if_neg (by omega)] at e
        rw [if_pos c, w64 (n := j - 1) (by omega) (by omega), if_pos (by omega), if_pos (by omega)]
        subst e; rfl
      · rw [if_pos (by omega)] at e
        rw [if_neg c, e]
    rw [hj1 _ rfl]
    generalize hx : T - OFF first C j = x at *
    have hxr : -500000000000000 ≤ x ∧ x ≤ 500000000000000 := by omega
    have hj2 : ∃ b : Bool, zone_Instants.j1 (k + 3) T acc j (OFF first C j) nm first C = zone_Instants.j2 (k + 2) T acc j x b nm first C ∧ (b = false ↔ Piece C x j) := by
      conv => arg 1; ext b; arg 1; lhs; simp only [zone_Instants.j1]
      rw [w64 (n := T - OFF first C j) (by omega) (by omega), hx, w64 (n := j - 1) (by omega) (by omega)]
      have hi : j < C.length → ∀ b : Bool, b = decide (x ≥ (rd_T69 C j).f0) → (b = false ↔ x < AT C j) := by
        intro _ b e; rw [e]; unfold AT; simp
      by_cases c : j > 0
      · by_cases c2 : x < (rd_T69 C (j - 1)).f0
        · refine ⟨true, by rw [if_pos c, if_pos (by omega), if_pos (by omega), if_pos c2], ?_⟩
          simp only [Bool.true_eq_false, false_iff]
          intro hp
          have := hp.lo (j - 1) (by omega) (by omega)
          unfold AT at this; omega
        · by_cases c3 : j < C.length
          · refine ⟨_, by rw [if_pos c, if_pos (by omega), if_pos (by omega), if_neg c2, if_pos c3, if_pos h0], ?_⟩
            rw [hi c3 _ rfl]
            exact ⟨fun h => Piece.of v h0 (by omega) (fun _ => by unfold AT; omega) (fun _ => h), fun hp => hp.hi j (by omega) c3⟩
          · refine ⟨false, by rw [if_pos c, if_pos (by omega), if_pos (by omega), if_neg c2, if_neg c3], ?_⟩
            simp only [true_iff]
            exact Piece.of v h0 (by omega) (fun _ => by unfold AT; omega) (fun h => absurd h c3)
      · by_cases c3 : j < C.length
        · refine ⟨_, by rw [if_neg c, if_pos c3, if_pos h0], ?_⟩
          rw [hi c3 _ rfl]
          exact ⟨fun h => Piece.of v h0 (by omega) (fun h => absurd h c) (fun _ => h), fun hp => hp.hi j (by omega) c3⟩
        · refine ⟨false, by rw [if_neg c, if_neg c3], ?_⟩
          simp only [true_iff]
          exact Piece.of v h0 (by omega) (fun h => absurd h c) (fun h => absurd h c3)
    obtain ⟨b, e, hb⟩ := hj2
    rw [e]
    simp only [zone_Instants.j2]
    by_cases cb : b = true
    · rw [if_pos cb, w64 (n := j + 1) (by omega) (by omega)]
      have hnp : ¬ Piece C x j := fun hp => by have := hb.mpr hp; rw [cb] at this; cases this
      refine ih (k + 1) acc (j + 1) (by omega) (by omega) (by omega) (by omega) ⟨fun y hy => ?_, fun y p hp h1' h2' h3' => ?_, hl.up⟩
      · obtain ⟨p, a, b, c⟩ := hl.mem y hy; exact ⟨p, by omega, b, c⟩
      · by_cases z : p = j
        · subst z; rw [h2', hx] at h1'; exact absurd h1' hnp
        · exact hl.all y p (by omega) h1' h2' h3'
    · have hp : Piece C x j := hb.mp (by simpa using cb)
      rw [if_neg cb]
      rcases split_any k x (by omega) (by omega) with ⟨hin, e⟩ | ⟨hin, e⟩
      · rw [e]
        simp only [Option.bind_some]
        rw [if_pos trivial, if_pos (by omega), w64 (n := j + 1) (by omega) (by omega)]
        refine ih (k + 1) (acc ++ [x]) (j + 1) (by omega) (by omega) (by omega) (by simp; omega) ⟨fun y hy => ?_, fun y p hp' h1' h2' h3' => ?_, ?_⟩
        · rcases List.mem_append.1 hy with hy | hy
          · obtain ⟨p, a, b, c⟩ := hl.mem y hy; exact ⟨p, by omega, b, c⟩
          · obtain rfl := List.mem_singleton.1 hy
            exact ⟨j, by omega, hp, hx.symm, hin⟩
        · by_cases z : p = j
          · subst z; rw [h2', hx]; exact List.mem_append_right _ (List.mem_singleton.2 rfl)
          · exact List.mem_append_left _ (hl.all y p (by omega) h1' h2' h3')
        · rw [List.pairwise_append]
          refine ⟨hl.up, List.pairwise_singleton _ _, fun a ha b hb' => ?_⟩
          obtain rfl := List.mem_singleton.1 hb'
          obtain ⟨p, h1', h2', _⟩ := hl.mem a ha
          exact Piece.lt v h2' hp h1'
      · rw [e]
        simp only [Option.bind_some]
        rw [if_neg (by omega), w64 (n := j + 1) (by omega) (by omega)]
        refine ih (k + 1) acc (j + 1) (by omega) (by omega) (by omega) (by omega) ⟨fun y hy => ?_, fun y p hp' h1' h2' h3' => ?_, hl.up⟩
        · obtain ⟨p, a, b, c⟩ := hl.mem y hy; exact ⟨p, by omega, b, c⟩
        · by_cases z : p = j
          · subst z; rw [h2', hx] at h3'; exact absurd h3' hin
          · exact hl.all y p (by omega) h1' h2' h3'
theorem instants_is (k : Nat) (nm : ByteArray) (first : Int) (C : List ZC) (hw : WfZ C) (v : ValidZ nm first C) (d m : Int) (h1 : -4000000 ≤ d) (h2 : d ≤ 4000000) (h3 : 0 ≤ m) (h4 : m < 86400000) (hk : 1000 < k) :
    ∃ l, zone_Instants.f k nm first C d m = some (l, 0) ∧ l.length ≤ 201 ∧ Listed first C (d * 86400000 + m) (C.length + 1) l := by
  have hn := v.n
  unfold zone_Instants.f
  rw [zcheck_ok k nm first C hw v (by omega)]
  simp only [Option.bind_some]
  rw [if_pos trivial, instant_ok d m h1 h2 h3 h4]
  simp only [Option.bind_some]
  rw [if_pos trivial]
  exact inst_loop nm first C v (d * 86400000 + m) (by omega) (by omega) (C.length + 1) k [] 0 (by omega) (by omega) (by omega) (by simp) ⟨(fun x hx => by cases hx), (fun x p hp h => by have := h.k0; omega), List.Pairwise.nil⟩

theorem rd_mem (l : List Int) (i : Int) (h0 : 0 ≤ i) (h1 : i < l.length) : rd l i ∈ l := by
  unfold rd
  rw [List.getD_eq_getElem?_getD, List.getElem?_eq_getElem (by omega)]
  exact List.getElem_mem _
theorem mem_rd (l : List Int) (x : Int) (h : x ∈ l) : ∃ i : Int, 0 ≤ i ∧ i < l.length ∧ rd l i = x := by
  obtain ⟨j, hj, e⟩ := List.getElem_of_mem h
  refine ⟨j, by omega, by omega, ?_⟩
  unfold rd
  rw [List.getD_eq_getElem?_getD, List.getElem?_eq_getElem (by omega)]
  exact e
theorem rd_up (l : List Int) (h : l.Pairwise (· < ·)) (i j : Int) (h0 : 0 ≤ i) (hij : i < j) (h1 : j < l.length) : rd l i < rd l j := by
  unfold rd
  rw [List.getD_eq_getElem?_getD, List.getElem?_eq_getElem (by omega), List.getD_eq_getElem?_getD, List.getElem?_eq_getElem (by omega)]
  exact List.pairwise_iff_getElem.mp h _ _ (by omega) (by omega) (by omega)
theorem one_only (l : List Int) (c : Int) (h : l.Pairwise (· < ·)) (hm : ∀ x, x ∈ l → x = c) (hc : c ∈ l) : l = [c] := by
  cases l with
  | nil => cases hc
  | cons a r =>
    obtain rfl := hm a List.mem_cons_self
    cases r with
    | nil => rfl
    | cons b r =>
      obtain rfl := hm b (List.mem_cons_of_mem _ List.mem_cons_self)
      have := (List.pairwise_cons.mp h).1 _ List.mem_cons_self
      omega
theorem back_loop (nm : ByteArray) (first : Int) (C : List ZC) (hw : WfZ C) (v : ValidZ nm first C) (t D M : Int) (L : List Int) (hlen : L.length ≤ 201) (hup : L.Pairwise (· < ·))
    (hloc : ∀ x k, x ∈ L → 600 < k → zone_Local.f k nm first C x = some (D, M, 0)) (d : Nat) : ∀ (k : Nat) (i : Int) (f : Bool), 0 ≤ i → i + d = L.length → d + 700 < k → (f = true ↔ ∃ j : Int, 0 ≤ j ∧ j < i ∧ rd L j = t) →
    ∃ g : Bool, ephemeriskeep1_ZoneBack.l0 k t D M 0 L f L (L.length : Int) i nm first C = some g ∧ (g = true ↔ t ∈ L) := by
  induction d with
  | zero =>
    intro k i f h0 h1 hk hf
    obtain ⟨k, rfl⟩ : ∃ q, k = q + 1 := ⟨k - 1, by omega⟩
    refine ⟨f, ?_, ?_⟩
    · simp only [ephemeriskeep1_ZoneBack.l0]
      rw [if_neg (by omega), if_pos trivial]
    · rw [hf]
      refine ⟨fun ⟨j, a, b, c⟩ => by rw [← c]; exact rd_mem L j a (by omega), fun h => ?_⟩
      obtain ⟨j, a, b, c⟩ := mem_rd L t h
      exact ⟨j, a, by omega, c⟩
  | succ d ih =>
    intro k i f h0 h1 hk hf
    obtain ⟨k, rfl⟩ : ∃ q, k = q + 1 := ⟨k - 1, by omega⟩
    have step : ephemeriskeep1_ZoneBack.l0 (k + 1) t D M 0 L f L (L.length : Int) i nm first C = ephemeriskeep1_ZoneBack.l0 k t D M 0 L (f || (rd L i == t)) L (L.length : Int) (i + 1) nm first C := by
      conv => lhs; simp only [ephemeriskeep1_ZoneBack.l0]
      rw [if_pos (by omega), if_pos h0, if_pos (by omega), hloc (rd L i) k (rd_mem L i h0 (by omega)) (by omega)]
      simp only [Option.bind_some]
      rw [if_pos trivial, if_pos trivial, if_pos trivial, w64 (n := i + 1) (by omega) (by omega)]
      have hff : (if f = true then ephemeriskeep1_ZoneBack.l0 k t D M 0 L true L (L.length : Int) (i + 1) nm first C else ephemeriskeep1_ZoneBack.l0 k t D M 0 L (rd L i == t) L (L.length : Int) (i + 1) nm first C) = ephemeriskeep1_ZoneBack.l0 k t D M 0 L (f || (rd L i == t)) L (L.length : Int) (i + 1) nm first C := by
        cases f <;> simp
      by_cases c : i > 0
      · rw [if_pos c, w64 (n := i - 1) (by omega) (by omega), if_pos (by omega), if_pos (by omega), if_neg (by have := rd_up L hup (i - 1) i (by omega) (by omega) (by omega); omega)]
        exact hff
      · rw [if_neg c]
        exact hff
    rw [step]
    refine ih k (i + 1) _ (by omega) (by omega) (by omega) ?_
    rw [Bool.or_eq_true, beq_iff_eq, hf]
    constructor
    · rintro (⟨j, a, b, c⟩ | h)
      · exact ⟨j, a, by omega, c⟩
      · exact ⟨i, h0, by omega, h⟩
    · rintro ⟨j, a, b, c⟩
      by_cases z : j = i
      · subst z; exact .inr c
      · exact .inl ⟨j, a, by omega, c⟩
theorem wfz_of (C : List ZC) (h : ∀ x ∈ C, Wf69 x) : WfZ C := by
  intro i h0 h1
  have hm : rd_T69 C i ∈ C := by
    unfold rd_T69
    rw [List.getD_eq_getElem?_getD, List.getElem?_eq_getElem (by omega)]
    exact List.getElem_mem _
  exact lit64 (h _ hm).1
theorem wfz_nil : WfZ [] := fun i h0 h1 => by simp at h1; omega
theorem valid_nil (nm : ByteArray) (first : Int) (h : nameB nm = true) (ho : offOk first) : ValidZ nm first [] :=
  ⟨h, ho, by simp, fun i h0 h1 => by simp at h1; omega, fun i h0 h1 => by simp at h1; omega, fun i h0 h1 => by simp at h1; omega, fun i h0 h1 => by simp at h1; omega⟩

theorem base_is (k : Nat) (hk : 1000 < k) : zone_Instants.f k (⟨#[98, 97, 115, 101]⟩ : ByteArray) 3600000 [] 0 3600000 = some ([0], 0) := by
  have v := valid_nil (⟨#[98, 97, 115, 101]⟩ : ByteArray) 3600000 (by decide +kernel) ⟨by omega, by omega, by omega⟩
  obtain ⟨l, e, _, h⟩ := instants_is k _ 3600000 [] wfz_nil v 0 3600000 (by omega) (by omega) (by omega) (by omega) hk
  have hl : l = [0] := by
    refine one_only l 0 h.up (fun x hx => ?_) (h.all 0 0 (by simp) ⟨by omega, by simp, fun i a b => by omega, fun i a b => by simp at b; omega⟩ (by simp [OFF]) ⟨by omega, by omega⟩)
    obtain ⟨p, a, b, c, _⟩ := h.mem x hx
    have := b.k0
    simp at a
    obtain rfl : p = 0 := by omega
    rw [c]; simp [OFF]
  rw [e, hl]
theorem ZoneBack : ephemeriskeep1_ZoneBack.Pure := by
  intro nm first C t hnm hf hC ht
  have hw := wfz_of C hC.1
  have ht := lit64 ht
  obtain ⟨K, hK⟩ : ∃ K : Nat, 1999 < K := ⟨2000, by omega⟩
  refine ⟨K + 1, ?_⟩
  unfold ephemeriskeep1_ZoneBack.f
  rw [base_is (K + 1) (by omega)]
  simp only [Option.bind_some]
  rw [if_pos trivial, if_pos (by simp), if_pos (by simp)]
  simp only [ephemeriskeep1_ZoneBack.j0]
  rw [if_neg (by decide)]
  by_cases hv : ValidZ nm first C ∧ inDay t
  · obtain ⟨v, hin⟩ := hv
    obtain ⟨p, -, hp⟩ := piece_is 300 nm first C v t (by omega)
    rcases local_is K nm first C hw v t p hp hin (by omega) with ⟨hi2, e⟩ | ⟨_, e⟩
    · rw [e]
      simp only [Option.bind_some]
      rw [if_pos trivial]
      generalize hT : t + OFF first C p = T at *
      have hi2' := hi2
      unfold inDay at hi2'
      obtain ⟨l, el, hll, hl⟩ := instants_is K nm first C hw v (T / 86400000) (T % 86400000) hi2'.1 hi2'.2 (by omega) (by omega) (by omega)
      rw [show T / 86400000 * 86400000 + T % 86400000 = T from by omega] at hl
      rw [el]
      simp only [Option.bind_some]
      have hloc : ∀ x k, x ∈ l → 600 < k → zone_Local.f k nm first C x = some (T / 86400000, T % 86400000, 0) := by
        intro x k hx hk
        obtain ⟨q, a, b, c, d⟩ := hl.mem x hx
        have es : x + OFF first C q = T := by omega
        rcases local_is k nm first C hw v x q b d hk with ⟨_, e⟩ | ⟨n, _⟩
        · rw [e, es]
        · rw [es] at n; exact absurd hi2 n
      obtain ⟨g, eg, hg⟩ := back_loop nm first C hw v t (T / 86400000) (T % 86400000) l hll hl.up hloc l.length K 0 false (by omega) (by omega) (by omega) (by simp; intro j a b; omega)
      rw [eg]
      have : g = true := hg.mpr (hl.all t p (by have := hp.kn; omega) hp (by omega) hin)
      rw [this]
    · rw [e]
      simp only [Option.bind_some]
      rw [if_neg (by decide)]
  · obtain ⟨c, hc, e⟩ := local_bad K nm first C hw t ht.1 ht.2 hv (by omega)
    rw [e]
    simp only [Option.bind_some]
    rw [if_neg hc]

end Go.Proofs.Ytboddbgmgcjppaa.Pure
