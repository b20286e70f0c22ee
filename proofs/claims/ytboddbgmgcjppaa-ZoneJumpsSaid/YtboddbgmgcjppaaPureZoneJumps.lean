/- For every valid zone and each of its changes, where no other change lies within four days of it: the local time in the middle of what the change skips has no instant, that in the middle of what it repeats has two, apart by the jump, and there is just one if the offset stays. No conditions. -/
import Derived.Test.YtboddbgmgcjppaaQZoneJumpsx13
import Derived.Test.YtboddbgmgcjppaaStmtZoneJumps
set_option linter.unusedVariables false
set_option linter.unusedSimpArgs false
namespace Go.Proofs.Ytboddbgmgcjppaa.Pure
open Go.RowKit Go.Proofs.Ytboddbgmgcjppaa.QZoneJumps Go.Proofs.YtboddbgmgcjppaaW.PrintWords Go.Proofs.YtboddbgmgcjppaaW.PrintLast

theorem lit64 {a : Int} (h : (Go.Lit.int .i64 a).wf = true) : -9223372036854775808 ≤ a ∧ a ≤ 9223372036854775807 := by
  simp only [Go.Lit.wf, Bool.and_eq_true, decide_eq_true_eq] at h
  have h1 : Go.IntKind.i64.min = -9223372036854775808 := by decide
  have h2 : Go.IntKind.i64.max = 9223372036854775807 := by decide
  omega
theorem w64 {n : Int} (h1 : -9223372036854775808 ≤ n) (h2 : n ≤ 9223372036854775807) : wrap64 n = n := by unfold wrap64; omega
theorem w64r (n : Int) : -9223372036854775808 ≤ wrap64 n ∧ wrap64 n ≤ 9223372036854775807 := by unfold wrap64; omega
theorem tmod_pos {a b : Int} (ha : 0 ≤ a) : Int.tmod a b = a % b := by rw [Int.tmod_eq_emod, if_pos (Or.inl ha)]; simp
theorem tdiv_pos {a b : Int} (ha : 0 ≤ a) : Int.tdiv a b = a / b := by rw [Int.tdiv_eq_ediv, if_pos (Or.inl ha)]; simp
theorem tmod_bounds {a b : Int} (hb : 0 < b) : -b < Int.tmod a b ∧ Int.tmod a b < b ∧ (0 ≤ a → 0 ≤ Int.tmod a b) ∧ (a ≤ 0 → Int.tmod a b ≤ 0) := by
  rw [Int.tmod_eq_emod]
  have h1 := Int.emod_nonneg a (show b ≠ 0 by omega)
  have h2 := Int.emod_lt_of_pos a hb
  split
  · rename_i h
    refine ⟨by omega, by omega, fun _ => by omega, fun h0 => ?_⟩
    rcases h with h | h
    · have : a = 0 := by omega
      subst this; simp
    · rw [Int.emod_eq_zero_of_dvd h]; simp
  · refine ⟨by omega, by omega, fun _ => by omega, fun _ => by omega⟩
/-- tmod and tdiv against emod and ediv, for a positive divisor. -/
theorem tmod_cases {a b : Int} (hb : 0 < b) : (Int.tmod a b = a % b ∧ Int.tdiv a b = a / b ∧ (0 ≤ a ∨ a % b = 0)) ∨ (a < 0 ∧ a % b ≠ 0 ∧ Int.tmod a b = a % b - b ∧ Int.tdiv a b = a / b + 1) := by
  by_cases h : 0 ≤ a ∨ b ∣ a
  · left
    refine ⟨by rw [Int.tmod_eq_emod, if_pos h]; simp, by rw [Int.tdiv_eq_ediv, if_pos h]; simp, h.imp id Int.emod_eq_zero_of_dvd⟩
  · right
    have h' := not_or.mp h
    refine ⟨by omega, fun e => h'.2 (Int.dvd_of_emod_eq_zero e), ?_, ?_⟩
    · rw [Int.tmod_eq_emod, if_neg h]; omega
    · rw [Int.tdiv_eq_ediv, if_neg h, Int.sign_eq_one_of_pos hb]
theorem ediv_range {a b : Int} (hb : 0 < b) (h1 : -9223372036854775808 ≤ a) (h2 : a ≤ 9223372036854775807) : -9223372036854775808 ≤ a / b ∧ a / b ≤ 9223372036854775807 := by
  have e := Int.mul_ediv_add_emod a b
  have l := Int.emod_nonneg a (show b ≠ 0 by omega)
  have u := Int.emod_lt_of_pos a hb
  constructor
  · by_cases c : 0 ≤ a
    · have := Int.ediv_nonneg c (show 0 ≤ b by omega); omega
    · have : a ≤ a / b := by
        rw [Int.le_ediv_iff_mul_le hb]
        have : a * b ≤ a * 1 := Int.mul_le_mul_of_nonpos_left (by omega) (by omega)
        omega
      omega
  · by_cases c : 0 ≤ a
    · have : a / b ≤ a := Int.ediv_le_self b c
      omega
    · have : a / b ≤ 0 := by
        have : a / b < 0 := Int.ediv_neg_of_neg_of_pos (by omega) hb
        omega
      omega
/-- the remainder from 0 on, as the program computes it twice. -/
theorem mod_twice {a b : Int} (hb : 0 < b) (hb2 : b ≤ 4611686018427387904) : Int.tmod (wrap64 ((Int.tmod a b) + b)) b = a % b := by
  have hc := tmod_bounds (a := a) hb
  have h1 := Int.emod_nonneg a (show b ≠ 0 by omega)
  have h2 := Int.emod_lt_of_pos a hb
  rw [w64 (by omega) (by omega)]
  rw [tmod_pos (by omega)]
  rcases tmod_cases (a := a) hb with ⟨e, _, _⟩ | ⟨_, _, e, _⟩
  · rw [e]; simp
  · rw [e, show a % b - b + b = a % b from by omega]; simp

theorem mod_is (a b : Int) (hb : 0 < b) (hb2 : b ≤ 4611686018427387904) : ephemeriskeep1_mod.f a b = some (a % b) := by
  unfold ephemeriskeep1_mod.f
  rw [if_neg (by omega), mod_twice hb hb2]

theorem div_is (k : Nat) (a b : Int) (hb : 0 < b) (h1 : -9223372036854775808 ≤ a) (h2 : a ≤ 9223372036854775807) (hb2 : b ≤ 4611686018427387904) :
    whole_Div.f (k + 1) a b = some (a / b, a % b, 0) := by
  have hj : whole_Div.j0 (k + 1) a b false = some (a / b, a % b, 0) := by
    have hm1 := Int.emod_nonneg a (show b ≠ 0 by omega)
    have hm2 := Int.emod_lt_of_pos a hb
    have hr := ediv_range hb h1 h2
    simp only [whole_Div.j0]
    rw [if_neg (by decide), if_neg (by omega)]
    rcases tmod_cases (a := a) hb with ⟨e, e', c⟩ | ⟨c, c', e, e'⟩
    · rw [e, e', w64 hr.1 hr.2]
      by_cases z : a % b = 0
      · rw [if_pos z, z]
      · rw [if_neg z, if_neg]
        have hd1 : decide (a % b < 0) = false := decide_eq_false (by omega)
        have hd2 : decide (b < 0) = false := decide_eq_false (by omega)
        rw [hd1, hd2]; decide
    · rw [e, e']
      have hr2 : a / b < 0 := Int.ediv_neg_of_neg_of_pos c hb
      rw [w64 (by omega) (by omega)]
      have hd1 : decide (a % b - b < 0) = true := decide_eq_true (by omega)
      have hd2 : decide (b < 0) = false := decide_eq_false (by omega)
      rw [if_neg (by omega), hd1, hd2, if_pos (by decide), w64 (by omega) (by omega), w64 (by omega) (by omega)]
      congr 2
      · omega
      · congr 1; omega
  unfold whole_Div.f
  rw [if_neg (by omega)]
  by_cases c : a = -9223372036854775808
  · rw [if_pos c]
    have : (b == -1) = false := beq_eq_false_iff_ne.mpr (by omega)
    rw [this]; exact hj
  · rw [if_neg c]; exact hj

theorem check_ok (d : Int) (h1 : -4000000 ≤ d) (h2 : d ≤ 4000000) : line_Check.f d = some 0 := by
  unfold line_Check.f
  rw [if_neg (by omega), if_neg (by omega)]
theorem check_bad (d : Int) (h : d < -4000000 ∨ 4000000 < d) : line_Check.f d = some 3 := by
  unfold line_Check.f
  by_cases c : d < -4000000
  · rw [if_pos c]
  · rw [if_neg c, if_pos (by omega)]

theorem split_ok (k : Nat) (t : Int) (h1 : -4000000 ≤ t / 86400000) (h2 : t / 86400000 ≤ 4000000) : line_Split.f (k + 1) t = some (t / 86400000, t % 86400000, 0) := by
  unfold line_Split.f
  rw [div_is k t 86400000 (by omega) (by omega) (by omega) (by omega), Option.bind_some]
  show ((line_Check.f (t / 86400000)).bind _) = _
  rw [check_ok _ h1 h2, Option.bind_some, if_pos rfl]
theorem split_bad (k : Nat) (t : Int) (hl : -9223372036854775808 ≤ t) (hu : t ≤ 9223372036854775807) (h : t / 86400000 < -4000000 ∨ 4000000 < t / 86400000) : line_Split.f (k + 1) t = some (0, 0, 3) := by
  unfold line_Split.f
  rw [div_is k t 86400000 (by omega) hl hu (by omega), Option.bind_some]
  show ((line_Check.f (t / 86400000)).bind _) = _
  rw [check_bad _ h, Option.bind_some, if_neg (by decide)]
theorem instant_ok (d m : Int) (h1 : -4000000 ≤ d) (h2 : d ≤ 4000000) (h3 : 0 ≤ m) (h4 : m < 86400000) : line_Instant.f d m = some (d * 86400000 + m, 0) := by
  unfold line_Instant.f
  rw [check_ok _ h1 h2, Option.bind_some, if_pos rfl, if_neg (by omega), if_neg (by omega), w64 (n := d * 86400000) (by omega) (by omega), w64 (by omega) (by omega)]

abbrev ZC := S69
def AT (C : List ZC) (i : Int) : Int := (rd_T69 C i).f0
def OF (C : List ZC) (i : Int) : Int := (rd_T69 C i).f1
def OFF (first : Int) (C : List ZC) (k : Int) : Int := if k = 0 then first else OF C (k - 1)
def offOk (o : Int) : Prop := -64800000 ≤ o ∧ o ≤ 64800000 ∧ o % 1000 = 0
def inDay (t : Int) : Prop := -4000000 ≤ t / 86400000 ∧ t / 86400000 ≤ 4000000
structure ValidZ (nm : ByteArray) (first : Int) (C : List ZC) : Prop where
  name : nameB nm = true
  f : offOk first
  n : C.length ≤ 200
  at_ : ∀ i : Int, 0 ≤ i → i < C.length → inDay (AT C i)
  of_ : ∀ i : Int, 0 ≤ i → i < C.length → offOk (OF C i)
  lab : ∀ i : Int, 0 ≤ i → i < C.length → labelB (rd_T69 C i).f2 = true
  up : ∀ i : Int, 0 < i → i < C.length → AT C (i - 1) < AT C i
theorem ValidZ.off {nm : ByteArray} {first : Int} {C : List ZC} (v : ValidZ nm first C) (k : Int) (h0 : 0 ≤ k) (h1 : k ≤ C.length) : offOk (OFF first C k) := by
  unfold OFF
  by_cases c : k = 0
  · rw [if_pos c]; exact v.f
  · rw [if_neg c]; exact v.of_ (k - 1) (by omega) (by omega)
theorem ValidZ.mono {nm : ByteArray} {first : Int} {C : List ZC} (v : ValidZ nm first C) (d : Nat) : ∀ i : Int, 0 ≤ i → i + d < C.length → AT C i ≤ AT C (i + d) := by
  induction d with
  | zero => intro i _ _; simp
  | succ d ih =>
    intro i h0 h1
    have a := ih i h0 (by omega)
    have b := v.up (i + d + 1) (by omega) (by omega)
    rw [show i + (d : Int) + 1 - 1 = i + d from by omega] at b
    rw [show i + ((d + 1 : Nat) : Int) = i + d + 1 from by omega]
    omega
theorem ValidZ.lt {nm : ByteArray} {first : Int} {C : List ZC} (v : ValidZ nm first C) (i j : Int) (h0 : 0 ≤ i) (h : i < j) (h1 : j < C.length) : AT C i < AT C j := by
  have a := v.up (i + 1) (by omega) (by omega)
  rw [show i + 1 - 1 = i from by omega] at a
  have b := v.mono (j - (i + 1)).toNat (i + 1) (by omega) (by omega)
  rw [show i + 1 + ((j - (i + 1)).toNat : Int) = j from by omega] at b
  omega
theorem split_any (k : Nat) (t : Int) (hl : -9223372036854775808 ≤ t) (hu : t ≤ 9223372036854775807) : (inDay t ∧ line_Split.f (k + 1) t = some (t / 86400000, t % 86400000, 0)) ∨ (¬ inDay t ∧ line_Split.f (k + 1) t = some (0, 0, 3)) := by
  by_cases c : inDay t
  · exact .inl ⟨c, split_ok k t c.1 c.2⟩
  · exact .inr ⟨c, split_bad k t hl hu (by unfold inDay at c; omega)⟩
theorem isoff_is (o : Int) : ∃ b : Bool, zone_IsOffset.f o = some b ∧ (b = true ↔ offOk o) := by
  unfold zone_IsOffset.f offOk
  by_cases c1 : o ≥ -64800000
  · rw [if_pos c1]
    by_cases c2 : o ≤ 64800000
    · rw [if_pos c2]
      refine ⟨_, rfl, ?_⟩
      rw [beq_iff_eq]
      rcases tmod_cases (a := o) (b := 1000) (by omega) with ⟨e, _, _⟩ | ⟨_, h, e, _⟩
      · rw [e]; omega
      · have := Int.emod_lt_of_pos o (show (0 : Int) < 1000 by omega)
        rw [e]; omega
    · rw [if_neg c2]; exact ⟨false, rfl, by simp; omega⟩
  · rw [if_neg c1]; exact ⟨false, rfl, by simp; omega⟩
/-- What Check has found valid from a place on. -/
structure Upto (C : List ZC) (j : Int) : Prop where
  at_ : ∀ i : Int, 0 ≤ i → i < j → inDay (AT C i)
  of_ : ∀ i : Int, 0 ≤ i → i < j → offOk (OF C i)
  lab : ∀ i : Int, 0 ≤ i → i < j → labelB (rd_T69 C i).f2 = true
  up : ∀ i : Int, 0 < i → i < j → AT C (i - 1) < AT C i
theorem zcheck_loop (nm : ByteArray) (first : Int) (C : List ZC) (hn : C.length ≤ 200) (hw : ∀ i : Int, 0 ≤ i → i < C.length → -9223372036854775808 ≤ AT C i ∧ AT C i ≤ 9223372036854775807) (d : Nat) :
    ∀ (k : Nat) (j : Int), 0 ≤ j → j + d = C.length → 2 * d + 3 < k → Upto C j → (zone_Check.l0 k C (C.length : Int) j nm first C = some 0 ∧ Upto C C.length) ∨ ∃ c, c ≠ 0 ∧ zone_Check.l0 k C (C.length : Int) j nm first C = some c ∧ ¬ Upto C C.length := by
  induction d with
  | zero =>
    intro k j h0 h1 hk hu
    obtain ⟨k, rfl⟩ : ∃ q, k = q + 1 := ⟨k - 1, by omega⟩
    left
    obtain rfl : j = C.length := by omega
    simp only [zone_Check.l0]
    rw [if_neg (by omega)]
    exact ⟨rfl, hu⟩
  | succ d ih =>
    intro k j h0 h1 hk hu
    obtain ⟨k, rfl⟩ : ∃ q, k = q + 3 := ⟨k - 3, by omega⟩
    have w := hw j h0 (by omega)
    simp only [zone_Check.l0]
    rw [if_pos (by omega), if_pos h0, if_pos (by omega)]
    have hAT : (rd_T69 C j).f0 = AT C j := rfl
    have hOF : (rd_T69 C j).f1 = OF C j := rfl
    rw [hAT, hOF]
    rcases split_any (k + 1) (AT C j) w.1 w.2 with ⟨hin, e⟩ | ⟨hin, e⟩
    · rw [e]
      simp only [Option.bind_some]
      rw [if_pos trivial]
      obtain ⟨b, eb, hb⟩ := isoff_is (OF C j)
      rw [eb]
      simp only [Option.bind_some, zone_Check.j1]
      by_cases cb : b = true
      · rw [cb, if_neg (by decide)]
        have hof := hb.mp cb
        simp only [zone_IsLabel.f, Option.bind_some]
        by_cases cl : labelB (rd_T69 C j).f2 = true
        · rw [if_pos cl]
          by_cases cj : j > 0
          · rw [if_pos cj, w64 (n := j - 1) (by omega) (by omega), if_pos (by omega), if_pos (by omega)]
            by_cases cu : AT C j ≤ (rd_T69 C (j - 1)).f0
            · rw [if_pos cu]
              refine .inr ⟨9, by omega, rfl, fun u => ?_⟩
              have := u.up j cj (by omega)
              unfold AT at this cu
              omega
            · rw [if_neg cu, w64 (n := j + 1) (by omega) (by omega)]
              refine ih (k + 1) (j + 1) (by omega) (by omega) (by omega) ⟨fun i a b => ?_, fun i a b => ?_, fun i a b => ?_, fun i a b => ?_⟩
              · by_cases z : i = j
                · subst z; exact hin
                · exact hu.at_ i a (by omega)
              · by_cases z : i = j
                · subst z; exact hof
                · exact hu.of_ i a (by omega)
              · by_cases z : i = j
                · subst z; exact cl
                · exact hu.lab i a (by omega)
              · by_cases z : i = j
                · subst z; unfold AT at cu ⊢; omega
                · exact hu.up i a (by omega)
          · rw [if_neg cj, w64 (n := j + 1) (by omega) (by omega)]
            have hj0 : j = 0 := by omega
            refine ih (k + 1) (j + 1) (by omega) (by omega) (by omega) ⟨fun i a b => ?_, fun i a b => ?_, fun i a b => ?_, fun i a b => by omega⟩
            · obtain rfl : i = j := by omega
              exact hin
            · obtain rfl : i = j := by omega
              exact hof
            · obtain rfl : i = j := by omega
              exact cl
        · rw [if_neg cl]
          exact .inr ⟨8, by omega, rfl, fun u => cl (u.lab j h0 (by omega))⟩
      · have cb' : b = false := by simpa using cb
        rw [cb', if_pos (by decide)]
        exact .inr ⟨3, by omega, rfl, fun u => cb (hb.mpr (u.of_ j h0 (by omega)))⟩
    · rw [e]
      simp only [Option.bind_some]
      rw [if_neg (by decide)]
      simp only [zone_Check.j1]
      rw [if_pos trivial]
      exact .inr ⟨3, by omega, rfl, fun u => hin (u.at_ j h0 (by omega))⟩
def WfZ (C : List ZC) : Prop := ∀ i : Int, 0 ≤ i → i < C.length → -9223372036854775808 ≤ AT C i ∧ AT C i ≤ 9223372036854775807
theorem zcheck_is (k : Nat) (nm : ByteArray) (first : Int) (C : List ZC) (hw : WfZ C) (hk : 500 < k) : (ValidZ nm first C ∧ zone_Check.f k nm first C = some 0) ∨ (¬ ValidZ nm first C ∧ ∃ c, c ≠ 0 ∧ zone_Check.f k nm first C = some c) := by
  unfold zone_Check.f rule_Name.f
  simp only [Option.bind_some]
  by_cases c1 : nameB nm = true
  · rw [if_pos c1]
    obtain ⟨b, eb, hb⟩ := isoff_is first
    rw [eb]
    simp only [Option.bind_some]
    by_cases c2 : b = true
    · rw [if_pos c2]
      by_cases c3 : (C.length : Int) > 200
      · rw [if_pos c3]
        exact .inr ⟨fun v => by have := v.n; omega, 2, by omega, rfl⟩
      · rw [if_neg c3]
        rcases zcheck_loop nm first C (by omega) hw C.length k 0 (by omega) (by omega) (by omega) ⟨fun i a b => by omega, fun i a b => by omega, fun i a b => by omega, fun i a b => by omega⟩ with ⟨e, u⟩ | ⟨c, hc, e, u⟩
        · exact .inl ⟨⟨c1, hb.mp c2, by omega, u.at_, u.of_, u.lab, u.up⟩, e⟩
        · exact .inr ⟨fun v => u ⟨v.at_, v.of_, v.lab, v.up⟩, c, hc, e⟩
    · rw [if_neg c2]
      exact .inr ⟨fun v => c2 (hb.mpr v.f), 3, by omega, rfl⟩
  · rw [if_neg c1]
    exact .inr ⟨fun v => c1 v.name, 5, by omega, rfl⟩
theorem zcheck_ok (k : Nat) (nm : ByteArray) (first : Int) (C : List ZC) (hw : WfZ C) (v : ValidZ nm first C) (hk : 500 < k) : zone_Check.f k nm first C = some 0 := by
  rcases zcheck_is k nm first C hw hk with ⟨_, e⟩ | ⟨n, _⟩
  · exact e
  · exact absurd v n
/-- k changes are not later than t. -/
structure Piece (C : List ZC) (t k : Int) : Prop where
  k0 : 0 ≤ k
  kn : k ≤ C.length
  lo : ∀ i : Int, 0 ≤ i → i < k → AT C i ≤ t
  hi : ∀ i : Int, k ≤ i → i < C.length → t < AT C i
theorem Piece.unique {C : List ZC} {t k k' : Int} (h : Piece C t k) (h' : Piece C t k') : k = k' := by
  by_cases c : k < k'
  · have := h'.lo k h.k0 c; have := h.hi k (by omega) (by have := h'.kn; omega); omega
  · by_cases c' : k' < k
    · have := h.lo k' h'.k0 c'; have := h'.hi k' (by omega) (by have := h.kn; omega); omega
    · omega
theorem Piece.of {nm : ByteArray} {first : Int} {C : List ZC} (v : ValidZ nm first C) {t k : Int} (h0 : 0 ≤ k) (h1 : k ≤ C.length) (hl : k > 0 → AT C (k - 1) ≤ t) (hh : k < C.length → t < AT C k) : Piece C t k := by
  refine ⟨h0, h1, fun i a b => ?_, fun i a b => ?_⟩
  · have := hl (by omega)
    by_cases z : i = k - 1
    · subst z; exact this
    · have := v.lt i (k - 1) a (by omega) (by omega); omega
  · have := hh (by omega)
    by_cases z : i = k
    · subst z; exact this
    · have := v.lt k i h0 (by omega) b; omega
theorem Piece.lt {nm : ByteArray} {first : Int} {C : List ZC} (v : ValidZ nm first C) {t t' k k' : Int} (h : Piece C t k) (h' : Piece C t' k') (hk : k < k') : t < t' := by
  have a := h.hi k (by omega) (by have := h'.kn; omega)
  have b := h'.lo k h.k0 hk
  omega
theorem piece_loop (nm : ByteArray) (first : Int) (C : List ZC) (v : ValidZ nm first C) (t : Int) (d : Nat) : ∀ (k : Nat) (lo hi : Int), 0 ≤ lo → lo ≤ hi → hi ≤ C.length → hi - lo ≤ d → d < k →
    (∀ i : Int, 0 ≤ i → i < lo → AT C i ≤ t) → (∀ i : Int, hi ≤ i → i < C.length → t < AT C i) → ∃ p, zone_piece.l0 k t lo hi nm first C = some p ∧ Piece C t p := by
  have hn := v.n
  induction d with
  | zero =>
    intro k lo hi h0 h1 h2 hd hk a b
    obtain ⟨k, rfl⟩ : ∃ q, k = q + 1 := ⟨k - 1, by omega⟩
    obtain rfl : hi = lo := by omega
    refine ⟨hi, ?_, h0, h2, a, b⟩
    simp only [zone_piece.l0]
    rw [if_neg (by omega)]
  | succ d ih =>
    intro k lo hi h0 h1 h2 hd hk a b
    obtain ⟨k, rfl⟩ : ∃ q, k = q + 1 := ⟨k - 1, by omega⟩
    simp only [zone_piece.l0]
    by_cases c : lo < hi
    · rw [if_pos c, w64 (n := lo + hi) (by omega) (by omega), tdiv_pos (by omega), w64 (n := (lo + hi) / 2) (by omega) (by omega), if_pos (by omega), if_pos (by omega)]
      by_cases c2 : (rd_T69 C ((lo + hi) / 2)).f0 ≤ t
      · rw [if_pos c2, w64 (n := (lo + hi) / 2 + 1) (by omega) (by omega)]
        refine ih k _ hi (by omega) (by omega) h2 (by omega) (by omega) (fun i x y => ?_) b
        by_cases z : i = (lo + hi) / 2
        · subst z; exact c2
        · have := v.lt i ((lo + hi) / 2) x (by omega) (by omega)
          unfold AT at this ⊢
          omega
      · rw [if_neg c2]
        refine ih k lo _ h0 (by omega) (by omega) (by omega) (by omega) a (fun i x y => ?_)
        by_cases z : i = (lo + hi) / 2
        · subst z; unfold AT; omega
        · have := v.lt ((lo + hi) / 2) i (by omega) (by omega) y
          unfold AT at this ⊢
          omega
    · rw [if_neg c]
      obtain rfl : hi = lo := by omega
      exact ⟨hi, rfl, h0, h2, a, b⟩
theorem piece_is (k : Nat) (nm : ByteArray) (first : Int) (C : List ZC) (v : ValidZ nm first C) (t : Int) (hk : 200 < k) : ∃ p, zone_piece.f k nm first C t = some p ∧ Piece C t p := by
  have hn := v.n
  unfold zone_piece.f
  exact piece_loop nm first C v t C.length k 0 (C.length : Int) (by omega) (by omega) (by omega) (by omega) (by omega) (fun i a b => by omega) (fun i a b => by omega)
theorem offset_is (k : Nat) (nm : ByteArray) (first : Int) (C : List ZC) (hw : WfZ C) (v : ValidZ nm first C) (t p : Int) (hp : Piece C t p) (ht : inDay t) (hk : 600 < k) : ∃ lab, zone_Offset.f k nm first C t = some (OFF first C p, lab, 0) := by
  obtain ⟨k, rfl⟩ : ∃ q, k = q + 1 := ⟨k - 1, by omega⟩
  have hn := v.n
  have hp0 := hp.k0
  have hpn := hp.kn
  unfold zone_Offset.f zone_begin.f
  rw [zcheck_ok (k + 1) nm first C hw v (by omega)]
  simp only [Option.bind_some]
  rw [if_pos trivial, split_ok k t ht.1 ht.2]
  simp only [Option.bind_some]
  rw [if_pos trivial]
  obtain ⟨p', e, hp'⟩ := piece_is (k + 1) nm first C v t (by omega)
  obtain rfl := hp.unique hp'
  rw [e]
  simp only [Option.bind_some]
  unfold OFF
  by_cases c : p = 0
  · rw [if_pos c, if_pos c]; exact ⟨_, rfl⟩
  · rw [if_neg c, if_neg c, w64 (n := p - 1) (by omega) (by omega), if_pos (by omega), if_pos (by omega)]
    exact ⟨_, rfl⟩

/-- What Instants has listed. -/
structure Listed (first : Int) (C : List ZC) (T j : Int) (l : List Int) : Prop where
  mem : ∀ x, x ∈ l → ∃ p, p < j ∧ Piece C x p ∧ x = T - OFF first C p ∧ inDay x
  all : ∀ x p, p < j → Piece C x p → x = T - OFF first C p → inDay x → x ∈ l
  up : l.Pairwise (· < ·)
theorem inst_loop (nm : ByteArray) (first : Int) (C : List ZC) (v : ValidZ nm first C) (T : Int) (hT1 : -400000000000000 ≤ T) (hT2 : T ≤ 400000000000000) (d : Nat) : ∀ (k : Nat) (acc : List Int) (j : Int), 0 ≤ j → j + d = C.length + 1 → 3 * d + 5 < k → (acc.length : Int) ≤ j → Listed first C T j acc →
    ∃ l, zone_Instants.l0 k T acc j nm first C = some (l, 0) ∧ l.length ≤ 201 ∧ Listed first C T (C.length + 1) l := by
  have hn := v.n
  induction d with
  | zero =>
    intro k acc j h0 h1 hk ha hl
    obtain ⟨k, rfl⟩ : ∃ q, k = q + 1 := ⟨k - 1, by omega⟩
    obtain rfl : j = C.length + 1 := by omega
    refine ⟨acc, ?_, by omega, hl⟩
    simp only [zone_Instants.l0]
    rw [if_neg (by omega)]
  | succ d ih =>
    intro k acc j h0 h1 hk ha hl
    obtain ⟨k, rfl⟩ : ∃ q, k = q + 4 := ⟨k - 4, by omega⟩
    have ho := v.off j h0 (by omega)
    unfold offOk at ho
    -- the place from which the loop goes on
    have hj1 : ∀ o, OFF first C j = o → zone_Instants.l0 (k + 4) T acc j nm first C = zone_Instants.j1 (k + 3) T acc j o nm first C := by
      intro o e
      conv => lhs; simp only [zone_Instants.l0]
      rw [if_pos (by omega)]
      unfold OFF at e
      by_cases c : j > 0
      · rw [if_neg (by omega)] at e
        rw [if_pos c, w64 (n := j - 1) (by omega) (by omega), if_pos (by omega), if_pos (by omega)]
        subst e; rfl
      · rw [if_pos (by omega)] at e
        rw [if_neg c, e]
    rw [hj1 _ rfl]
    generalize hx : T - OFF first C j = x at *
    have hxr : -500000000000000 ≤ x ∧ x ≤ 500000000000000 := by omega
    have hj2 : ∃ b : Bool, zone_Instants.j1 (k + 3) T acc j (OFF first C j) nm first C = zone_Instants.j2 (k + 2) T acc j x b nm first C ∧ (b = false ↔ Piece C x j) := by
      conv => arg 1; ext b; arg 1; lhs; simp only [zone_Instants.j1]
      rw [w64 (n := T - OFF first C j) (by omega) (by omega), hx, w64 (n := j - 1) (by omega) (by omega)]
      have hi : j < C.length → ∀ b : Bool, b = decide (x ≥ (rd_T69 C j).f0) → (b = false ↔ x < AT C j) := by
        intro _ b e; rw [e]; unfold AT; simp
      by_cases c : j > 0
      · by_cases c2 : x < (rd_T69 C (j - 1)).f0
        · refine ⟨true, by rw [if_pos c, if_pos (by omega), if_pos (by omega), if_pos c2], ?_⟩
          simp only [Bool.true_eq_false, false_iff]
          intro hp
          have := hp.lo (j - 1) (by omega) (by omega)
          unfold AT at this; omega
        · by_cases c3 : j < C.length
          · refine ⟨_, by rw [if_pos c, if_pos (by omega), if_pos (by omega), if_neg c2, if_pos c3, if_pos h0], ?_⟩
            rw [hi c3 _ rfl]
            exact ⟨fun h => Piece.of v h0 (by omega) (fun _ => by unfold AT; omega) (fun _ => h), fun hp => hp.hi j (by omega) c3⟩
          · refine ⟨false, by rw [if_pos c, if_pos (by omega), if_pos (by omega), if_neg c2, if_neg c3], ?_⟩
            simp only [true_iff]
            exact Piece.of v h0 (by omega) (fun _ => by unfold AT; omega) (fun h => absurd h c3)
      · by_cases c3 : j < C.length
        · refine ⟨_, by rw [if_neg c, if_pos c3, if_pos h0], ?_⟩
          rw [hi c3 _ rfl]
          exact ⟨fun h => Piece.of v h0 (by omega) (fun h => absurd h c) (fun _ => h), fun hp => hp.hi j (by omega) c3⟩
        · refine ⟨false, by rw [if_neg c, if_neg c3], ?_⟩
          simp only [true_iff]
          exact Piece.of v h0 (by omega) (fun h => absurd h c) (fun h => absurd h c3)
    obtain ⟨b, e, hb⟩ := hj2
    rw [e]
    simp only [zone_Instants.j2]
    by_cases cb : b = true
    · rw [if_pos cb, w64 (n := j + 1) (by omega) (by omega)]
      have hnp : ¬ Piece C x j := fun hp => by have := hb.mpr hp; rw [cb] at this; cases this
      refine ih (k + 1) acc (j + 1) (by omega) (by omega) (by omega) (by omega) ⟨fun y hy => ?_, fun y p hp h1' h2' h3' => ?_, hl.up⟩
      · obtain ⟨p, a, b, c⟩ := hl.mem y hy; exact ⟨p, by omega, b, c⟩
      · by_cases z : p = j
        · subst z; rw [h2', hx] at h1'; exact absurd h1' hnp
        · exact hl.all y p (by omega) h1' h2' h3'
    · have hp : Piece C x j := hb.mp (by simpa using cb)
      rw [if_neg cb]
      rcases split_any k x (by omega) (by omega) with ⟨hin, e⟩ | ⟨hin, e⟩
      · rw [e]
        simp only [Option.bind_some]
        rw [if_pos trivial, if_pos (by omega), w64 (n := j + 1) (by omega) (by omega)]
        refine ih (k + 1) (acc ++ [x]) (j + 1) (by omega) (by omega) (by omega) (by simp; omega) ⟨fun y hy => ?_, fun y p hp' h1' h2' h3' => ?_, ?_⟩
        · rcases List.mem_append.1 hy with hy | hy
          · obtain ⟨p, a, b, c⟩ := hl.mem y hy; exact ⟨p, by omega, b, c⟩
          · obtain rfl := List.mem_singleton.1 hy
            exact ⟨j, by omega, hp, hx.symm, hin⟩
        · by_cases z : p = j
          · subst z; rw [h2', hx]; exact List.mem_append_right _ (List.mem_singleton.2 rfl)
          · exact List.mem_append_left _ (hl.all y p (by omega) h1' h2' h3')
        · rw [List.pairwise_append]
          refine ⟨hl.up, List.pairwise_singleton _ _, fun a ha b hb' => ?_⟩
          obtain rfl := List.mem_singleton.1 hb'
          obtain ⟨p, h1', h2', _⟩ := hl.mem a ha
          exact Piece.lt v h2' hp h1'
      · rw [e]
        simp only [Option.bind_some]
        rw [if_neg (by omega), w64 (n := j + 1) (by omega) (by omega)]
        refine ih (k + 1) acc (j + 1) (by omega) (by omega) (by omega) (by omega) ⟨fun y hy => ?_, fun y p hp' h1' h2' h3' => ?_, hl.up⟩
        · obtain ⟨p, a, b, c⟩ := hl.mem y hy; exact ⟨p, by omega, b, c⟩
        · by_cases z : p = j
          · subst z; rw [h2', hx] at h3'; exact absurd h3' hin
          · exact hl.all y p (by omega) h1' h2' h3'
theorem instants_is (k : Nat) (nm : ByteArray) (first : Int) (C : List ZC) (hw : WfZ C) (v : ValidZ nm first C) (d m : Int) (h1 : -4000000 ≤ d) (h2 : d ≤ 4000000) (h3 : 0 ≤ m) (h4 : m < 86400000) (hk : 1000 < k) :
    ∃ l, zone_Instants.f k nm first C d m = some (l, 0) ∧ l.length ≤ 201 ∧ Listed first C (d * 86400000 + m) (C.length + 1) l := by
  have hn := v.n
  unfold zone_Instants.f
  rw [zcheck_ok k nm first C hw v (by omega)]
  simp only [Option.bind_some]
  rw [if_pos trivial, instant_ok d m h1 h2 h3 h4]
  simp only [Option.bind_some]
  rw [if_pos trivial]
  exact inst_loop nm first C v (d * 86400000 + m) (by omega) (by omega) (C.length + 1) k [] 0 (by omega) (by omega) (by omega) (by simp) ⟨(fun x hx => by cases hx), (fun x p hp h => by have := h.k0; omega), List.Pairwise.nil⟩

theorem wfz_of (C : List ZC) (h : ∀ x ∈ C, Wf69 x) : WfZ C := by
  intro i h0 h1
  have hm : rd_T69 C i ∈ C := by
    unfold rd_T69
    rw [List.getD_eq_getElem?_getD, List.getElem?_eq_getElem (by omega)]
    exact List.getElem_mem _
  exact lit64 (h _ hm).1
theorem sorted_nil (l : List Int) (h : ∀ x, x ∉ l) : l = [] := by
  cases l with
  | nil => rfl
  | cons a r => exact absurd List.mem_cons_self (h a)
theorem sorted_one (l : List Int) (c : Int) (h : l.Pairwise (· < ·)) (hm : ∀ x, x ∈ l → x = c) (hc : c ∈ l) : l = [c] := by
  cases l with
  | nil => cases hc
  | cons a r =>
    obtain rfl := hm a List.mem_cons_self
    cases r with
    | nil => rfl
    | cons b r =>
      obtain rfl := hm b (List.mem_cons_of_mem _ List.mem_cons_self)
      have := (List.pairwise_cons.mp h).1 _ List.mem_cons_self
      omega
theorem sorted_two (l : List Int) (c d : Int) (hcd : c < d) (h : l.Pairwise (· < ·)) (hm : ∀ x, x ∈ l → x = c ∨ x = d) (hc : c ∈ l) (hd : d ∈ l) : l = [c, d] := by
  cases l with
  | nil => cases hc
  | cons a r =>
    have hp := List.pairwise_cons.mp h
    have ha : a = c := by
      rcases hm a List.mem_cons_self with z | z
      · exact z
      · rcases List.mem_cons.1 hc with y | y
        · omega
        · have := hp.1 _ y; omega
    subst ha
    have e : r = [d] := by
      refine sorted_one r d hp.2 (fun x hx => ?_) ?_
      · rcases hm x (List.mem_cons_of_mem _ hx) with z | z
        · have := hp.1 x hx; omega
        · exact z
      · rcases List.mem_cons.1 hd with y | y
        · omega
        · exact y
    rw [e]
theorem one_gap (k : Nat) (hk : 1000 < k) : zone_One.f k (⟨#[111, 110, 101]⟩ : ByteArray) 0 (([(⟨0, 3600000, (⟨#[65]⟩ : ByteArray)⟩ : ZC)] : List ZC)) 0 0 = some (0, 15) := by
  generalize hC : (([(⟨0, 3600000, (⟨#[65]⟩ : ByteArray)⟩ : ZC)] : List ZC)) = C
  have hl : C.length = 1 := by rw [← hC]; rfl
  have h0 : ∀ i : Int, 0 ≤ i → i < C.length → rd_T69 C i = (⟨0, 3600000, (⟨#[65]⟩ : ByteArray)⟩ : ZC) := by
    intro i a b
    obtain rfl : i = 0 := by omega
    rw [← hC]; rfl
  have hA : ∀ i : Int, 0 ≤ i → i < C.length → AT C i = 0 := fun i a b => by unfold AT; rw [h0 i a b]
  have hO : ∀ i : Int, 0 ≤ i → i < C.length → OF C i = 3600000 := fun i a b => by unfold OF; rw [h0 i a b]
  have v : ValidZ (⟨#[111, 110, 101]⟩ : ByteArray) 0 C := by
    refine ⟨by decide +kernel, ⟨by omega, by omega, by omega⟩, by omega, fun i a b => ?_, fun i a b => ?_, fun i a b => ?_, fun i a b => by omega⟩
    · rw [hA i a b]; exact ⟨by omega, by omega⟩
    · rw [hO i a b]; exact ⟨by omega, by omega, by omega⟩
    · rw [h0 i a b]; decide +kernel
  have hw : WfZ C := fun i a b => by rw [hA i a b]; omega
  obtain ⟨l, e, _, h⟩ := instants_is k _ 0 C hw v 0 0 (by omega) (by omega) (by omega) (by omega) hk
  have : l = [] := by
    refine sorted_nil l fun x hx => ?_
    obtain ⟨p, a, hp, c, _⟩ := h.mem x hx
    have := hp.k0
    unfold OFF at c
    by_cases z : p = 0
    · rw [if_pos z] at c
      have := hp.hi 0 (by omega) (by omega)
      rw [hA 0 (by omega) (by omega)] at this
      omega
    · rw [if_neg z, hO (p - 1) (by omega) (by omega)] at c
      have := hp.lo 0 (by omega) (by omega)
      rw [hA 0 (by omega) (by omega)] at this
      omega
  unfold zone_One.f
  rw [e, this]
  simp
/-- The instants of the local time in the middle of a jump. -/
theorem jump_list (nm : ByteArray) (first : Int) (C : List ZC) (v : ValidZ nm first C) (j : Int) (h0 : 0 ≤ j) (h1 : j < C.length) (hr : -259200000000000 ≤ AT C j ∧ AT C j ≤ 259200000000000) (hp : 0 < j → 345600000 ≤ AT C j - AT C (j - 1)) (hn : j + 1 < C.length → 345600000 ≤ AT C (j + 1) - AT C j) (l : List Int)
    (h : Listed first C (AT C j + OFF first C j + Int.tdiv (OF C j - OFF first C j) 2) (C.length + 1) l) :
    (OF C j - OFF first C j > 0 → l = []) ∧ (OF C j - OFF first C j = 0 → l.length = 1) ∧ (OF C j - OFF first C j < 0 → ∃ a b, l = [a, b] ∧ b - a = -(OF C j - OFF first C j)) := by
  have o1 := v.off j h0 (by omega)
  have o2 := v.of_ j h0 h1
  have e2 : OFF first C (j + 1) = OF C j := by unfold OFF; rw [if_neg (by omega), show j + 1 - 1 = j from by omega]
  unfold offOk at o1 o2
  generalize hT : AT C j + OFF first C j + Int.tdiv (OF C j - OFF first C j) 2 = T at *
  have ht := tmod_cases (a := OF C j - OFF first C j) (b := 2) (by omega)
  generalize Int.tdiv (OF C j - OFF first C j) 2 = H at *
  have hH : (OF C j - OFF first C j > 0 → 0 < H ∧ H < OF C j - OFF first C j) ∧ (OF C j - OFF first C j = 0 → H = 0) ∧ (OF C j - OFF first C j < 0 → H < 0 ∧ OF C j - OFF first C j < H) := by
    refine ⟨fun _ => ?_, fun _ => ?_, fun _ => ?_⟩ <;> (rcases ht with ⟨_, a, _⟩ | ⟨_, _, _, a⟩ <;> omega)
  clear ht
  generalize hOj : OFF first C j = O at *
  generalize hFj : OF C j = F at *
  have hjk : ∀ x p, Piece C x p → x = T - OFF first C p → p ≤ C.length → p = j ∨ p = j + 1 := by
    intro x p hpc hx hpn
    have o := v.off p hpc.k0 hpn
    unfold offOk at o
    have := hpc.k0
    by_cases c1 : p < j
    · have a := hpc.hi (j - 1) (by omega) (by omega)
      have := hp (by omega)
      omega
    · by_cases c2 : j + 1 < p
      · have a := hpc.lo (j + 1) (by omega) (by omega)
        have := hn (by omega)
        omega
      · omega
  have m1 : ∀ x, x ∈ l → (F - O < 0 ∧ x = T - O) ∨ (F - O ≤ 0 ∧ x = T - F) := by
    intro x hx
    obtain ⟨p, a, hpc, c, _⟩ := h.mem x hx
    rcases hjk x p hpc c (by omega) with rfl | rfl
    · rw [hOj] at c
      have := hpc.hi p (by omega) h1
      exact .inl ⟨by omega, c⟩
    · rw [e2] at c
      have := hpc.lo j (by omega) (by omega)
      exact .inr ⟨by omega, c⟩
  have in1 : F - O < 0 → T - O ∈ l := by
    intro hneg
    have := hH.2.2 hneg
    refine h.all (T - O) j (by omega) (Piece.of v h0 (by omega) (fun c => ?_) (fun c => by omega)) (by rw [hOj]) (by unfold inDay; omega)
    have := hp (by omega)
    omega
  have in2 : F - O ≤ 0 → T - F ∈ l := by
    intro hneg
    refine h.all (T - F) (j + 1) (by omega) (Piece.of v (by omega) (by omega) (fun c => ?_) (fun c => ?_)) (by rw [e2]) (by unfold inDay; omega)
    · rw [show j + 1 - 1 = j from by omega]
      by_cases z : F - O = 0
      · have := hH.2.1 z; omega
      · have := hH.2.2 (by omega); omega
    · have := hn c
      omega
  refine ⟨fun c => sorted_nil l fun x hx => ?_, fun c => ?_, fun c => ⟨T - O, T - F, sorted_two l _ _ (by omega) h.up (fun x hx => ?_) (in1 c) (in2 (by omega)), by omega⟩⟩
  · rcases m1 x hx with ⟨a, _⟩ | ⟨a, _⟩ <;> omega
  · have e : l = [T - F] := by
      refine sorted_one l (T - F) h.up (fun x hx => ?_) (in2 (by omega))
      rcases m1 x hx with ⟨a, _⟩ | ⟨_, a⟩
      · omega
      · exact a
    rw [e]; rfl
  · rcases m1 x hx with ⟨_, a⟩ | ⟨_, a⟩
    · exact .inl a
    · exact .inr a
/-- Where the walk of the law ends: a far change. -/
theorem jump_end (k : Nat) (nm : ByteArray) (first : Int) (C : List ZC) (hw : WfZ C) (v : ValidZ nm first C) (j : Int) (h0 : 0 ≤ j) (h1 : j < C.length) (hr : -259200000000000 ≤ AT C j ∧ AT C j ≤ 259200000000000) (hp : 0 < j → 345600000 ≤ AT C j - AT C (j - 1)) (hn : j + 1 < C.length → 345600000 ≤ AT C (j + 1) - AT C j)
    (lab : ByteArray) (hk : 1000 < k) : ephemeriskeep1_ZoneJumps.j1 (k + 2) false nm first C (AT C j) (OF C j) lab = some true := by
  simp only [ephemeriskeep1_ZoneJumps.j1]
  have o1 := v.off j h0 (by omega)
  have o2 := v.of_ j h0 h1
  unfold offOk at o1 o2
  have hpc : Piece C (AT C j - 1) j := Piece.of v h0 (by omega) (fun c => by have := hp (by omega); omega) (fun _ => by omega)
  obtain ⟨lab', e⟩ := offset_is (k + 1) nm first C hw v (AT C j - 1) j hpc (by unfold inDay; omega) (by omega)
  rw [if_neg (by decide), w64 (n := AT C j - 1) (by omega) (by omega), e]
  simp only [Option.bind_some]
  have hH := tmod_cases (a := OF C j - OFF first C j) (b := 2) (by omega)
  have hb : -64800000 ≤ Int.tdiv (OF C j - OFF first C j) 2 ∧ Int.tdiv (OF C j - OFF first C j) 2 ≤ 64800000 := by
    rcases hH with ⟨_, a, _⟩ | ⟨_, _, _, a⟩ <;> omega
  rw [w64 (n := AT C j + OFF first C j) (by omega) (by omega), w64 (n := OF C j - OFF first C j) (by omega) (by omega), w64 (n := Int.tdiv (OF C j - OFF first C j) 2) (by omega) (by omega), w64 (n := AT C j + OFF first C j + Int.tdiv (OF C j - OFF first C j) 2) (by omega) (by omega)]
  generalize hT : AT C j + OFF first C j + Int.tdiv (OF C j - OFF first C j) 2 = T
  rw [split_ok k T (by omega) (by omega)]
  simp only [Option.bind_some]
  obtain ⟨l, el, _, hl⟩ := instants_is (k + 1) nm first C hw v (T / 86400000) (T % 86400000) (by omega) (by omega) (by omega) (by omega) (by omega)
  rw [show T / 86400000 * 86400000 + T % 86400000 = T from by omega, ← hT] at hl
  rw [el]
  simp only [Option.bind_some]
  rw [if_pos trivial]
  obtain ⟨a, b, c⟩ := jump_list nm first C v j h0 h1 hr hp hn l hl
  by_cases c1 : OF C j - OFF first C j > 0
  · rw [if_pos c1, a c1]; rfl
  · rw [if_neg c1]
    by_cases c2 : OF C j - OFF first C j < 0
    · obtain ⟨x, y, rfl, e⟩ := c c2
      rw [if_pos c2, if_pos (by simp), if_pos (by simp), if_pos (by simp)]
      have e1 : rd [x, y] 1 = y := rfl
      have e2 : rd [x, y] 0 = x := rfl
      rw [e1, e2, e]
      simp
    · rw [if_neg c2, b (by omega)]; rfl
theorem jump_out (k : Nat) (nm : ByteArray) (first : Int) (C : List ZC) (a b : Int) (lab : ByteArray) : ephemeriskeep1_ZoneJumps.j1 (k + 1) true nm first C a b lab = some true := by
  simp only [ephemeriskeep1_ZoneJumps.j1]
  rw [if_pos trivial]
theorem ZoneJumps : ephemeriskeep1_ZoneJumps.Pure := by
  intro nm first C n hnm hf hC hn
  have hw := wfz_of C hC.1
  obtain ⟨K, hK⟩ : ∃ K : Nat, 1999 < K := ⟨2000, by omega⟩
  refine ⟨K + 4, ?_⟩
  unfold ephemeriskeep1_ZoneJumps.f
  rw [one_gap (K + 4) (by omega)]
  simp only [Option.bind_some]
  rw [if_pos trivial]
  rcases zcheck_is (K + 4) nm first C hw (by omega) with ⟨v, e⟩ | ⟨_, c, hc, e⟩
  · rw [e]
    simp only [Option.bind_some]
    rw [if_pos trivial]
    simp only [ephemeriskeep1_ZoneJumps.j0]
    by_cases c0 : C.length = 0
    · rw [if_pos (by rw [c0]; rfl)]
    · have hl := v.n
      rw [if_neg (show ¬ (((C.length : Int) == 0) = true) by rw [beq_iff_eq]; omega), mod_is n (C.length : Int) (by omega) (by omega)]
      simp only [Option.bind_some]
      have j0 := Int.emod_nonneg n (show (C.length : Int) ≠ 0 by omega)
      have j1 := Int.emod_lt_of_pos n (show (0 : Int) < (C.length : Int) by omega)
      generalize n % (C.length : Int) = j at *
      rw [if_pos j0, if_pos j1]
      have eA : (rd_T69 C j).f0 = AT C j := rfl
      have eO : (rd_T69 C j).f1 = OF C j := rfl
      rw [eA, eO, w64 (n := j - 1) (by omega) (by omega), w64 (n := j + 1) (by omega) (by omega)]
      have eA1 : (rd_T69 C (j + 1)).f0 = AT C (j + 1) := rfl
      have eA2 : (rd_T69 C (j - 1)).f0 = AT C (j - 1) := rfl
      rw [eA1, eA2]
      by_cases c1 : AT C j < -259200000000000
      · rw [if_pos c1]; exact jump_out _ _ _ _ _ _ _
      rw [if_neg c1]
      by_cases c2 : AT C j > 259200000000000
      · rw [if_pos c2]; exact jump_out _ _ _ _ _ _ _
      rw [if_neg c2]
      have tail : (0 < j → 345600000 ≤ AT C j - AT C (j - 1)) → (if j + 1 < (C.length : Int) then (if 0 ≤ j + 1 then (ephemeriskeep1_ZoneJumps.j1 (K + 3) (decide ((wrap64 (AT C (j + 1) - AT C j)) < 345600000)) nm first C (AT C j) (OF C j) ((rd_T69 C j).f2)) else (none)) else (ephemeriskeep1_ZoneJumps.j1 (K + 3) false nm first C (AT C j) (OF C j) ((rd_T69 C j).f2))) = some true := by
        intro hp
        by_cases c3 : j + 1 < (C.length : Int)
        · have hin := v.at_ (j + 1) (by omega) c3
          unfold inDay at hin
          rw [if_pos c3, if_pos (by omega), w64 (n := AT C (j + 1) - AT C j) (by omega) (by omega)]
          by_cases c4 : AT C (j + 1) - AT C j < 345600000
          · rw [decide_eq_true c4]; exact jump_out _ _ _ _ _ _ _
          · rw [decide_eq_false c4]; exact jump_end (K + 1) nm first C hw v j j0 j1 (by omega) hp (fun _ => by omega) _ (by omega)
        · rw [if_neg c3]; exact jump_end (K + 1) nm first C hw v j j0 j1 (by omega) hp (fun c => absurd c c3) _ (by omega)
      by_cases c5 : j > 0
      · have hin := v.at_ (j - 1) (by omega) (by omega)
        unfold inDay at hin
        rw [if_pos c5, if_pos (by omega), if_pos (by omega), w64 (n := AT C j - AT C (j - 1)) (by omega) (by omega)]
        by_cases c6 : AT C j - AT C (j - 1) < 345600000
        · rw [if_pos c6]; exact jump_out _ _ _ _ _ _ _
        · rw [if_neg c6]; exact tail (fun _ => by omega)
      · rw [if_neg c5]; exact tail (fun c => absurd c c5)
  · rw [e]
    simp only [Option.bind_some]
    rw [if_neg hc]
    simp only [ephemeriskeep1_ZoneJumps.j0]
    rw [if_pos trivial]

end Go.Proofs.Ytboddbgmgcjppaa.Pure
