/- The n-th weekdays of months, in plain terms. -/
import Derived.Test.YthahgmncnbeddaaGreatDoorSA
set_option linter.unusedVariables false
set_option linter.unusedSimpArgs false
namespace Go.Proofs.YthahgmncnbeddaaGreatDoorA
open Go Go.RowKit Go.Proofs
theorem sel_first {l : List Int} {x : Int} (hs : l.Pairwise (· < ·)) : sel 1 l = some x ↔ x ∈ l ∧ ∀ z ∈ l, x ≤ z := by
  have e : sel 1 l = l[0]? := by
    have h : selN 1 l.length = 0 := if_neg (by decide)
    unfold sel
    rw [h, if_pos (Int.le_refl _)]
    rfl
  rw [e]
  cases l with
  | nil => simp
  | cons a l =>
    simp only [List.getElem?_cons_zero, Option.some.injEq, List.mem_cons]
    have ha := List.pairwise_cons.1 hs
    constructor
    · rintro rfl
      exact ⟨.inl rfl, fun z hz => by
        rcases hz with rfl | hz
        · omega
        · have := ha.1 z hz; omega⟩
    · rintro ⟨h1, h2⟩
      have h3 := h2 a (.inl rfl)
      rcases h1 with rfl | h1
      · rfl
      · have := ha.1 x h1; omega
theorem sel_last {l : List Int} {x : Int} (hs : l.Pairwise (· < ·)) : sel (-1) l = some x ↔ x ∈ l ∧ ∀ z ∈ l, z ≤ x := by
  have e : sel (-1) l = l.getLast? := by
    have h : selN (-1) l.length = (l.length : Int) + -1 := if_pos (by decide)
    unfold sel
    rw [h]
    cases l with
    | nil => rfl
    | cons a l =>
      rw [if_pos (by simp only [List.length_cons]; omega), List.getLast?_eq_getElem?]
      congr 1
      simp only [List.length_cons]
      omega
  rw [e]
  rcases List.eq_nil_or_concat l with rfl | ⟨l, a, rfl⟩
  · simp
  · rw [List.concat_eq_append] at *
    simp only [List.getLast?_append, List.getLast?_singleton, Option.some_or, Option.some.injEq, List.mem_append, List.mem_singleton]
    have ha := List.pairwise_append.1 hs
    constructor
    · rintro rfl
      exact ⟨.inr rfl, fun z hz => by
        rcases hz with hz | rfl
        · have := ha.2.2 z hz a (by simp); omega
        · omega⟩
    · rintro ⟨h1, h2⟩
      have h3 := h2 a (.inr rfl)
      rcases h1 with h1 | rfl
      · have := ha.2.2 x h1 a (by simp); omega
      · rfl
section
variable {D : Int → Int × Int} {K : Int → Bool}
theorem moF_mem (hL : Lie D) {x z : Int} (hm : (D x).2 ≠ 0) : z ∈ fil (moF D K x) (x - 400) 801 ↔ D z = D x ∧ K z = true := by
  rw [fil_mem]
  unfold moF
  simp only [Bool.and_eq_true, decide_eq_true_eq]
  constructor
  · rintro ⟨_, _, h⟩; exact h
  · rintro ⟨h1, h2⟩
    have := hL.near x z h1 hm
    have := hL.near z x h1.symm (by rw [h1]; exact hm)
    exact ⟨by omega, by omega, h1, h2⟩
theorem nthS_first (hL : Lie D) {x : Int} : nthS D K 1 0 x = true ↔ (D x).2 ≠ 0 ∧ K x = true ∧ ∀ z, D z = D x → K z = true → x ≤ z := by
  unfold nthS
  simp only [Bool.and_eq_true, Bool.or_eq_true, decide_eq_true_eq, true_or, and_true]
  constructor
  · rintro ⟨h1, h2⟩
    rw [sel_first (fil_nodup _)] at h2
    simp only [moF_mem hL h1] at h2
    exact ⟨h1, h2.1.2, fun z a b => h2.2 z ⟨a, b⟩⟩
  · rintro ⟨h1, h2, h3⟩
    refine ⟨h1, ?_⟩
    rw [sel_first (fil_nodup _)]
    simp only [moF_mem hL h1]
    exact ⟨⟨trivial, h2⟩, fun z a => h3 z a.1 a.2⟩
theorem nthS_last (hL : Lie D) {x : Int} : nthS D K (-1) 0 x = true ↔ (D x).2 ≠ 0 ∧ K x = true ∧ ∀ z, D z = D x → K z = true → z ≤ x := by
  unfold nthS
  simp only [Bool.and_eq_true, Bool.or_eq_true, decide_eq_true_eq, true_or, and_true]
  constructor
  · rintro ⟨h1, h2⟩
    rw [sel_last (fil_nodup _)] at h2
    simp only [moF_mem hL h1] at h2
    exact ⟨h1, h2.1.2, fun z a b => h2.2 z ⟨a, b⟩⟩
  · rintro ⟨h1, h2, h3⟩
    refine ⟨h1, ?_⟩
    rw [sel_last (fil_nodup _)]
    simp only [moF_mem hL h1]
    exact ⟨⟨trivial, h2⟩, fun z a => h3 z a.1 a.2⟩
theorem last_of (hL : Lie D) {n : Int} (hm : (D n).2 ≠ 0) (hk : K n = true) : ∃ x, n ≤ x ∧ x < n + 400 ∧ D x = D n ∧ nthS D K (-1) 0 x = true := by
  have hn : n ∈ fil (moF D K n) (n - 400) 801 := (moF_mem hL hm).2 ⟨rfl, hk⟩
  have hne : fil (moF D K n) (n - 400) 801 ≠ [] := List.ne_nil_of_mem hn
  have hl : sel (-1) (fil (moF D K n) (n - 400) 801) = some ((fil (moF D K n) (n - 400) 801).getLast hne) := by
    rw [sel_last (fil_nodup _)]
    refine ⟨List.getLast_mem hne, fun z hz => ?_⟩
    obtain ⟨i, hi, rfl⟩ := List.getElem_of_mem hz
    rw [List.getLast_eq_getElem]
    rcases Nat.lt_or_eq_of_le (show i ≤ (fil (moF D K n) (n - 400) 801).length - 1 by omega) with q | q
    · have := List.pairwise_iff_getElem.1 (fil_nodup (g := moF D K n) (lo := n - 400) 801) i _ hi (by omega) q
      omega
    · simp only [q]; exact Int.le_refl _
  rw [sel_last (fil_nodup _)] at hl
  generalize (fil (moF D K n) (n - 400) 801).getLast hne = x at hl
  obtain ⟨h1, h2⟩ := hl
  have h3 := (moF_mem hL hm).1 h1
  refine ⟨x, h2 n hn, hL.near n x h3.1 hm, h3.1, (nthS_last hL).2 ⟨by rw [h3.1]; exact hm, h3.2, fun z a b => h2 z ((moF_mem hL hm).2 ⟨a.trans h3.1, b⟩)⟩⟩
end
/-- The first day that is told by a list of days. -/
theorem fil_head {g : Int → Bool} {lo : Int} {N : Nat} {x : Int} {l : List Int} (h : fil g lo N = x :: l) : lo ≤ x ∧ x < lo + N ∧ g x = true ∧ ∀ z, lo ≤ z → z < x → g z = false := by
  have hx := fil_mem.1 (show x ∈ fil g lo N by rw [h]; simp)
  refine ⟨hx.1, hx.2.1, hx.2.2, fun z h1 h2 => ?_⟩
  cases hz : g z with
  | false => rfl
  | true =>
    have hm : z ∈ fil g lo N := fil_mem.2 ⟨h1, by omega, hz⟩
    rw [h] at hm
    have hp := fil_nodup (g := g) (lo := lo) N
    rw [h] at hp
    rcases List.mem_cons.1 hm with rfl | q
    · omega
    · have := (List.pairwise_cons.1 hp).1 z q; omega
theorem fil_some {g : Int → Bool} {lo : Int} {N : Nat} {x : Int} (h1 : lo ≤ x) (h2 : x < lo + N) (h3 : g x = true) : ∃ y l, fil g lo N = y :: l ∧ y ≤ x := by
  have hm : x ∈ fil g lo N := fil_mem.2 ⟨h1, h2, h3⟩
  cases hl : fil g lo N with
  | nil => rw [hl] at hm; cases hm
  | cons y l =>
    refine ⟨y, l, rfl, ?_⟩
    have := fil_head hl
    refine Classical.byContradiction fun q => ?_
    have := this.2.2.2 x h1 (by omega)
    rw [h3] at this; cases this
/-- A weekday. -/
def wkd (W x : Int) : Bool := decide (chkDay x = 0) && decide ((x - 1) % 7 = W)
section
variable {c : Cal} {W : Int}
noncomputable def moD (c : Cal) (z : Int) : Int × Int := ((dOf c z).1, (dOf c z).2.1)
theorem moD_at (hc : c.Ok) {x y : Int} {mo : Nat} (h : c.At x y mo) : moD c x = (y, (mo : Int) + 1) := by
  unfold moD
  rw [dOf_at hc h]
theorem moD_mo (hc : c.Ok) {x : Int} (h : (moD c x).2 ≠ 0) : ∃ y mo, c.At x y mo := by
  obtain ⟨y, mo, h, _⟩ := dOf_mo hc h
  exact ⟨y, mo, h⟩
theorem moD_lie (hc : c.Ok) : Lie (moD c) := dOf_lie hc
theorem Cal.At.to (hc : c.Ok) {x z y : Int} {mo : Nat} (h : c.At x y mo) (h1 : c.first y + c.bef y mo ≤ z) (h2 : z < c.first y + c.bef y (mo + 1)) (hz : chkDay z = 0) : c.At z y mo := by
  have hb := h.b
  refine ⟨hz, h.y1, h.y2, ?_, ?_, h.hmo, by omega, by omega⟩
  · have := (hc.bef_bounds y mo).1; omega
  · have h3 := hc.bef_mono y (show mo + 1 ≤ c.ms.length from h.hmo)
    rw [c.bef_all] at h3
    have := hc.first_succ y
    omega
/-- The first weekday of a month lies on its first seven days. -/
theorem first_seven (hc : c.Ok) {n y : Int} {mo : Nat} (hn0 : 0 ≤ n) (hat : c.At n y mo) (hn : nthS (moD c) (wkd W) 1 0 n = true) : n - c.first y + 1 - c.bef y mo ≤ 7 := by
  obtain ⟨h1, h2, h3⟩ := (nthS_first (moD_lie hc)).1 hn
  refine Classical.byContradiction fun q => ?_
  have hf := chkDay_bb hat.far
  have h7 : c.At (n - 7) y mo := hat.to hc (by omega) (by have := hat.r2; omega) (chkDay_ok (by omega) (by omega))
  have := h3 (n - 7) (by rw [moD_at hc h7, moD_at hc hat]) (by
    unfold wkd at *
    simp only [Bool.and_eq_true, decide_eq_true_eq] at *
    exact ⟨h7.far, by omega⟩)
  omega
/-- From a start of a month with seven days on there is a first weekday. -/
theorem first_ex (hc : c.Ok) {S y : Int} {mo : Nat} (hW : 0 ≤ W ∧ W ≤ 6) (hs : ∀ i : Int, 0 ≤ i → i < 7 → c.At (S + i) y mo) (hS : S = c.first y + c.bef y mo) : ∃ x, S ≤ x ∧ x < S + 7 ∧ nthS (moD c) (wkd W) 1 0 x = true := by
  refine ⟨S + (W - (S - 1)) % 7, by omega, by omega, (nthS_first (moD_lie hc)).2 ⟨?_, ?_, fun z hz hk => ?_⟩⟩
  · rw [moD_at hc (hs _ (by omega) (by omega))]; simp only; omega
  · have := (hs ((W - (S - 1)) % 7) (by omega) (by omega)).far
    unfold wkd
    simp only [Bool.and_eq_true, decide_eq_true_eq]
    exact ⟨this, by omega⟩
  · rw [moD_at hc (hs _ (by omega) (by omega))] at hz
    obtain ⟨y', mo', hat⟩ := moD_mo hc (x := z) (by rw [hz]; simp only; omega)
    rw [moD_at hc hat] at hz
    simp only [Prod.mk.injEq] at hz
    obtain ⟨rfl, h2⟩ := hz
    obtain rfl : mo' = mo := by omega
    have := hat.r1
    unfold wkd at hk
    simp only [Bool.and_eq_true, decide_eq_true_eq] at hk
    omega
/-- What is asked of a calendar. -/
structure Cal.Seven (c : Cal) : Prop where
  s : sumS c.ms ≤ 1000
  l : sumL c.ms ≤ 1000
  m : ∀ y, 7 ≤ c.mlen y 1
  f : 1400000 ≤ c.first 10001 ∧ c.first (-10000) ≤ -1500000
theorem month_near (hc : c.Ok) (h7 : c.Seven) {D : Int} (h1 : 1 ≤ D) (h2 : D ≤ 1000000) : ∃ S y, D ≤ S ∧ S ≤ D + 1000 ∧ S = c.first y + c.bef y 0 ∧ ∀ i : Int, 0 ≤ i → i < 7 → c.At (S + i) y 0 := by
  rcases hc.at_or D with h | ⟨_, h⟩ | ⟨y, mo, hat⟩
  · rw [chkDay_ok (by omega) (by omega)] at h; cases h
  · have := h7.f; omega
  · have hy : c.first (y + 1) = c.first y + c.ylen y := hc.first_succ y
    have hy2 : c.first (y + 1 + 1) = c.first (y + 1) + c.ylen (y + 1) := hc.first_succ (y + 1)
    have hl : c.ylen y ≤ 1000 := by
      unfold Cal.ylen
      split
      · exact h7.l
      · exact h7.s
    have ha := hat.a
    have hb := hat.b
    have hyy : y + 1 ≤ 10000 := by
      refine Classical.byContradiction fun q => ?_
      have := hc.first_mono (show 10001 ≤ y + 1 by omega)
      have := h7.f
      omega
    have hl0 : 0 < c.ms.length := Nat.lt_of_lt_of_le Nat.zero_lt_one hc.len1
    have h0 : c.bef (y + 1) 0 = 0 := rfl
    have h1' : c.bef (y + 1) (0 + 1) = c.bef (y + 1) 0 + c.mlen (y + 1) 1 := rfl
    have hm := h7.m (y + 1)
    have hall := c.bef_all (y + 1)
    have hmo := hc.bef_mono (y + 1) (show 0 + 1 ≤ c.ms.length by omega)
    refine ⟨c.first (y + 1), y + 1, by omega, by omega, by omega, fun i i1 i2 => ⟨chkDay_ok (by omega) (by omega), by have := hat.y1; omega, hyy, by omega, by omega, hl0, by omega, by omega⟩⟩
/-- The law of SolveMonths, in plain terms. -/
theorem months_law (hc : c.Ok) (h7 : c.Seven) {D : Int} (h1 : 1 ≤ D) (h2 : D ≤ 700000) (hW : 0 ≤ W ∧ W ≤ 6) :
    ∃ n l R1 R2 y mo, fil (nthS (moD c) (wkd W) 1 0) D 3001 = n :: R1 ∧ fil (nthS (moD c) (wkd W) (-1) 0) n 3001 = l :: R2 ∧ D ≤ n ∧ n ≤ 710000 ∧ n ≤ l ∧ l ≤ 720000 ∧ (n - 1) % 7 = W ∧ (l - 1) % 7 = W ∧
      c.At n y mo ∧ c.At l y mo ∧ n - c.first y + 1 - c.bef y mo ≤ 7 ∧ ∀ y' mo', c.At (l + 7) y' mo' → ¬ (y' = y ∧ mo' = mo) := by
  obtain ⟨S, y0, s1, s2, s3, s4⟩ := month_near hc h7 h1 (by omega)
  obtain ⟨x, x1, x2, x3⟩ := first_ex (W := W) hc hW s4 s3
  obtain ⟨n, R1, hn, hnx⟩ := fil_some (N := 3001) (show D ≤ x by omega) (by omega) x3
  obtain ⟨n1, _, n3, _⟩ := fil_head hn
  obtain ⟨f1, f2, f3⟩ := (nthS_first (moD_lie hc)).1 n3
  obtain ⟨L, L1, L2, L3, L4⟩ := last_of (moD_lie hc) f1 f2
  obtain ⟨l, R2, hl, hlL⟩ := fil_some (N := 3001) (show n ≤ L by omega) (by omega) L4
  obtain ⟨l1, _, l3, _⟩ := fil_head hl
  obtain ⟨g1, g2, g3⟩ := (nthS_last (moD_lie hc)).1 l3
  have hmid := (moD_lie hc).mid n L l L3 f1 l1 hlL
  obtain ⟨y, mo, hat⟩ := moD_mo hc f1
  obtain ⟨y', mo', hat'⟩ := moD_mo hc g1
  rw [moD_at hc hat, moD_at hc hat', Prod.mk.injEq] at hmid
  obtain ⟨rfl, hmo⟩ := hmid
  obtain rfl : mo' = mo := by omega
  have w1 : (n - 1) % 7 = W := by
    unfold wkd at f2; simp only [Bool.and_eq_true, decide_eq_true_eq] at f2; exact f2.2
  have w2 : (l - 1) % 7 = W := by
    unfold wkd at g2; simp only [Bool.and_eq_true, decide_eq_true_eq] at g2; exact g2.2
  refine ⟨n, l, R1, R2, y', mo', hn, hl, n1, by omega, l1, by omega, w1, w2, hat, hat', first_seven hc (by omega) hat n3, fun y2 mo2 h e => ?_⟩
  obtain ⟨rfl, rfl⟩ := e
  have := g3 (l + 7) (by rw [moD_at hc h, moD_at hc hat']) (by
    unfold wkd
    simp only [Bool.and_eq_true, decide_eq_true_eq]
    exact ⟨h.far, by omega⟩)
  omega
end
end Go.Proofs.YthahgmncnbeddaaGreatDoorA
