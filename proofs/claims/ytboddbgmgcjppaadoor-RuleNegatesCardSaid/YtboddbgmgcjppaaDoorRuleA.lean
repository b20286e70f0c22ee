import Derived.Test.YtboddbgmgcjppaaDoorQRuleNegatesx0
import Derived.Test.YtboddbgmgcjppaaDoorFar
import Derived.WalkKit
import Derived.KernelRfl
import Derived.Outline
set_option linter.unusedVariables false
set_option linter.unusedSimpArgs false
namespace Go.Proofs.YtboddbgmgcjppaaDoor
open Go.RowKit Go.Proofs.YtboddbgmgcjppaaDoorW.PrintWords Go.Proofs.YtboddbgmgcjppaaDoorW.PrintLast Go.Proofs.YtboddbgmgcjppaaDoor.QRuleNegates Go.Proofs.YtboddbgmgcjppaaDoorFar
def kidsT : List Int := [0, 0, 0, 1, 2, 2, 2, 2, 2, 2, 2, 1, 2, 2]
theorem kids_le (i : Nat) : kidsT.getD i 0 ≤ 2 := by
  by_cases c : i < 14
  · have : ∀ j, j < 14 → kidsT.getD j 0 ≤ 2 := by decide
    exact this i c
  · rw [List.getD_eq_getElem?_getD, List.getElem?_eq_none (by simp [kidsT]; omega)]; decide
/-- The table of the program lies where it was laid. -/
class Glob (w : World) : Prop where
  kid : ∀ i : Nat, i < 14 → w.cell? ⟨0, i, none⟩ = some (.int .i64 (kidsT.getD i 0))
theorem Glob.below {w w' : World} (h : Glob w) (hb : Below w.heap.size w w') : Glob w' := ⟨fun i hi => (hb.cell (World.block_lt_of_cell? w _ (h.kid i hi))).trans (h.kid i hi)⟩
theorem Glob.alloc {w : World} (h : Glob w) (o : Obj) : Glob (w.alloc o) := h.below (below_alloc (Below.refl _ _) o)
theorem Glob.drew {w : World} (h : Glob w) : Glob w.drew := h.below (below_drew1 (Below.refl _ _))
theorem Glob.drewN {w : World} (h : Glob w) (n : Nat) : Glob (w.drewN n) := h.below (pw_below_drewN (Below.refl _ _) n)
theorem Glob.lt {w : World} (h : Glob w) : 0 < w.heap.size := World.block_lt_of_cell? w _ (h.kid 0 (by omega))
theorem cells3 {w : World} {g : Nat} {a0 a1 a2 : Value} {t : TypeId} (B : Aside0 (w.heap[g]? = some (.cells #[a0, a1, a2] t (0, 0)))) : w.cell? ⟨g, 0, none⟩ = some a0 ∧ w.cell? ⟨g, 1, none⟩ = some a1 ∧ w.cell? ⟨g, 2, none⟩ = some a2 :=
  ⟨(blk_cell B.out 0).trans rfl, (blk_cell B.out 1).trans rfl, (blk_cell B.out 2).trans rfl⟩
def walkL (f : S24 → Int → Option (Int × Int)) : List S24 → Int → Option (Int × Int)
  | [], c => some (0, c)
  | y :: r, c => (f y c).bind fun p => if p.1 = 0 then walkL f r p.2 else some (p.1, p.2)
def walkF : Nat → S24 → Int → Int → Option (Int × Int)
  | 0, _, _, _ => none
  | k + 1, x, d, c => if c + 1 > 60 ∨ d > 12 then some (2, c + 1) else if x.f0 < 1 ∨ x.f0 > 13 ∨ (x.f2.length : Int) ≠ kidsT.getD x.f0.toNat 0 then some (8, c + 1)
      else if (x.f0 = 1 ∧ (x.f1 < 0 ∨ x.f1 > 2147483647)) ∨ (x.f0 ≠ 1 ∧ x.f1 ≠ 0) then some (8, c + 1) else walkL (fun y c => walkF k y (d + 1) c) x.f2 (c + 1)
/-- What the walk comes to: the answer, the count, and all that lay there before. -/
def WPost (w0 : World) (g : Nat) (r c' : Int) (e : Ending) (w' : World) : Prop := e = .returned (.int .i64 r) ∧ w'.heap[g]? = some (.cells #[.int .i64 c'] 3 (0, 0)) ∧ Below w0.heap.size w0 w'
/-- What holds ahead of the kid number i. -/
def WRel (k : Nat) (x : S24) (d r c' : Int) (w0 : World) (g : Nat) (i : Int) (wr : World) : Prop :=
  ∃ ci : Int, 0 ≤ ci ∧ ci ≤ 60 ∧ walkL (fun y c => walkF k y (d + 1) c) (x.f2.drop i.toNat) ci = some (r, c') ∧ wr.heap[g]? = some (.cells #[.int .i64 ci] 3 (0, 0)) ∧ Below w0.heap.size w0 wr
theorem walkL_ok (f : S24 → Int → Option (Int × Int)) (hf : ∀ y c c', f y c = some (0, c') → c ≤ c' ∧ c' ≤ 60) (l : List S24) : ∀ c c', c ≤ 60 → walkL f l c = some (0, c') → c ≤ c' ∧ c' ≤ 60 := by
  induction l with
  | nil => intro c c' h0 h; obtain ⟨_, rfl⟩ := Prod.mk.inj (Option.some.inj h); omega
  | cons y r ih =>
    intro c c' h0 h
    simp only [walkL] at h
    obtain ⟨⟨e, c1⟩, h1, h2⟩ := Option.bind_eq_some_iff.mp h
    by_cases z : e = 0
    · subst z
      rw [if_pos rfl] at h2
      have a := hf y c c1 h1
      have b := ih c1 c' a.2 h2
      omega
    · rw [if_neg z] at h2
      exact absurd (Prod.mk.inj (Option.some.inj h2)).1 z
theorem walkF_ok (k : Nat) : ∀ (x : S24) (d c c' : Int), walkF k x d c = some (0, c') → c ≤ c' ∧ c' ≤ 60 := by
  induction k with
  | zero => intro x d c c' h; cases h
  | succ k ih =>
    intro x d c c' h
    simp only [walkF] at h
    split at h
    · exact absurd (Prod.mk.inj (Option.some.inj h)).1 (by decide)
    · split at h
      · exact absurd (Prod.mk.inj (Option.some.inj h)).1 (by decide)
      · split at h
        · exact absurd (Prod.mk.inj (Option.some.inj h)).1 (by decide)
        · have := walkL_ok _ (fun y c c' => ih y (d + 1) c c') x.f2 (c + 1) c' (by omega) h
          omega
theorem walkL_step {f : S24 → Int → Option (Int × Int)} {l : List S24} {i ci r c' : Int} (h : walkL f (l.drop i.toNat) ci = some (r, c')) (h0 : 0 ≤ i) (h1 : i < (l.length : Int)) :
    ∃ r1 c2, f (rd_T24 l i) ci = some (r1, c2) ∧ ((r1 = 0 ∧ walkL f (l.drop (i + 1).toNat) c2 = some (r, c')) ∨ (r1 ≠ 0 ∧ r = r1 ∧ c' = c2)) := by
  rw [List.drop_eq_getElem_cons (by omega)] at h
  simp only [walkL] at h
  obtain ⟨⟨e, c1⟩, h2, h3⟩ := Option.bind_eq_some_iff.mp h
  have er : rd_T24 l i = l[i.toNat] := by unfold rd_T24; rw [List.getD_eq_getElem?_getD, List.getElem?_eq_getElem (by omega)]; rfl
  refine ⟨e, c1, by rw [er]; exact h2, ?_⟩
  by_cases z : e = 0
  · subst z
    rw [if_pos rfl] at h3
    exact .inl ⟨rfl, by rw [show (i + 1).toNat = i.toNat + 1 from by omega]; exact h3⟩
  · rw [if_neg z] at h3
    obtain ⟨rfl, rfl⟩ := Prod.mk.inj (Option.some.inj h3)
    exact .inr ⟨z, rfl, rfl⟩
theorem walkL_end {f : S24 → Int → Option (Int × Int)} {l : List S24} {ci r c' : Int} (h : walkL f (l.drop ((l.length : Int)).toNat) ci = some (r, c')) : 0 = r ∧ ci = c' := by
  rw [Int.toNat_natCast, List.drop_length] at h
  exact Prod.mk.inj (Option.some.inj h)
set_option maxHeartbeats 8000000 in
set_option maxRecDepth 100000 in
theorem walk_calls (k : Nat) : ∀ (x : S24) (A : Option Addr) (cp : Nat) (d c r c' : Int) (w0 w : World) (g : Nat) (hG : Glob w0) (hr : Kd.C k24 w0 A x.f2.length x.f2) (hc : x.f2.length ≤ cp) (hg : w0.heap.size ≤ g) (hw : w.heap[g]? = some (.cells #[.int .i64 c] 3 (0, 0))) (hb : Below w0.heap.size w0 w)
    (c0 : 0 ≤ c) (c1 : c ≤ 1000) (d0 : 0 ≤ d) (d1 : d ≤ 1000) (h : walkF k x d c = some (r, c')),
    Calls Tryd.prog 7 #[.agg #[.int .i64 x.f0, .int .i64 x.f1, .slice A x.f2.length cp], .int .i64 d, .pointer (some ⟨g, 0, none⟩)] w (WPost w0 g r c') := by
  induction k with
  | zero => intro x A cp d c r c' w0 w g hG hr hc hg hw hb c0 c1 d0 d1 h; cases h
  | succ k ih =>
    intro x A cp d c r c' w0 w g hG hr hc hg hw hb c0 c1 d0 d1 h
    simp only [walkF] at h
    have HR := Aside0.mk hr
    have HW := Aside0.mk hw
    have HB := Aside0.mk hb
    have HG := Aside0.mk hg
    clear hr hw hb hg
    by_cases b1 : 60 < c + 1
    · rw [if_pos (Or.inl b1)] at h
      obtain ⟨rfl, rfl⟩ := Prod.mk.inj (Option.some.inj h)
      clear h
      have f1 : decide (60 < c + 1) = true := decide_eq_true b1
      go_enter Tryd.func7, Tryd.ntmps7
      go_wp2_with ((with_reducible refine gate_dst (N := 3) rfl ?_); refine box_event ?hg (N := 3) ?hd (cs := #[.int .i64 x.f0, .int .i64 x.f1, .slice A x.f2.length cp]) (t := 24) ?hr ?_; (case hd => rfl); (case hg => rfl); (case hr => first | (go_simp; done) | (go_simp; rfl)); intro gb hg w1 hbox hb; have HW1 := bb_ HW hb; have HB1 := Aside0.mk (below_step HB.out hb); have hn1 := (bl_ HW hg).out; have hn2 := (bg_ HW hg).out; have GB := Aside0.mk (show w0.heap.size ≤ gb by rw [hg]; exact HB.out.size); have BK := Aside0.mk hbox; clear hb hbox hg HW HB; have hcell := (show w1.cell? ⟨g, 0, none⟩ = some (.int .i64 c) from (blk_cell HW1.out 0).trans rfl); have hfz := blk_frozen HW1.out 0; obtain ⟨hb0, hb1, hb2⟩ := cells3 BK)
      go_ret
      exact ⟨rfl, by (with_reducible repeat (first | refine blk_drewN ?_ _ | refine blk_drew ?_ | refine blk_alloc ?_ _)); exact blk_put (cs := #[.int .i64 c]) HW1.out 0 _ rfl, by repeat (first | (with_reducible first | exact HB1.out | apply below_alloc | apply pw_below_drewN | apply below_drew1 | refine below_set ?_ HG.out) | exact HB1.out)⟩
    have f1 : decide (60 < c + 1) = false := decide_eq_false b1
    by_cases b2 : 12 < d
    · rw [if_pos (Or.inr b2)] at h
      obtain ⟨rfl, rfl⟩ := Prod.mk.inj (Option.some.inj h)
      clear h
      have f2 : decide (12 < d) = true := decide_eq_true b2
      go_enter Tryd.func7, Tryd.ntmps7
      go_wp2_with ((with_reducible refine gate_dst (N := 3) rfl ?_); refine box_event ?hg (N := 3) ?hd (cs := #[.int .i64 x.f0, .int .i64 x.f1, .slice A x.f2.length cp]) (t := 24) ?hr ?_; (case hd => rfl); (case hg => rfl); (case hr => first | (go_simp; done) | (go_simp; rfl)); intro gb hg w1 hbox hb; have HW1 := bb_ HW hb; have HB1 := Aside0.mk (below_step HB.out hb); have hn1 := (bl_ HW hg).out; have hn2 := (bg_ HW hg).out; have GB := Aside0.mk (show w0.heap.size ≤ gb by rw [hg]; exact HB.out.size); have BK := Aside0.mk hbox; clear hb hbox hg HW HB; have hcell := (show w1.cell? ⟨g, 0, none⟩ = some (.int .i64 c) from (blk_cell HW1.out 0).trans rfl); have hfz := blk_frozen HW1.out 0; obtain ⟨hb0, hb1, hb2⟩ := cells3 BK)
      go_ret
      exact ⟨rfl, by (with_reducible repeat (first | refine blk_drewN ?_ _ | refine blk_drew ?_ | refine blk_alloc ?_ _)); exact blk_put (cs := #[.int .i64 c]) HW1.out 0 _ rfl, by repeat (first | (with_reducible first | exact HB1.out | apply below_alloc | apply pw_below_drewN | apply below_drew1 | refine below_set ?_ HG.out) | exact HB1.out)⟩
    have f2 : decide (12 < d) = false := decide_eq_false b2
    rw [if_neg (by omega)] at h
    by_cases b3 : x.f0 < 1
    · rw [if_pos (Or.inl b3)] at h
      obtain ⟨rfl, rfl⟩ := Prod.mk.inj (Option.some.inj h)
      clear h
      have f3 : decide (x.f0 < 1) = true := decide_eq_true b3
      go_enter Tryd.func7, Tryd.ntmps7
      go_wp2_with ((with_reducible refine gate_dst (N := 3) rfl ?_); refine box_event ?hg (N := 3) ?hd (cs := #[.int .i64 x.f0, .int .i64 x.f1, .slice A x.f2.length cp]) (t := 24) ?hr ?_; (case hd => rfl); (case hg => rfl); (case hr => first | (go_simp; done) | (go_simp; rfl)); intro gb hg w1 hbox hb; have HW1 := bb_ HW hb; have HB1 := Aside0.mk (below_step HB.out hb); have hn1 := (bl_ HW hg).out; have hn2 := (bg_ HW hg).out; have GB := Aside0.mk (show w0.heap.size ≤ gb by rw [hg]; exact HB.out.size); have BK := Aside0.mk hbox; clear hb hbox hg HW HB; have hcell := (show w1.cell? ⟨g, 0, none⟩ = some (.int .i64 c) from (blk_cell HW1.out 0).trans rfl); have hfz := blk_frozen HW1.out 0; obtain ⟨hb0, hb1, hb2⟩ := cells3 BK)
      repeat (go_quiet (fail); try go_wp2)
      go_ret
      exact ⟨rfl, by (with_reducible repeat (first | refine blk_drewN ?_ _ | refine blk_drew ?_ | refine blk_alloc ?_ _)); exact blk_put (cs := #[.int .i64 c]) HW1.out 0 _ rfl, by repeat (first | (with_reducible first | exact HB1.out | apply below_alloc | apply pw_below_drewN | apply below_drew1 | refine below_set ?_ HG.out) | exact HB1.out)⟩
    have f3 : decide (x.f0 < 1) = false := decide_eq_false b3
    by_cases b4 : 13 < x.f0
    · rw [if_pos (Or.inr (Or.inl b4))] at h
      obtain ⟨rfl, rfl⟩ := Prod.mk.inj (Option.some.inj h)
      clear h
      have f4 : decide (13 < x.f0) = true := decide_eq_true b4
      go_enter Tryd.func7, Tryd.ntmps7
      go_wp2_with ((with_reducible refine gate_dst (N := 3) rfl ?_); refine box_event ?hg (N := 3) ?hd (cs := #[.int .i64 x.f0, .int .i64 x.f1, .slice A x.f2.length cp]) (t := 24) ?hr ?_; (case hd => rfl); (case hg => rfl); (case hr => first | (go_simp; done) | (go_simp; rfl)); intro gb hg w1 hbox hb; have HW1 := bb_ HW hb; have HB1 := Aside0.mk (below_step HB.out hb); have hn1 := (bl_ HW hg).out; have hn2 := (bg_ HW hg).out; have GB := Aside0.mk (show w0.heap.size ≤ gb by rw [hg]; exact HB.out.size); have BK := Aside0.mk hbox; clear hb hbox hg HW HB; have hcell := (show w1.cell? ⟨g, 0, none⟩ = some (.int .i64 c) from (blk_cell HW1.out 0).trans rfl); have hfz := blk_frozen HW1.out 0; obtain ⟨hb0, hb1, hb2⟩ := cells3 BK)
      repeat (go_quiet (fail); try go_wp2)
      go_ret
      exact ⟨rfl, by (with_reducible repeat (first | refine blk_drewN ?_ _ | refine blk_drew ?_ | refine blk_alloc ?_ _)); exact blk_put (cs := #[.int .i64 c]) HW1.out 0 _ rfl, by repeat (first | (with_reducible first | exact HB1.out | apply below_alloc | apply pw_below_drewN | apply below_drew1 | refine below_set ?_ HG.out) | exact HB1.out)⟩
    have f4 : decide (13 < x.f0) = false := decide_eq_false b4
    have hkid0 := hG.kid x.f0.toNat (by omega)
    have hq2 := kids_le x.f0.toNat
    generalize kidsT.getD x.f0.toNat 0 = q at h hkid0 hq2
    have HQ := Aside0.mk hkid0
    clear hkid0
    have i0 : 0 ≤ x.f0 := by omega
    have i1 : x.f0 < 14 := by omega
    have i2 : x.f0.toNat < 14 := by omega
    by_cases b5 : (x.f2.length : Int) = q
    rotate_left
    · rw [if_pos (Or.inr (Or.inr b5))] at h
      obtain ⟨rfl, rfl⟩ := Prod.mk.inj (Option.some.inj h)
      clear h
      have f5 : ((x.f2.length : Int) == q) = false := beq_eq_false_iff_ne.mpr b5
      have f5' : ((x.f2.length : Int) != q) = true := bne_iff_ne.mpr b5
      clear b5
      go_enter Tryd.func7, Tryd.ntmps7
      go_wp2_with ((with_reducible refine gate_dst (N := 3) rfl ?_); refine box_event ?hg (N := 3) ?hd (cs := #[.int .i64 x.f0, .int .i64 x.f1, .slice A x.f2.length cp]) (t := 24) ?hr ?_; (case hd => rfl); (case hg => rfl); (case hr => first | (go_simp; done) | (go_simp; rfl)); intro gb hg w1 hbox hb; have HW1 := bb_ HW hb; have HB1 := Aside0.mk (below_step HB.out hb); have hn1 := (bl_ HW hg).out; have hn2 := (bg_ HW hg).out; have GB := Aside0.mk (show w0.heap.size ≤ gb by rw [hg]; exact HB.out.size); have BK := Aside0.mk hbox; clear hb hbox hg HW HB; have hcell := (show w1.cell? ⟨g, 0, none⟩ = some (.int .i64 c) from (blk_cell HW1.out 0).trans rfl); have hfz := blk_frozen HW1.out 0; obtain ⟨hb0, hb1, hb2⟩ := cells3 BK; have hkid := (show w1.cell? ⟨0, x.f0.toNat, none⟩ = some (.int .i64 q) from (HB1.out.cell (World.block_lt_of_cell? _ _ (HQ.out))).trans HQ.out))
      repeat (go_quiet (fail); try go_wp2)
      go_ret
      exact ⟨rfl, by (with_reducible repeat (first | refine blk_drewN ?_ _ | refine blk_drew ?_ | refine blk_alloc ?_ _)); exact blk_put (cs := #[.int .i64 c]) HW1.out 0 _ rfl, by repeat (first | (with_reducible first | exact HB1.out | apply below_alloc | apply pw_below_drewN | apply below_drew1 | refine below_set ?_ HG.out) | exact HB1.out)⟩
    rw [if_neg (fun z => by rcases z with z | z | z; exact b3 z; exact b4 z; exact z b5)] at h
    have f5 : ((x.f2.length : Int) == q) = true := beq_iff_eq.mpr b5
    have f5' : ((x.f2.length : Int) != q) = false := bne_eq_false_iff_eq.mpr b5
    have hlen : (x.f2.length : Int) ≤ 2 := by omega
    clear b5 hq2
    by_cases b6 : (x.f0 = 1 ∧ (x.f1 < 0 ∨ x.f1 > 2147483647)) ∨ (x.f0 ≠ 1 ∧ x.f1 ≠ 0)
    · rw [if_pos b6] at h
      obtain ⟨rfl, rfl⟩ := Prod.mk.inj (Option.some.inj h)
      clear h
      by_cases b7 : x.f0 = 1
      · have f7 : (x.f0 == 1) = true := beq_iff_eq.mpr b7
        have f7' : (x.f0 != 1) = false := bne_eq_false_iff_eq.mpr b7
        have b8 : x.f1 < 0 ∨ 2147483647 < x.f1 := by rcases b6 with z | z; exact z.2; exact absurd b7 z.1
        clear b6 b7
        by_cases b9 : x.f1 < 0
        · have f8 : decide (x.f1 < 0) = true := decide_eq_true b9
          clear b8
          go_enter Tryd.func7, Tryd.ntmps7
          go_wp2_with ((with_reducible refine gate_dst (N := 3) rfl ?_); refine box_event ?hg (N := 3) ?hd (cs := #[.int .i64 x.f0, .int .i64 x.f1, .slice A x.f2.length cp]) (t := 24) ?hr ?_; (case hd => rfl); (case hg => rfl); (case hr => first | (go_simp; done) | (go_simp; rfl)); intro gb hg w1 hbox hb; have HW1 := bb_ HW hb; have HB1 := Aside0.mk (below_step HB.out hb); have hn1 := (bl_ HW hg).out; have hn2 := (bg_ HW hg).out; have GB := Aside0.mk (show w0.heap.size ≤ gb by rw [hg]; exact HB.out.size); have BK := Aside0.mk hbox; clear hb hbox hg HW HB; have hcell := (show w1.cell? ⟨g, 0, none⟩ = some (.int .i64 c) from (blk_cell HW1.out 0).trans rfl); have hfz := blk_frozen HW1.out 0; obtain ⟨hb0, hb1, hb2⟩ := cells3 BK; have hkid := (show w1.cell? ⟨0, x.f0.toNat, none⟩ = some (.int .i64 q) from (HB1.out.cell (World.block_lt_of_cell? _ _ (HQ.out))).trans HQ.out))
          repeat (go_quiet (fail); try go_wp2)
          go_ret
          exact ⟨rfl, by (with_reducible repeat (first | refine blk_drewN ?_ _ | refine blk_drew ?_ | refine blk_alloc ?_ _)); exact blk_put (cs := #[.int .i64 c]) HW1.out 0 _ rfl, by repeat (first | (with_reducible first | exact HB1.out | apply below_alloc | apply pw_below_drewN | apply below_drew1 | refine below_set ?_ HG.out) | exact HB1.out)⟩
        · have f8 : decide (x.f1 < 0) = false := decide_eq_false b9
          have f9 : decide (2147483647 < x.f1) = true := decide_eq_true (by omega)
          clear b8
          go_enter Tryd.func7, Tryd.ntmps7
          go_wp2_with ((with_reducible refine gate_dst (N := 3) rfl ?_); refine box_event ?hg (N := 3) ?hd (cs := #[.int .i64 x.f0, .int .i64 x.f1, .slice A x.f2.length cp]) (t := 24) ?hr ?_; (case hd => rfl); (case hg => rfl); (case hr => first | (go_simp; done) | (go_simp; rfl)); intro gb hg w1 hbox hb; have HW1 := bb_ HW hb; have HB1 := Aside0.mk (below_step HB.out hb); have hn1 := (bl_ HW hg).out; have hn2 := (bg_ HW hg).out; have GB := Aside0.mk (show w0.heap.size ≤ gb by rw [hg]; exact HB.out.size); have BK := Aside0.mk hbox; clear hb hbox hg HW HB; have hcell := (show w1.cell? ⟨g, 0, none⟩ = some (.int .i64 c) from (blk_cell HW1.out 0).trans rfl); have hfz := blk_frozen HW1.out 0; obtain ⟨hb0, hb1, hb2⟩ := cells3 BK; have hkid := (show w1.cell? ⟨0, x.f0.toNat, none⟩ = some (.int .i64 q) from (HB1.out.cell (World.block_lt_of_cell? _ _ (HQ.out))).trans HQ.out))
          repeat (go_quiet (fail); try go_wp2)
          go_ret
          exact ⟨rfl, by (with_reducible repeat (first | refine blk_drewN ?_ _ | refine blk_drew ?_ | refine blk_alloc ?_ _)); exact blk_put (cs := #[.int .i64 c]) HW1.out 0 _ rfl, by repeat (first | (with_reducible first | exact HB1.out | apply below_alloc | apply pw_below_drewN | apply below_drew1 | refine below_set ?_ HG.out) | exact HB1.out)⟩
      · have f7 : (x.f0 == 1) = false := beq_eq_false_iff_ne.mpr b7
        have f7' : (x.f0 != 1) = true := bne_iff_ne.mpr b7
        have b8 : x.f1 ≠ 0 := by rcases b6 with z | z; exact absurd z.1 b7; exact z.2
        have f8 : (x.f1 == 0) = false := beq_eq_false_iff_ne.mpr b8
        have f8' : (x.f1 != 0) = true := bne_iff_ne.mpr b8
        clear b6 b7 b8
        go_enter Tryd.func7, Tryd.ntmps7
        go_wp2_with ((with_reducible refine gate_dst (N := 3) rfl ?_); refine box_event ?hg (N := 3) ?hd (cs := #[.int .i64 x.f0, .int .i64 x.f1, .slice A x.f2.length cp]) (t := 24) ?hr ?_; (case hd => rfl); (case hg => rfl); (case hr => first | (go_simp; done) | (go_simp; rfl)); intro gb hg w1 hbox hb; have HW1 := bb_ HW hb; have HB1 := Aside0.mk (below_step HB.out hb); have hn1 := (bl_ HW hg).out; have hn2 := (bg_ HW hg).out; have GB := Aside0.mk (show w0.heap.size ≤ gb by rw [hg]; exact HB.out.size); have BK := Aside0.mk hbox; clear hb hbox hg HW HB; have hcell := (show w1.cell? ⟨g, 0, none⟩ = some (.int .i64 c) from (blk_cell HW1.out 0).trans rfl); have hfz := blk_frozen HW1.out 0; obtain ⟨hb0, hb1, hb2⟩ := cells3 BK; have hkid := (show w1.cell? ⟨0, x.f0.toNat, none⟩ = some (.int .i64 q) from (HB1.out.cell (World.block_lt_of_cell? _ _ (HQ.out))).trans HQ.out))
        repeat (go_quiet (fail); try go_wp2)
        go_ret
        exact ⟨rfl, by (with_reducible repeat (first | refine blk_drewN ?_ _ | refine blk_drew ?_ | refine blk_alloc ?_ _)); exact blk_put (cs := #[.int .i64 c]) HW1.out 0 _ rfl, by repeat (first | (with_reducible first | exact HB1.out | apply below_alloc | apply pw_below_drewN | apply below_drew1 | refine below_set ?_ HG.out) | exact HB1.out)⟩
    rw [if_neg b6] at h
    have HH := Aside0.mk h
    clear h
    have IH := Aside0.mk ih
    clear ih
    by_cases b7 : x.f0 = 1
    · have f7 : (x.f0 == 1) = true := beq_iff_eq.mpr b7
      have f7' : (x.f0 != 1) = false := bne_eq_false_iff_eq.mpr b7
      have f8 : decide (x.f1 < 0) = false := decide_eq_false (fun z => b6 (.inl ⟨b7, .inl z⟩))
      have f9 : decide (2147483647 < x.f1) = false := decide_eq_false (fun z => b6 (.inl ⟨b7, .inr z⟩))
      clear b6 b7
      go_enter Tryd.func7, Tryd.ntmps7
      go_wp2_with ((with_reducible refine gate_dst (N := 3) rfl ?_); refine box_event ?hg (N := 3) ?hd (cs := #[.int .i64 x.f0, .int .i64 x.f1, .slice A x.f2.length cp]) (t := 24) ?hr ?_; (case hd => rfl); (case hg => rfl); (case hr => first | (go_simp; done) | (go_simp; rfl)); intro gb hg w1 hbox hb; have HW1 := bb_ HW hb; have HB1 := Aside0.mk (below_step HB.out hb); have hn1 := (bl_ HW hg).out; have hn2 := (bg_ HW hg).out; have GB := Aside0.mk (show w0.heap.size ≤ gb by rw [hg]; exact HB.out.size); have BK := Aside0.mk hbox; clear hb hbox hg HW HB; have hcell := (show w1.cell? ⟨g, 0, none⟩ = some (.int .i64 c) from (blk_cell HW1.out 0).trans rfl); have hfz := blk_frozen HW1.out 0; obtain ⟨hb0, hb1, hb2⟩ := cells3 BK; have hkid := (show w1.cell? ⟨0, x.f0.toNat, none⟩ = some (.int .i64 q) from (HB1.out.cell (World.block_lt_of_cell? _ _ (HQ.out))).trans HQ.out))
      repeat (go_quiet (fail); try go_wp2)
      have HL := Aside0.mk (show ((w1.setCell ⟨g, 0, none⟩ (.int .i64 (c + 1))).drewN nq).heap[g]? = some (.cells #[.int .i64 (c + 1)] 3 (0, 0)) from blk_drewN (blk_put (cs := #[.int .i64 c]) HW1.out 0 _ rfl) _)
      have HBL := Aside0.mk (show Below w0.heap.size w0 ((w1.setCell ⟨g, 0, none⟩ (.int .i64 (c + 1))).drewN nq) from pw_below_drewN (below_set HB1.out HG.out) _)
      have HREL := Aside0.mk (show WRel k x d r c' w0 g 0 ((w1.setCell ⟨g, 0, none⟩ (.int .i64 (c + 1))).drewN nq) from ⟨c + 1, by omega, by omega, HH.out, HL.out, HBL.out⟩)
      clear HW1 HB1 BK hcell hfz hb0 hb1 hb2 hkid hn1 hn2 HL HBL HH
      go_loopw [67] (fun v wr => ∃ i : Int, 0 ≤ i ∧ i ≤ (x.f2.length : Int) ∧ v = .int .i64 i ∧ Aside0 (WRel k x d r c' w0 g i wr)) (fun v _ => x.f2.length - (intOf v).toNat)
      case atStart => exact ⟨0, by omega, by omega, rfl, HREL⟩
      case round =>
        clear HREL
        obtain ⟨i, j0, j1, rfl, HR0⟩ := hrel
        obtain ⟨ci, e0, e1, hl, hwr, hbr⟩ := HR0.out
        have HWr := Aside0.mk hwr
        have HBr := Aside0.mk hbr
        clear hwr hbr HR0
        by_cases hlt : i < (x.f2.length : Int)
        · have t1 : decide (i < (x.f2.length : Int)) = true := decide_eq_true hlt
          obtain ⟨r1, c2, hf, hn⟩ := walkL_step hl j0 hlt
          have HF := Aside0.mk hf
          have HN := Aside0.mk hn
          clear hf hn hl
          obtain ⟨ad, A2, cp2, eA, hx0, hx1, hx2, l2, g2⟩ := at_T24 HR.out i j0 hlt
          cases eA
          replace hx0 := bc_ HBr hx0
          replace hx1 := bc_ HBr hx1
          replace hx2 := bc_ HBr hx2
          have G2 := Aside0.mk g2
          have L2 := Aside0.mk l2
          clear g2 l2
          have qi : (i < (x.f2.length : Int)) = True := eq_true hlt
          have pi : (0 ≤ i) = True := eq_true j0
          by_cases z : r1 = 0
          · have z1 : (r1 == 0) = true := beq_iff_eq.mpr z
            have z2 : (r1 != 0) = false := bne_eq_false_iff_eq.mpr z
            clear z
            go_wp2_with (first | ((with_reducible refine gate_dst (N := 8) rfl ?_); refine box_event ?hg (N := 8) ?hd (cs := #[.int .i64 0, .int .i64 0, .slice none 0 0]) (t := 24) ?hr ?_; (case hd => rfl); (case hg => rfl); (case hr => first | (go_simp; done) | (go_simp; rfl)); intro gq hg wq hbox hb; have HWq := bb_ HWr hb; have HBq := Aside0.mk (below_step HBr.out hb); have m1 := bl_ HWr hg; have m2 := bg_ HWr hg; have GQ := Aside0.mk (show w0.heap.size ≤ gq by rw [hg]; exact HBr.out.size); have BQ := Aside0.mk hbox; obtain ⟨hz0, hz1, hz2⟩ := cells3 BQ; have hy0 := blk_frozen BQ.out 0; have hy1 := blk_frozen BQ.out 1; have hy2 := blk_frozen BQ.out 2; clear hb hbox hg hx0 hx1 hx2 HWr HBr) | (go_at_call 7; (with_reducible refine (IH.out (rd_T24 x.f2 i) A2 cp2 (d + 1) ci r1 c2 w0 _ g hG G2.out L2.out HG.out (blk_far (blk_far (blk_far HWq.out m1.out _) m1.out _) m1.out _) (below_set (below_set (below_set HBq.out GQ.out) GQ.out) GQ.out) e0 (by omega) (by omega) (by omega) HF.out).mono ?_); rintro e w2 ⟨rfl, hw2, hb2⟩; have HW2 := Aside0.mk hw2; have HB2 := Aside0.mk hb2; clear hw2 hb2 HWq HBq BQ hz0 hz1 hz2 hy0 hy1 hy2 m1 m2))
            go_roundw
            case rel =>
              refine ⟨i + 1, by omega, by omega, by first | rfl | (simp; done) | go_num, ⟨c2, ?_, ?_, ?_, HW2.out, HB2.out⟩⟩
              · have := walkF_ok k _ _ _ _ (by rw [← eq_of_beq z1]; exact HF.out); omega
              · have := walkF_ok k _ _ _ _ (by rw [← eq_of_beq z1]; exact HF.out); omega
              · rcases HN.out with ⟨_, h⟩ | ⟨h, _⟩
                · exact h
                · exact absurd (eq_of_beq z1) h
            case measure => simp [intOf]; omega
          · have z1 : (r1 == 0) = false := beq_eq_false_iff_ne.mpr z
            have z2 : (r1 != 0) = true := bne_iff_ne.mpr z
            have HZ := Aside0.mk z
            clear z
            go_wp2_with (first | ((with_reducible refine gate_dst (N := 8) rfl ?_); refine box_event ?hg (N := 8) ?hd (cs := #[.int .i64 0, .int .i64 0, .slice none 0 0]) (t := 24) ?hr ?_; (case hd => rfl); (case hg => rfl); (case hr => first | (go_simp; done) | (go_simp; rfl)); intro gq hg wq hbox hb; have HWq := bb_ HWr hb; have HBq := Aside0.mk (below_step HBr.out hb); have m1 := bl_ HWr hg; have m2 := bg_ HWr hg; have GQ := Aside0.mk (show w0.heap.size ≤ gq by rw [hg]; exact HBr.out.size); have BQ := Aside0.mk hbox; obtain ⟨hz0, hz1, hz2⟩ := cells3 BQ; have hy0 := blk_frozen BQ.out 0; have hy1 := blk_frozen BQ.out 1; have hy2 := blk_frozen BQ.out 2; clear hb hbox hg hx0 hx1 hx2 HWr HBr) | (go_at_call 7; (with_reducible refine (IH.out (rd_T24 x.f2 i) A2 cp2 (d + 1) ci r1 c2 w0 _ g hG G2.out L2.out HG.out (blk_far (blk_far (blk_far HWq.out m1.out _) m1.out _) m1.out _) (below_set (below_set (below_set HBq.out GQ.out) GQ.out) GQ.out) e0 (by omega) (by omega) (by omega) HF.out).mono ?_); rintro e w2 ⟨rfl, hw2, hb2⟩; have HW2 := Aside0.mk hw2; have HB2 := Aside0.mk hb2; clear hw2 hb2 HWq HBq BQ hz0 hz1 hz2 hy0 hy1 hy2 m1 m2))
            go_ret
            rcases HN.out with ⟨h, _⟩ | ⟨_, h, h'⟩
            · exact absurd h HZ.out
            · exact ⟨by rw [h]; rfl, by rw [h']; exact HW2.out, HB2.out⟩
        · have t1 : decide (i < (x.f2.length : Int)) = false := decide_eq_false hlt
          obtain rfl : i = (x.f2.length : Int) := by omega
          obtain ⟨rfl, rfl⟩ := walkL_end hl
          go_wp2
          go_ret
          exact ⟨rfl, HWr.out, HBr.out⟩
    · have f7 : (x.f0 == 1) = false := beq_eq_false_iff_ne.mpr b7
      have f7' : (x.f0 != 1) = true := bne_iff_ne.mpr b7
      have b8 : x.f1 = 0 := by by_cases z : x.f1 = 0; exact z; exact absurd (.inr ⟨b7, z⟩) b6
      have f8 : (x.f1 == 0) = true := beq_iff_eq.mpr b8
      have f8' : (x.f1 != 0) = false := bne_eq_false_iff_eq.mpr b8
      clear b6 b7 b8
      go_enter Tryd.func7, Tryd.ntmps7
      go_wp2_with ((with_reducible refine gate_dst (N := 3) rfl ?_); refine box_event ?hg (N := 3) ?hd (cs := #[.int .i64 x.f0, .int .i64 x.f1, .slice A x.f2.length cp]) (t := 24) ?hr ?_; (case hd => rfl); (case hg => rfl); (case hr => first | (go_simp; done) | (go_simp; rfl)); intro gb hg w1 hbox hb; have HW1 := bb_ HW hb; have HB1 := Aside0.mk (below_step HB.out hb); have hn1 := (bl_ HW hg).out; have hn2 := (bg_ HW hg).out; have GB := Aside0.mk (show w0.heap.size ≤ gb by rw [hg]; exact HB.out.size); have BK := Aside0.mk hbox; clear hb hbox hg HW HB; have hcell := (show w1.cell? ⟨g, 0, none⟩ = some (.int .i64 c) from (blk_cell HW1.out 0).trans rfl); have hfz := blk_frozen HW1.out 0; obtain ⟨hb0, hb1, hb2⟩ := cells3 BK; have hkid := (show w1.cell? ⟨0, x.f0.toNat, none⟩ = some (.int .i64 q) from (HB1.out.cell (World.block_lt_of_cell? _ _ (HQ.out))).trans HQ.out))
      repeat (go_quiet (fail); try go_wp2)
      have HL := Aside0.mk (show ((w1.setCell ⟨g, 0, none⟩ (.int .i64 (c + 1))).drewN nq).heap[g]? = some (.cells #[.int .i64 (c + 1)] 3 (0, 0)) from blk_drewN (blk_put (cs := #[.int .i64 c]) HW1.out 0 _ rfl) _)
      have HBL := Aside0.mk (show Below w0.heap.size w0 ((w1.setCell ⟨g, 0, none⟩ (.int .i64 (c + 1))).drewN nq) from pw_below_drewN (below_set HB1.out HG.out) _)
      have HREL := Aside0.mk (show WRel k x d r c' w0 g 0 ((w1.setCell ⟨g, 0, none⟩ (.int .i64 (c + 1))).drewN nq) from ⟨c + 1, by omega, by omega, HH.out, HL.out, HBL.out⟩)
      clear HW1 HB1 BK hcell hfz hb0 hb1 hb2 hkid hn1 hn2 HL HBL HH
      go_loopw [67] (fun v wr => ∃ i : Int, 0 ≤ i ∧ i ≤ (x.f2.length : Int) ∧ v = .int .i64 i ∧ Aside0 (WRel k x d r c' w0 g i wr)) (fun v _ => x.f2.length - (intOf v).toNat)
      case atStart => exact ⟨0, by omega, by omega, rfl, HREL⟩
      case round =>
        clear HREL
        obtain ⟨i, j0, j1, rfl, HR0⟩ := hrel
        obtain ⟨ci, e0, e1, hl, hwr, hbr⟩ := HR0.out
        have HWr := Aside0.mk hwr
        have HBr := Aside0.mk hbr
        clear hwr hbr HR0
        by_cases hlt : i < (x.f2.length : Int)
        · have t1 : decide (i < (x.f2.length : Int)) = true := decide_eq_true hlt
          obtain ⟨r1, c2, hf, hn⟩ := walkL_step hl j0 hlt
          have HF := Aside0.mk hf
          have HN := Aside0.mk hn
          clear hf hn hl
          obtain ⟨ad, A2, cp2, eA, hx0, hx1, hx2, l2, g2⟩ := at_T24 HR.out i j0 hlt
          cases eA
          replace hx0 := bc_ HBr hx0
          replace hx1 := bc_ HBr hx1
          replace hx2 := bc_ HBr hx2
          have G2 := Aside0.mk g2
          have L2 := Aside0.mk l2
          clear g2 l2
          have qi : (i < (x.f2.length : Int)) = True := eq_true hlt
          have pi : (0 ≤ i) = True := eq_true j0
          by_cases z : r1 = 0
          · have z1 : (r1 == 0) = true := beq_iff_eq.mpr z
            have z2 : (r1 != 0) = false := bne_eq_false_iff_eq.mpr z
            clear z
            go_wp2_with (first | ((with_reducible refine gate_dst (N := 8) rfl ?_); refine box_event ?hg (N := 8) ?hd (cs := #[.int .i64 0, .int .i64 0, .slice none 0 0]) (t := 24) ?hr ?_; (case hd => rfl); (case hg => rfl); (case hr => first | (go_simp; done) | (go_simp; rfl)); intro gq hg wq hbox hb; have HWq := bb_ HWr hb; have HBq := Aside0.mk (below_step HBr.out hb); have m1 := bl_ HWr hg; have m2 := bg_ HWr hg; have GQ := Aside0.mk (show w0.heap.size ≤ gq by rw [hg]; exact HBr.out.size); have BQ := Aside0.mk hbox; obtain ⟨hz0, hz1, hz2⟩ := cells3 BQ; have hy0 := blk_frozen BQ.out 0; have hy1 := blk_frozen BQ.out 1; have hy2 := blk_frozen BQ.out 2; clear hb hbox hg hx0 hx1 hx2 HWr HBr) | (go_at_call 7; (with_reducible refine (IH.out (rd_T24 x.f2 i) A2 cp2 (d + 1) ci r1 c2 w0 _ g hG G2.out L2.out HG.out (blk_far (blk_far (blk_far HWq.out m1.out _) m1.out _) m1.out _) (below_set (below_set (below_set HBq.out GQ.out) GQ.out) GQ.out) e0 (by omega) (by omega) (by omega) HF.out).mono ?_); rintro e w2 ⟨rfl, hw2, hb2⟩; have HW2 := Aside0.mk hw2; have HB2 := Aside0.mk hb2; clear hw2 hb2 HWq HBq BQ hz0 hz1 hz2 hy0 hy1 hy2 m1 m2))
            go_roundw
            case rel =>
              refine ⟨i + 1, by omega, by omega, by first | rfl | (simp; done) | go_num, ⟨c2, ?_, ?_, ?_, HW2.out, HB2.out⟩⟩
              · have := walkF_ok k _ _ _ _ (by rw [← eq_of_beq z1]; exact HF.out); omega
              · have := walkF_ok k _ _ _ _ (by rw [← eq_of_beq z1]; exact HF.out); omega
              · rcases HN.out with ⟨_, h⟩ | ⟨h, _⟩
                · exact h
                · exact absurd (eq_of_beq z1) h
            case measure => simp [intOf]; omega
          · have z1 : (r1 == 0) = false := beq_eq_false_iff_ne.mpr z
            have z2 : (r1 != 0) = true := bne_iff_ne.mpr z
            have HZ := Aside0.mk z
            clear z
            go_wp2_with (first | ((with_reducible refine gate_dst (N := 8) rfl ?_); refine box_event ?hg (N := 8) ?hd (cs := #[.int .i64 0, .int .i64 0, .slice none 0 0]) (t := 24) ?hr ?_; (case hd => rfl); (case hg => rfl); (case hr => first | (go_simp; done) | (go_simp; rfl)); intro gq hg wq hbox hb; have HWq := bb_ HWr hb; have HBq := Aside0.mk (below_step HBr.out hb); have m1 := bl_ HWr hg; have m2 := bg_ HWr hg; have GQ := Aside0.mk (show w0.heap.size ≤ gq by rw [hg]; exact HBr.out.size); have BQ := Aside0.mk hbox; obtain ⟨hz0, hz1, hz2⟩ := cells3 BQ; have hy0 := blk_frozen BQ.out 0; have hy1 := blk_frozen BQ.out 1; have hy2 := blk_frozen BQ.out 2; clear hb hbox hg hx0 hx1 hx2 HWr HBr) | (go_at_call 7; (with_reducible refine (IH.out (rd_T24 x.f2 i) A2 cp2 (d + 1) ci r1 c2 w0 _ g hG G2.out L2.out HG.out (blk_far (blk_far (blk_far HWq.out m1.out _) m1.out _) m1.out _) (below_set (below_set (below_set HBq.out GQ.out) GQ.out) GQ.out) e0 (by omega) (by omega) (by omega) HF.out).mono ?_); rintro e w2 ⟨rfl, hw2, hb2⟩; have HW2 := Aside0.mk hw2; have HB2 := Aside0.mk hb2; clear hw2 hb2 HWq HBq BQ hz0 hz1 hz2 hy0 hy1 hy2 m1 m2))
            go_ret
            rcases HN.out with ⟨h, _⟩ | ⟨_, h, h'⟩
            · exact absurd h HZ.out
            · exact ⟨by rw [h]; rfl, by rw [h']; exact HW2.out, HB2.out⟩
        · have t1 : decide (i < (x.f2.length : Int)) = false := decide_eq_false hlt
          obtain rfl : i = (x.f2.length : Int) := by omega
          obtain ⟨rfl, rfl⟩ := walkL_end hl
          go_wp2
          go_ret
          exact ⟨rfl, HWr.out, HBr.out⟩
end Go.Proofs.YtboddbgmgcjppaaDoor
