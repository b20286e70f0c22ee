-- Written by a program of ours over the translation of this seat. Not trusted: Lean checks it.
import Derived.Test.YtboddbgmgcjppaaFar
import Derived.Test.YtboddbgmgcjppaaQFracNearestx0
import Derived.Test.YtboddbgmgcjppaaQFracNearestx1
import Derived.Test.YtboddbgmgcjppaaQFracNearestx4
import Derived.Test.YtboddbgmgcjppaaQFracNearestx6
namespace Go.Proofs.Ytboddbgmgcjppaa.QFracNearest
open Go.RowKit Go.Proofs.YtboddbgmgcjppaaW.PrintWords Go.Proofs.YtboddbgmgcjppaaW.PrintLast Go.Proofs.YtboddbgmgcjppaaW.PrintMore Go.Proofs.YtboddbgmgcjppaaFar
attribute [local go_sem] max2_int min2_int max_two min_two max_three min_three max_four min_four   -- for this text's walks alone
set_option linter.unusedVariables false
set_option linter.unusedSimpArgs false

/-! ### frac_Near: function 38 -/
mutual
def frac_Near.j0 : Nat → Int → Bool → Int → Int → Option (Int × Int × Int)
 | 0, _, _, _, _ => none
 | k + 1, x1, x27, x111000, x111001 => if x27 = true then (some (0, 0, 1)) else (if x111001 ≤ x1 then (some (x111000, x111001, 0)) else ((whole_Div.f k x111000 x111001).bind fun bt113 => (frac_Near.l0 k x1 bt113.1 bt113.2.1 0 1 1 1 x111000 x111001)))
def frac_Near.l0 : Nat → Int → Int → Int → Int → Int → Int → Int → Int → Int → Option (Int × Int × Int)
 | 0, _, _, _, _, _, _, _, _, _ => none
 | k + 1, x1, x7, x8, x10, x11, x12, x13, x111000, x111001 => if (wrap64 (x11 + x13)) ≤ x1 then (if (wrap64 ((wrap64 (x8 * x11)) - (wrap64 (x10 * x111001)))) = 0 then (none) else (if x11 = 0 then (none) else (if (wrap64 ((wrap64 ((wrap64 (x12 + (wrap64 ((mn (wrap64 (Int.tdiv (wrap64 ((wrap64 ((wrap64 (x12 * x111001)) - (wrap64 (x8 * x13)))) - 1)) (wrap64 ((wrap64 (x8 * x11)) - (wrap64 (x10 * x111001)))))) (wrap64 (Int.tdiv (wrap64 (x1 - x13)) x11))) * x10)))) * x111001)) - (wrap64 (x8 * (wrap64 (x13 + (wrap64 ((mn (wrap64 (Int.tdiv (wrap64 ((wrap64 ((wrap64 (x12 * x111001)) - (wrap64 (x8 * x13)))) - 1)) (wrap64 ((wrap64 (x8 * x11)) - (wrap64 (x10 * x111001)))))) (wrap64 (Int.tdiv (wrap64 (x1 - x13)) x11))) * x11)))))))) = 0 then (none) else (if (wrap64 (x13 + (wrap64 ((mn (wrap64 (Int.tdiv (wrap64 ((wrap64 ((wrap64 (x12 * x111001)) - (wrap64 (x8 * x13)))) - 1)) (wrap64 ((wrap64 (x8 * x11)) - (wrap64 (x10 * x111001)))))) (wrap64 (Int.tdiv (wrap64 (x1 - x13)) x11))) * x11)))) = 0 then (none) else (frac_Near.l0 k x1 x7 x8 (wrap64 (x10 + (wrap64 ((mn (wrap64 (Int.tdiv (wrap64 ((wrap64 ((wrap64 (x8 * x11)) - (wrap64 (x10 * x111001)))) - 1)) (wrap64 ((wrap64 ((wrap64 (x12 + (wrap64 ((mn (wrap64 (Int.tdiv (wrap64 ((wrap64 ((wrap64 (x12 * x111001)) - (wrap64 (x8 * x13)))) - 1)) (wrap64 ((wrap64 (x8 * x11)) - (wrap64 (x10 * x111001)))))) (wrap64 (Int.tdiv (wrap64 (x1 - x13)) x11))) * x10)))) * x111001)) - (wrap64 (x8 * (wrap64 (x13 + (wrap64 ((mn (wrap64 (Int.tdiv (wrap64 ((wrap64 ((wrap64 (x12 * x111001)) - (wrap64 (x8 * x13)))) - 1)) (wrap64 ((wrap64 (x8 * x11)) - (wrap64 (x10 * x111001)))))) (wrap64 (Int.tdiv (wrap64 (x1 - x13)) x11))) * x11)))))))))) (wrap64 (Int.tdiv (wrap64 (x1 - x11)) (wrap64 (x13 + (wrap64 ((mn (wrap64 (Int.tdiv (wrap64 ((wrap64 ((wrap64 (x12 * x111001)) - (wrap64 (x8 * x13)))) - 1)) (wrap64 ((wrap64 (x8 * x11)) - (wrap64 (x10 * x111001)))))) (wrap64 (Int.tdiv (wrap64 (x1 - x13)) x11))) * x11))))))) * (wrap64 (x12 + (wrap64 ((mn (wrap64 (Int.tdiv (wrap64 ((wrap64 ((wrap64 (x12 * x111001)) - (wrap64 (x8 * x13)))) - 1)) (wrap64 ((wrap64 (x8 * x11)) - (wrap64 (x10 * x111001)))))) (wrap64 (Int.tdiv (wrap64 (x1 - x13)) x11))) * x10)))))))) (wrap64 (x11 + (wrap64 ((mn (wrap64 (Int.tdiv (wrap64 ((wrap64 ((wrap64 (x8 * x11)) - (wrap64 (x10 * x111001)))) - 1)) (wrap64 ((wrap64 ((wrap64 (x12 + (wrap64 ((mn (wrap64 (Int.tdiv (wrap64 ((wrap64 ((wrap64 (x12 * x111001)) - (wrap64 (x8 * x13)))) - 1)) (wrap64 ((wrap64 (x8 * x11)) - (wrap64 (x10 * x111001)))))) (wrap64 (Int.tdiv (wrap64 (x1 - x13)) x11))) * x10)))) * x111001)) - (wrap64 (x8 * (wrap64 (x13 + (wrap64 ((mn (wrap64 (Int.tdiv (wrap64 ((wrap64 ((wrap64 (x12 * x111001)) - (wrap64 (x8 * x13)))) - 1)) (wrap64 ((wrap64 (x8 * x11)) - (wrap64 (x10 * x111001)))))) (wrap64 (Int.tdiv (wrap64 (x1 - x13)) x11))) * x11)))))))))) (wrap64 (Int.tdiv (wrap64 (x1 - x11)) (wrap64 (x13 + (wrap64 ((mn (wrap64 (Int.tdiv (wrap64 ((wrap64 ((wrap64 (x12 * x111001)) - (wrap64 (x8 * x13)))) - 1)) (wrap64 ((wrap64 (x8 * x11)) - (wrap64 (x10 * x111001)))))) (wrap64 (Int.tdiv (wrap64 (x1 - x13)) x11))) * x11))))))) * (wrap64 (x13 + (wrap64 ((mn (wrap64 (Int.tdiv (wrap64 ((wrap64 ((wrap64 (x12 * x111001)) - (wrap64 (x8 * x13)))) - 1)) (wrap64 ((wrap64 (x8 * x11)) - (wrap64 (x10 * x111001)))))) (wrap64 (Int.tdiv (wrap64 (x1 - x13)) x11))) * x11)))))))) (wrap64 (x12 + (wrap64 ((mn (wrap64 (Int.tdiv (wrap64 ((wrap64 ((wrap64 (x12 * x111001)) - (wrap64 (x8 * x13)))) - 1)) (wrap64 ((wrap64 (x8 * x11)) - (wrap64 (x10 * x111001)))))) (wrap64 (Int.tdiv (wrap64 (x1 - x13)) x11))) * x10)))) (wrap64 (x13 + (wrap64 ((mn (wrap64 (Int.tdiv (wrap64 ((wrap64 ((wrap64 (x12 * x111001)) - (wrap64 (x8 * x13)))) - 1)) (wrap64 ((wrap64 (x8 * x11)) - (wrap64 (x10 * x111001)))))) (wrap64 (Int.tdiv (wrap64 (x1 - x13)) x11))) * x11)))) x111000 x111001))))) else ((frac_cmp2.f (IntKind.u64.wrap (wrap64 ((wrap64 (x8 * x11)) - (wrap64 (x10 * x111001))))) (IntKind.u64.wrap (x13)) (IntKind.u64.wrap (wrap64 ((wrap64 (x12 * x111001)) - (wrap64 (x8 * x13))))) (IntKind.u64.wrap (x11))).bind fun t116 => (if t116 > 0 then (some (wrap64 ((wrap64 (x7 * x13)) + x12), x13, 0)) else (if t116 = 0 then (if x13 < x11 then (some (wrap64 ((wrap64 (x7 * x13)) + x12), x13, 0)) else (some (wrap64 ((wrap64 (x7 * x11)) + x10), x11, 0))) else (some (wrap64 ((wrap64 (x7 * x11)) + x10), x11, 0)))))
end
def frac_Near.f (k : Nat) (a0_0 : Int) (a0_1 : Int) (a1 : Int) : Option (Int × Int × Int) := (frac_Check.f k a0_0 a0_1).bind fun t112 => (if t112 = 0 then (if a1 < 1 then (frac_Near.j0 k a1 true a0_0 a0_1) else (frac_Near.j0 k a1 (decide (a1 > 2147483647)) a0_0 a0_1)) else (some (0, 0, t112)))
theorem frac_Near.mono_l : ∀ k, (∀ y0 y1 y2 y3, LeO (frac_Near.j0 k y0 y1 y2 y3) (frac_Near.j0 (k + 1) y0 y1 y2 y3)) ∧ (∀ y0 y1 y2 y3 y4 y5 y6 y7 y8, LeO (frac_Near.l0 k y0 y1 y2 y3 y4 y5 y6 y7 y8) (frac_Near.l0 (k + 1) y0 y1 y2 y3 y4 y5 y6 y7 y8))
 | 0 => ⟨fun _ _ _ _ r h => by simp [frac_Near.j0] at h, fun _ _ _ _ _ _ _ _ _ r h => by simp [frac_Near.l0] at h⟩
 | k + 1 => by
  obtain ⟨ih0, ih1⟩ := frac_Near.mono_l k
  refine ⟨?_, ?_⟩
  ·intro y0 y1 y2 y3
   unfold frac_Near.j0
   repeat' first
   | (with_reducible exact ih0 _ _ _ _)
   | (with_reducible exact ih1 _ _ _ _ _ _ _ _ _)
   | (with_reducible exact frac_Check.mono _ _ _)
   | (with_reducible exact whole_Div.mono _ _ _)
   | (with_reducible exact LeO.refl _)
   | (with_reducible exact LeO.none _)
   | (with_reducible refine LeO.ite ?_ ?_)
   | (with_reducible refine LeO.bind ?_ (fun _ => ?_))
   | exact ih0 _ _ _ _
   | exact ih1 _ _ _ _ _ _ _ _ _
   | exact frac_Check.mono _ _ _
   | exact whole_Div.mono _ _ _
   | exact LeO.none _
   | refine LeO.ite ?_ ?_
   | refine LeO.bind ?_ (fun _ => ?_)
  ·intro y0 y1 y2 y3 y4 y5 y6 y7 y8
   unfold frac_Near.l0
   repeat' first
   | (with_reducible exact ih0 _ _ _ _)
   | (with_reducible exact ih1 _ _ _ _ _ _ _ _ _)
   | (with_reducible exact frac_Check.mono _ _ _)
   | (with_reducible exact whole_Div.mono _ _ _)
   | (with_reducible exact LeO.refl _)
   | (with_reducible exact LeO.none _)
   | (with_reducible refine LeO.ite ?_ ?_)
   | (with_reducible refine LeO.bind ?_ (fun _ => ?_))
   | exact ih0 _ _ _ _
   | exact ih1 _ _ _ _ _ _ _ _ _
   | exact frac_Check.mono _ _ _
   | exact whole_Div.mono _ _ _
   | exact LeO.none _
   | refine LeO.ite ?_ ?_
   | refine LeO.bind ?_ (fun _ => ?_)
theorem frac_Near.mono : ∀ a0 a1 a2 k, LeO (frac_Near.f k a0 a1 a2) (frac_Near.f (k + 1) a0 a1 a2) := by
 intro a0 a1 a2 k
 obtain ⟨ih0, ih1⟩ := frac_Near.mono_l k
 unfold frac_Near.f
 repeat' first
   | (with_reducible exact ih0 _ _ _ _)
   | (with_reducible exact ih1 _ _ _ _ _ _ _ _ _)
   | (with_reducible exact frac_Check.mono _ _ _)
   | (with_reducible exact whole_Div.mono _ _ _)
   | (with_reducible exact LeO.refl _)
   | (with_reducible exact LeO.none _)
   | (with_reducible refine LeO.ite ?_ ?_)
   | (with_reducible refine LeO.bind ?_ (fun _ => ?_))
   | exact ih0 _ _ _ _
   | exact ih1 _ _ _ _ _ _ _ _ _
   | exact frac_Check.mono _ _ _
   | exact whole_Div.mono _ _ _
   | exact LeO.none _
   | refine LeO.ite ?_ ?_
   | refine LeO.bind ?_ (fun _ => ?_)
set_option maxHeartbeats 8000000 in
set_option maxRecDepth 100000 in
theorem frac_Near.calls (k : Nat) (a0_0 : Int) (a0_1 : Int) (a1 : Int) (r1 : Int) (r2 : Int) (r3 : Int) (w : World) (h : frac_Near.f k a0_0 a0_1 a1 = some (r1, r2, r3)) :
  Calls Try.prog 38 #[.agg #[.int .i64 a0_0, .int .i64 a0_1], .int .i64 a1] w fun e w' => e = .returned (.tuple #[.agg #[.int .i64 r1, .int .i64 r2], .int .i64 r3]) ∧ Below w.heap.size w w' := by
 have hu44 := Try.underlying44
 have HB := Aside0.mk (Below.refl w.heap.size w)
 have H : ((frac_Check.f k a0_0 a0_1).bind fun t112 => (if t112 = 0 then (if a1 < 1 then (frac_Near.j0 k a1 true a0_0 a0_1) else (frac_Near.j0 k a1 (decide (a1 > 2147483647)) a0_0 a0_1)) else (some (0, 0, t112)))) = some (r1, r2, r3) := h
 clear h
 replace H := Option.bind_eq_some_iff.mp H
 obtain ⟨t112, A30, H⟩ := H
 replace H : (if t112 = 0 then (if a1 < 1 then (frac_Near.j0 k a1 true a0_0 a0_1) else (frac_Near.j0 k a1 (decide (a1 > 2147483647)) a0_0 a0_1)) else (some (0, 0, t112))) = some (r1, r2, r3) := H
 have A3 := Aside0.mk A30
 clear A30
 by_cases c4 : t112 = 0
 ·rw [if_pos c4] at H
  have c4b0 : (t112 == 0) = true := beq_iff_eq.mpr c4
  have c4b1 : (t112 != 0) = false := bne_eq_false_iff_eq.mpr c4
  clear c4
  have HC5 := Aside0.mk H
  clear H
  go_enter Try.func38, Try.ntmps38
  go_upto_region 4 with (first | ((with_reducible refine gate_dst (N := 2) rfl ?_); refine box_event ?hg (N := 2) ?hd (cs := #[.int .i64 a0_0, .int .i64 a0_1]) (t := 44) ?hr ?_; (case hd => rfl); (case hg => rfl); (case hr => first | (go_simp; done) | (go_simp; rfl)); intro gb110 hg w6 hbox hb; have n0_ := Aside0.mk (below_step (by repeat (first | (with_reducible first | exact HB.out | apply below_alloc | apply pw_below_drewN | apply below_drew1) | exact HB.out)) hb); have n1_ := Aside0.mk (hbox); have n2_ := Aside0.mk ((by rw [hg]; exact (below_size (by repeat (first | (with_reducible first | exact HB.out | apply below_alloc | apply pw_below_drewN | apply below_drew1) | exact HB.out))) : w.heap.size ≤ gb110)); have n3_ := n2_; clear HB; have HB := n0_; have BK110 := n1_; have GW110 := n2_; have GE110 := n3_; clear n0_ n1_ n2_ n3_; clear hb hbox hg) | ((with_reducible refine gate_dst (N := 4) rfl ?_); refine box_event ?hg (N := 4) ?hd (cs := #[.int .i64 0, .int .i64 0]) (t := 44) ?hr ?_; (case hd => rfl); (case hg => rfl); (case hr => first | (go_simp; done) | (go_simp; rfl)); intro gb111 hg w7 hbox hb; have n0_ := bb_ BK110 hb; have n1_ := Aside0.mk (below_step (by repeat (first | (with_reducible first | exact HB.out | apply below_alloc | apply pw_below_drewN | apply below_drew1 | refine below_set ?_ GE110.out) | exact HB.out)) hb); have n2_ := Aside0.mk (hbox); have n3_ := Aside0.mk ((by rw [hg]; exact (below_size (by repeat (first | (with_reducible first | exact HB.out | apply below_alloc | apply pw_below_drewN | apply below_drew1 | refine below_set ?_ GE110.out) | exact HB.out))) : w.heap.size ≤ gb111)); have n4_ := n3_; have n5_ := bl_ BK110 hg; have n6_ := bg_ BK110 hg; clear BK110; clear HB; have BK110 := n0_; have HB := n1_; have BK111 := n2_; have GW111 := n3_; have GE111 := n4_; have NB110_111 := n5_; have NB111_110 := n6_; clear n0_ n1_ n2_ n3_ n4_ n5_ n6_; clear hb hbox hg; have hnb8 := NB110_111.out; have hnc8 := NB111_110.out; have hcz9_0 : w7.cell? ⟨gb110, 0, none⟩ = some (.int .i64 a0_0) := (blk_cell BK110.out 0).trans rfl; have hcz9_1 : w7.cell? ⟨gb110, 1, none⟩ = some (.int .i64 a0_1) := (blk_cell BK110.out 1).trans rfl; have hfz9_0 := blk_frozen BK110.out 0; have hfz9_1 := blk_frozen BK110.out 1) | (go_at_call 58; (with_reducible refine (frac_Check.calls k a0_0 a0_1 t112 _ A3.out).mono ?_); rintro e w10 ⟨rfl, hb⟩; have n0_ := bb_ BK110 hb; have n1_ := bb_ BK111 hb; have n2_ := Aside0.mk (below_step (by repeat (first | (with_reducible first | exact HB.out | apply below_alloc | apply pw_below_drewN | apply below_drew1 | refine below_set ?_ GE110.out | refine below_set ?_ GE111.out) | exact HB.out)) hb); clear BK110; clear BK111; clear HB; have BK110 := n0_; have BK111 := n1_; have HB := n2_; clear n0_ n1_ n2_; (try clear hb); (try clear hb2); (try clear hk); (try clear hi)))
  repeat (go_quiet (first | ((with_reducible refine gate_dst (N := 2) rfl ?_); refine box_event ?hg (N := 2) ?hd (cs := #[.int .i64 a0_0, .int .i64 a0_1]) (t := 44) ?hr ?_; (case hd => rfl); (case hg => rfl); (case hr => first | (go_simp; done) | (go_simp; rfl)); intro gb110 hg w6 hbox hb; have n0_ := Aside0.mk (below_step (by repeat (first | (with_reducible first | exact HB.out | apply below_alloc | apply pw_below_drewN | apply below_drew1) | exact HB.out)) hb); have n1_ := Aside0.mk (hbox); have n2_ := Aside0.mk ((by rw [hg]; exact (below_size (by repeat (first | (with_reducible first | exact HB.out | apply below_alloc | apply pw_below_drewN | apply below_drew1) | exact HB.out))) : w.heap.size ≤ gb110)); have n3_ := n2_; clear HB; have HB := n0_; have BK110 := n1_; have GW110 := n2_; have GE110 := n3_; clear n0_ n1_ n2_ n3_; clear hb hbox hg) | ((with_reducible refine gate_dst (N := 4) rfl ?_); refine box_event ?hg (N := 4) ?hd (cs := #[.int .i64 0, .int .i64 0]) (t := 44) ?hr ?_; (case hd => rfl); (case hg => rfl); (case hr => first | (go_simp; done) | (go_simp; rfl)); intro gb111 hg w7 hbox hb; have n0_ := bb_ BK110 hb; have n1_ := Aside0.mk (below_step (by repeat (first | (with_reducible first | exact HB.out | apply below_alloc | apply pw_below_drewN | apply below_drew1 | refine below_set ?_ GE110.out) | exact HB.out)) hb); have n2_ := Aside0.mk (hbox); have n3_ := Aside0.mk ((by rw [hg]; exact (below_size (by repeat (first | (with_reducible first | exact HB.out | apply below_alloc | apply pw_below_drewN | apply below_drew1 | refine below_set ?_ GE110.out) | exact HB.out))) : w.heap.size ≤ gb111)); have n4_ := n3_; have n5_ := bl_ BK110 hg; have n6_ := bg_ BK110 hg; clear BK110; clear HB; have BK110 := n0_; have HB := n1_; have BK111 := n2_; have GW111 := n3_; have GE111 := n4_; have NB110_111 := n5_; have NB111_110 := n6_; clear n0_ n1_ n2_ n3_ n4_ n5_ n6_; clear hb hbox hg; have hnb8 := NB110_111.out; have hnc8 := NB111_110.out; have hcz9_0 : w7.cell? ⟨gb110, 0, none⟩ = some (.int .i64 a0_0) := (blk_cell BK110.out 0).trans rfl; have hcz9_1 : w7.cell? ⟨gb110, 1, none⟩ = some (.int .i64 a0_1) := (blk_cell BK110.out 1).trans rfl; have hfz9_0 := blk_frozen BK110.out 0; have hfz9_1 := blk_frozen BK110.out 1) | (go_at_call 58; (with_reducible refine (frac_Check.calls k a0_0 a0_1 t112 _ A3.out).mono ?_); rintro e w10 ⟨rfl, hb⟩; have n0_ := bb_ BK110 hb; have n1_ := bb_ BK111 hb; have n2_ := Aside0.mk (below_step (by repeat (first | (with_reducible first | exact HB.out | apply below_alloc | apply pw_below_drewN | apply below_drew1 | refine below_set ?_ GE110.out | refine below_set ?_ GE111.out) | exact HB.out)) hb); clear BK110; clear BK111; clear HB; have BK110 := n0_; have BK111 := n1_; have HB := n2_; clear n0_ n1_ n2_; (try clear hb); (try clear hb2); (try clear hk); (try clear hi))); go_upto_region 4 with (first | ((with_reducible refine gate_dst (N := 2) rfl ?_); refine box_event ?hg (N := 2) ?hd (cs := #[.int .i64 a0_0, .int .i64 a0_1]) (t := 44) ?hr ?_; (case hd => rfl); (case hg => rfl); (case hr => first | (go_simp; done) | (go_simp; rfl)); intro gb110 hg w6 hbox hb; have n0_ := Aside0.mk (below_step (by repeat (first | (with_reducible first | exact HB.out | apply below_alloc | apply pw_below_drewN | apply below_drew1) | exact HB.out)) hb); have n1_ := Aside0.mk (hbox); have n2_ := Aside0.mk ((by rw [hg]; exact (below_size (by repeat (first | (with_reducible first | exact HB.out | apply below_alloc | apply pw_below_drewN | apply below_drew1) | exact HB.out))) : w.heap.size ≤ gb110)); have n3_ := n2_; clear HB; have HB := n0_; have BK110 := n1_; have GW110 := n2_; have GE110 := n3_; clear n0_ n1_ n2_ n3_; clear hb hbox hg) | ((with_reducible refine gate_dst (N := 4) rfl ?_); refine box_event ?hg (N := 4) ?hd (cs := #[.int .i64 0, .int .i64 0]) (t := 44) ?hr ?_; (case hd => rfl); (case hg => rfl); (case hr => first | (go_simp; done) | (go_simp; rfl)); intro gb111 hg w7 hbox hb; have n0_ := bb_ BK110 hb; have n1_ := Aside0.mk (below_step (by repeat (first | (with_reducible first | exact HB.out | apply below_alloc | apply pw_below_drewN | apply below_drew1 | refine below_set ?_ GE110.out) | exact HB.out)) hb); have n2_ := Aside0.mk (hbox); have n3_ := Aside0.mk ((by rw [hg]; exact (below_size (by repeat (first | (with_reducible first | exact HB.out | apply below_alloc | apply pw_below_drewN | apply below_drew1 | refine below_set ?_ GE110.out) | exact HB.out))) : w.heap.size ≤ gb111)); have n4_ := n3_; have n5_ := bl_ BK110 hg; have n6_ := bg_ BK110 hg; clear BK110; clear HB; have BK110 := n0_; have HB := n1_; have BK111 := n2_; have GW111 := n3_; have GE111 := n4_; have NB110_111 := n5_; have NB111_110 := n6_; clear n0_ n1_ n2_ n3_ n4_ n5_ n6_; clear hb hbox hg; have hnb8 := NB110_111.out; have hnc8 := NB111_110.out; have hcz9_0 : w7.cell? ⟨gb110, 0, none⟩ = some (.int .i64 a0_0) := (blk_cell BK110.out 0).trans rfl; have hcz9_1 : w7.cell? ⟨gb110, 1, none⟩ = some (.int .i64 a0_1) := (blk_cell BK110.out 1).trans rfl; have hfz9_0 := blk_frozen BK110.out 0; have hfz9_1 := blk_frozen BK110.out 1) | (go_at_call 58; (with_reducible refine (frac_Check.calls k a0_0 a0_1 t112 _ A3.out).mono ?_); rintro e w10 ⟨rfl, hb⟩; have n0_ := bb_ BK110 hb; have n1_ := bb_ BK111 hb; have n2_ := Aside0.mk (below_step (by repeat (first | (with_reducible first | exact HB.out | apply below_alloc | apply pw_below_drewN | apply below_drew1 | refine below_set ?_ GE110.out | refine below_set ?_ GE111.out) | exact HB.out)) hb); clear BK110; clear BK111; clear HB; have BK110 := n0_; have BK111 := n1_; have HB := n2_; clear n0_ n1_ n2_; (try clear hb); (try clear hb2); (try clear hk); (try clear hi))))
  (try simp only [Act.put, List.setIfInBounds_toArray, List.set_cons_zero, List.set_cons_succ])
  go_cut [27] (fun v27 wc => ∃ (kq : Nat) (x27_4 : Bool), v27 = .bool x27_4 ∧ Aside0 (frac_Near.j0 kq a1 x27_4 a0_0 a0_1 = some (r1, r2, r3)) ∧ Aside0 (kq ≤ k) ∧ Aside0 (wc.heap[gb110]? = some (.cells #[.int .i64 a0_0, .int .i64 a0_1] 44 (0, 0))) ∧ Aside0 (wc.heap[gb111]? = some (.cells #[.int .i64 0, .int .i64 0] 44 (0, 0))) ∧ Aside0 (Below w.heap.size w wc))
  case first =>
   have H := HC5.out
   clear HC5
   by_cases c11 : a1 < 1
   ·rw [if_pos c11] at H
    have c11b0 : decide (a1 < 1) = true := decide_eq_true c11
    clear c11
    (first | rw [c11b0] | (simp only [i64_w, i32_w]; rw [c11b0]) | skip)
    have H' := Aside0.mk H
    clear H
    go_wp2
    repeat (go_quiet (fail); try go_wp2)
    go_meet
    case rel => exact ⟨_, (true), (by first | rfl | (simp; done) | (simp [*]; done) | (simp [bne]; done) | (simp only [i64_w, i32_w]; done) | (simp [i64_w, i32_w]; done)), H', ⟨by first | omega | exact Nat.le_refl _⟩, ⟨by (with_reducible repeat (first | refine blk_drewN ?_ _ | refine blk_drew ?_ | refine blk_alloc ?_ _)); exact BK110.out⟩, ⟨by (with_reducible repeat (first | refine blk_drewN ?_ _ | refine blk_drew ?_ | refine blk_alloc ?_ _)); exact BK111.out⟩, ⟨by repeat (first | (with_reducible first | exact HB.out | apply below_alloc | apply pw_below_drewN | apply below_drew1 | refine below_set ?_ GE110.out | refine below_set ?_ GE111.out) | exact HB.out)⟩⟩
   ·rw [if_neg c11] at H
    have c11b0 : decide (a1 < 1) = false := decide_eq_false c11
    clear c11
    (first | rw [c11b0] | (simp only [i64_w, i32_w]; rw [c11b0]) | skip)
    have H' := Aside0.mk H
    clear H
    go_wp2
    repeat (go_quiet (fail); try go_wp2)
    go_meet
    case rel => exact ⟨_, (decide (a1 > 2147483647)), (by first | rfl | (simp; done) | (simp [*]; done) | (simp [bne]; done) | (simp only [i64_w, i32_w]; done) | (simp [i64_w, i32_w]; done)), H', ⟨by first | omega | exact Nat.le_refl _⟩, ⟨by (with_reducible repeat (first | refine blk_drewN ?_ _ | refine blk_drew ?_ | refine blk_alloc ?_ _)); exact BK110.out⟩, ⟨by (with_reducible repeat (first | refine blk_drewN ?_ _ | refine blk_drew ?_ | refine blk_alloc ?_ _)); exact BK111.out⟩, ⟨by repeat (first | (with_reducible first | exact HB.out | apply below_alloc | apply pw_below_drewN | apply below_drew1 | refine below_set ?_ GE110.out | refine below_set ?_ GE111.out) | exact HB.out)⟩⟩
  case rest =>
   clear HC5
   try clear c1
   try clear p2
   try clear c3
   try clear c4
   try clear c4b0
   try clear c4b1
   try clear c8
   try clear c11
   try clear c11b0
   try clear hcz9_0
   try clear hcz9_1
   try clear hfz9_0
   try clear hfz9_1
   obtain ⟨kq, x27_4, rfl, HA, HJ4, BK110, BK111, HB⟩ := hcut
   cases kq with
   | zero => exact absurd HA.out (by simp [frac_Near.j0])
   | succ kj4 =>
    have H := HA.out
    clear HA
    simp only [frac_Near.j0] at H
    by_cases c12 : x27_4 = true
    ·subst c12
     have H1 : (some (0, 0, 1)) = some (r1, r2, r3) := by rw [if_pos rfl] at H; exact H
     clear H
     have H := H1
     clear H1
     simp only [Option.some.injEq, Prod.mk.injEq] at H
     obtain ⟨rfl, rfl, rfl⟩ := H
     have hnb13 := NB111_110.out
     have hnc13 := NB110_111.out
     have hcz14_0 : wc.cell? ⟨gb111, 0, none⟩ = some (.int .i64 0) := (blk_cell BK111.out 0).trans rfl
     have hcz14_1 : wc.cell? ⟨gb111, 1, none⟩ = some (.int .i64 0) := (blk_cell BK111.out 1).trans rfl
     have hfz14_0 := blk_frozen BK111.out 0
     have hfz14_1 := blk_frozen BK111.out 1
     go_wp2
     repeat (go_quiet (fail); try go_wp2)
     refine bodyPost_ret (results_ct rfl _ _ gb111 44 #[.int .i64 0, .int .i64 0] (0, 0) _ rfl (by (with_reducible repeat (first | refine blk_drewN ?_ _ | refine blk_drew ?_ | refine blk_alloc ?_ _)); refine blk_put (cs := #[.int .i64 0, .int .i64 0]) ?_ 1 _ rfl; (with_reducible repeat (first | refine blk_drewN ?_ _ | refine blk_drew ?_ | refine blk_alloc ?_ _)); refine blk_put (cs := #[.int .i64 0, .int .i64 0]) ?_ 0 _ rfl; (with_reducible repeat (first | refine blk_drewN ?_ _ | refine blk_drew ?_ | refine blk_alloc ?_ _)); exact BK111.out) Try.underlying44 rfl (by kernel_rfl)) rfl ?_
     exact ⟨by first | rfl | (simp [errW_none, errW_some] <;> rfl) | (simp [*, errW_none, errW_some] <;> rfl), by repeat (first | (with_reducible first | exact HB.out | apply below_alloc | apply pw_below_drewN | apply below_drew1 | refine below_set ?_ GE110.out | refine below_set ?_ GE111.out) | exact HB.out)⟩
    ·replace c12 := Bool.eq_false_iff.mpr c12
     subst c12
     have H1 : (if a0_1 ≤ a1 then (some (a0_0, a0_1, 0)) else ((whole_Div.f kj4 a0_0 a0_1).bind fun bt113 => (frac_Near.l0 kj4 a1 bt113.1 bt113.2.1 0 1 1 1 a0_0 a0_1))) = some (r1, r2, r3) := by rw [if_neg (show ¬ (false = true) by decide)] at H; exact H
     clear H
     have H := H1
     clear H1
     by_cases c15 : a0_1 ≤ a1
     ·rw [if_pos c15] at H
      have c15b0 : decide (a0_1 ≤ a1) = true := decide_eq_true c15
      clear c15
      simp only [Option.some.injEq, Prod.mk.injEq] at H
      obtain ⟨rfl, rfl, rfl⟩ := H
      have hnb16 := NB110_111.out
      have hnc16 := NB111_110.out
      have hcz17_0 : wc.cell? ⟨gb110, 0, none⟩ = some (.int .i64 a0_0) := (blk_cell BK110.out 0).trans rfl
      have hcz17_1 : wc.cell? ⟨gb110, 1, none⟩ = some (.int .i64 a0_1) := (blk_cell BK110.out 1).trans rfl
      have hfz17_0 := blk_frozen BK110.out 0
      have hfz17_1 := blk_frozen BK110.out 1
      have hcz18_0 : wc.cell? ⟨gb111, 0, none⟩ = some (.int .i64 0) := (blk_cell BK111.out 0).trans rfl
      have hcz18_1 : wc.cell? ⟨gb111, 1, none⟩ = some (.int .i64 0) := (blk_cell BK111.out 1).trans rfl
      have hfz18_0 := blk_frozen BK111.out 0
      have hfz18_1 := blk_frozen BK111.out 1
      go_wp2
      repeat (go_quiet (fail); try go_wp2)
      refine bodyPost_ret (results_ct rfl _ _ gb111 44 #[.int .i64 a0_0, .int .i64 a0_1] (0, 0) _ rfl (by (with_reducible repeat (first | refine blk_drewN ?_ _ | refine blk_drew ?_ | refine blk_alloc ?_ _)); refine blk_put (cs := #[.int .i64 a0_0, .int .i64 0]) ?_ 1 _ rfl; (with_reducible repeat (first | refine blk_drewN ?_ _ | refine blk_drew ?_ | refine blk_alloc ?_ _)); refine blk_put (cs := #[.int .i64 0, .int .i64 0]) ?_ 0 _ rfl; (with_reducible repeat (first | refine blk_drewN ?_ _ | refine blk_drew ?_ | refine blk_alloc ?_ _)); exact BK111.out) Try.underlying44 rfl (by kernel_rfl)) rfl ?_
      exact ⟨by first | rfl | (simp [errW_none, errW_some] <;> rfl) | (simp [*, errW_none, errW_some] <;> rfl), by repeat (first | (with_reducible first | exact HB.out | apply below_alloc | apply pw_below_drewN | apply below_drew1 | refine below_set ?_ GE110.out | refine below_set ?_ GE111.out) | exact HB.out)⟩
     ·rw [if_neg c15] at H
      have c15b0 : decide (a0_1 ≤ a1) = false := decide_eq_false c15
      clear c15
      replace H := Option.bind_eq_some_iff.mp H
      obtain ⟨⟨t113, t114, t115⟩, A190, H⟩ := H
      replace H : (frac_Near.l0 kj4 a1 t113 t114 0 1 1 1 a0_0 a0_1) = some (r1, r2, r3) := H
      have A19 := Aside0.mk A190
      clear A190
      have H' := Aside0.mk H
      clear H
      have hnb20 := NB110_111.out
      have hnc20 := NB111_110.out
      have hcz21_0 : wc.cell? ⟨gb110, 0, none⟩ = some (.int .i64 a0_0) := (blk_cell BK110.out 0).trans rfl
      have hcz21_1 : wc.cell? ⟨gb110, 1, none⟩ = some (.int .i64 a0_1) := (blk_cell BK110.out 1).trans rfl
      have hfz21_0 := blk_frozen BK110.out 0
      have hfz21_1 := blk_frozen BK110.out 1
      go_wp2_with (first | (go_at_call 18; (with_reducible refine (whole_Div.calls kj4 a0_0 a0_1 t113 t114 t115 _ A19.out).mono ?_); rintro e w' ⟨rfl, ⟨nd, rfl⟩⟩; (try first | exact ⟨rfl, _, World.drewN_drewN _ _ _⟩ | exact ⟨rfl, _, Eq.trans (World.drewN_drewN _ _ _) (congrArg (World.drewN _) (Nat.add_assoc _ _ _))⟩)))
      repeat (go_quiet (first | (go_at_call 18; (with_reducible refine (whole_Div.calls kj4 a0_0 a0_1 t113 t114 t115 _ A19.out).mono ?_); rintro e w' ⟨rfl, ⟨nd, rfl⟩⟩; (try first | exact ⟨rfl, _, World.drewN_drewN _ _ _⟩ | exact ⟨rfl, _, Eq.trans (World.drewN_drewN _ _ _) (congrArg (World.drewN _) (Nat.add_assoc _ _ _))⟩))); try go_wp2_with (first | (go_at_call 18; (with_reducible refine (whole_Div.calls kj4 a0_0 a0_1 t113 t114 t115 _ A19.out).mono ?_); rintro e w' ⟨rfl, ⟨nd, rfl⟩⟩; (try first | exact ⟨rfl, _, World.drewN_drewN _ _ _⟩ | exact ⟨rfl, _, Eq.trans (World.drewN_drewN _ _ _) (congrArg (World.drewN _) (Nat.add_assoc _ _ _))⟩))))
      go_loopg [10, 11, 12, 13] kj4 (fun kq v10 v11 v12 v13 w' => ∃ (x10_2 : Int) (x11_2 : Int) (x12_2 : Int) (x13_2 : Int), v10 = .int .i64 x10_2 ∧ v11 = .int .i64 x11_2 ∧ v12 = .int .i64 x12_2 ∧ v13 = .int .i64 x13_2 ∧ Aside0 (frac_Near.l0 kq a1 t113 t114 x10_2 x11_2 x12_2 x13_2 a0_0 a0_1 = some (r1, r2, r3)) ∧ Aside0 (kq ≤ kj4) ∧ Aside0 (w'.heap[gb110]? = some (.cells #[.int .i64 a0_0, .int .i64 a0_1] 44 (0, 0))) ∧ Aside0 (w'.heap[gb111]? = some (.cells #[.int .i64 0, .int .i64 0] 44 (0, 0))) ∧ Aside0 (Below w.heap.size w w'))
      case atStart => exact ⟨(0), (1), (1), (1), (by first | rfl | (simp; done) | (simp [*]; done) | (simp [bne]; done) | (simp only [i64_w, i32_w]; done) | (simp [i64_w, i32_w]; done)), (by first | rfl | (simp; done) | (simp [*]; done) | (simp [bne]; done) | (simp only [i64_w, i32_w]; done) | (simp [i64_w, i32_w]; done)), (by first | rfl | (simp; done) | (simp [*]; done) | (simp [bne]; done) | (simp only [i64_w, i32_w]; done) | (simp [i64_w, i32_w]; done)), (by first | rfl | (simp; done) | (simp [*]; done) | (simp [bne]; done) | (simp only [i64_w, i32_w]; done) | (simp [i64_w, i32_w]; done)), H', ⟨Nat.le_refl _⟩, ⟨by (with_reducible repeat (first | refine blk_drewN ?_ _ | refine blk_drew ?_ | refine blk_alloc ?_ _)); exact BK110.out⟩, ⟨by (with_reducible repeat (first | refine blk_drewN ?_ _ | refine blk_drew ?_ | refine blk_alloc ?_ _)); exact BK111.out⟩, ⟨by repeat (first | (with_reducible first | exact HB.out | apply below_alloc | apply pw_below_drewN | apply below_drew1 | refine below_set ?_ GE110.out | refine below_set ?_ GE111.out) | exact HB.out)⟩⟩
      case round =>
       clear H'
       try clear c1
       try clear c2
       try clear p2
       try clear c3
       try clear c4
       try clear c4b0
       try clear c4b1
       try clear c8
       try clear c11
       try clear c11b0
       try clear c12
       try clear c13
       try clear c15
       try clear c15b0
       try clear c16
       try clear c20
       try clear hcz14_0
       try clear hcz14_1
       try clear hcz17_0
       try clear hcz17_1
       try clear hcz18_0
       try clear hcz18_1
       try clear hcz21_0
       try clear hcz21_1
       try clear hcz9_0
       try clear hcz9_1
       try clear hfz14_0
       try clear hfz14_1
       try clear hfz17_0
       try clear hfz17_1
       try clear hfz18_0
       try clear hfz18_1
       try clear hfz21_0
       try clear hfz21_1
       try clear hfz9_0
       try clear hfz9_1
       try clear p2
       obtain ⟨x10_2, x11_2, x12_2, x13_2, rfl, rfl, rfl, rfl, HA, HK2, BK110, BK111, HB⟩ := hrel
       cases gk with
       | zero => exact absurd HA.out (by simp [frac_Near.l0])
       | succ k2 =>
        have H := HA.out
        clear HA
        simp only [frac_Near.l0] at H
        by_cases c22 : (wrap64 (x11_2 + x13_2)) ≤ a1
        ·rw [if_pos c22] at H
         have c22b0 : decide ((wrap64 (x11_2 + x13_2)) ≤ a1) = true := decide_eq_true c22
         clear c22
         by_cases c23 : (wrap64 ((wrap64 (t114 * x11_2)) - (wrap64 (x10_2 * a0_1)))) = 0
         ·rw [if_pos c23] at H
          exact absurd H (by simp)
         ·rw [if_neg c23] at H
          have c23b0 : ((wrap64 ((wrap64 (t114 * x11_2)) - (wrap64 (x10_2 * a0_1)))) == 0) = false := beq_eq_false_iff_ne.mpr c23
          have c23b1 : ((wrap64 ((wrap64 (t114 * x11_2)) - (wrap64 (x10_2 * a0_1)))) != 0) = true := bne_iff_ne.mpr c23
          by_cases c24 : x11_2 = 0
          ·rw [if_pos c24] at H
           exact absurd H (by simp)
          ·rw [if_neg c24] at H
           have c24b0 : (x11_2 == 0) = false := beq_eq_false_iff_ne.mpr c24
           have c24b1 : (x11_2 != 0) = true := bne_iff_ne.mpr c24
           obtain ⟨ji25, hji25⟩ : ∃ j_ : Int, (mn (wrap64 (Int.tdiv (wrap64 ((wrap64 ((wrap64 (x12_2 * a0_1)) - (wrap64 (t114 * x13_2)))) - 1)) (wrap64 ((wrap64 (t114 * x11_2)) - (wrap64 (x10_2 * a0_1)))))) (wrap64 (Int.tdiv (wrap64 (a1 - x13_2)) x11_2))) = j_ := ⟨_, rfl⟩
           replace H : (if (wrap64 ((wrap64 ((wrap64 (x12_2 + (wrap64 ((ji25) * x10_2)))) * a0_1)) - (wrap64 (t114 * (wrap64 (x13_2 + (wrap64 ((ji25) * x11_2)))))))) = 0 then (none) else (if (wrap64 (x13_2 + (wrap64 ((ji25) * x11_2)))) = 0 then (none) else (frac_Near.l0 k2 a1 t113 t114 (wrap64 (x10_2 + (wrap64 ((mn (wrap64 (Int.tdiv (wrap64 ((wrap64 ((wrap64 (t114 * x11_2)) - (wrap64 (x10_2 * a0_1)))) - 1)) (wrap64 ((wrap64 ((wrap64 (x12_2 + (wrap64 ((ji25) * x10_2)))) * a0_1)) - (wrap64 (t114 * (wrap64 (x13_2 + (wrap64 ((ji25) * x11_2)))))))))) (wrap64 (Int.tdiv (wrap64 (a1 - x11_2)) (wrap64 (x13_2 + (wrap64 ((ji25) * x11_2))))))) * (wrap64 (x12_2 + (wrap64 ((ji25) * x10_2)))))))) (wrap64 (x11_2 + (wrap64 ((mn (wrap64 (Int.tdiv (wrap64 ((wrap64 ((wrap64 (t114 * x11_2)) - (wrap64 (x10_2 * a0_1)))) - 1)) (wrap64 ((wrap64 ((wrap64 (x12_2 + (wrap64 ((ji25) * x10_2)))) * a0_1)) - (wrap64 (t114 * (wrap64 (x13_2 + (wrap64 ((ji25) * x11_2)))))))))) (wrap64 (Int.tdiv (wrap64 (a1 - x11_2)) (wrap64 (x13_2 + (wrap64 ((ji25) * x11_2))))))) * (wrap64 (x13_2 + (wrap64 ((ji25) * x11_2)))))))) (wrap64 (x12_2 + (wrap64 ((ji25) * x10_2)))) (wrap64 (x13_2 + (wrap64 ((ji25) * x11_2)))) a0_0 a0_1))) = some (r1, r2, r3) := by first | (rw [hji25] at H; exact H) | (simp only [hji25] at H ⊢; exact H)
           have hji25_ : (if (wrap64 (Int.tdiv (wrap64 (a1 - x13_2)) x11_2)) < (wrap64 (Int.tdiv (wrap64 ((wrap64 ((wrap64 (x12_2 * a0_1)) - (wrap64 (t114 * x13_2)))) - 1)) (wrap64 ((wrap64 (t114 * x11_2)) - (wrap64 (x10_2 * a0_1)))))) then (wrap64 (Int.tdiv (wrap64 (a1 - x13_2)) x11_2)) else (wrap64 (Int.tdiv (wrap64 ((wrap64 ((wrap64 (x12_2 * a0_1)) - (wrap64 (t114 * x13_2)))) - 1)) (wrap64 ((wrap64 (t114 * x11_2)) - (wrap64 (x10_2 * a0_1))))))) = ji25 := hji25
           by_cases c26 : (wrap64 ((wrap64 ((wrap64 (x12_2 + (wrap64 ((ji25) * x10_2)))) * a0_1)) - (wrap64 (t114 * (wrap64 (x13_2 + (wrap64 ((ji25) * x11_2)))))))) = 0
           ·rw [if_pos c26] at H
            exact absurd H (by simp)
           ·rw [if_neg c26] at H
            have c26b0 : ((wrap64 ((wrap64 ((wrap64 (x12_2 + (wrap64 ((ji25) * x10_2)))) * a0_1)) - (wrap64 (t114 * (wrap64 (x13_2 + (wrap64 ((ji25) * x11_2)))))))) == 0) = false := beq_eq_false_iff_ne.mpr c26
            have c26b1 : ((wrap64 ((wrap64 ((wrap64 (x12_2 + (wrap64 ((ji25) * x10_2)))) * a0_1)) - (wrap64 (t114 * (wrap64 (x13_2 + (wrap64 ((ji25) * x11_2)))))))) != 0) = true := bne_iff_ne.mpr c26
            by_cases c27 : (wrap64 (x13_2 + (wrap64 ((ji25) * x11_2)))) = 0
            ·rw [if_pos c27] at H
             exact absurd H (by simp)
            ·rw [if_neg c27] at H
             have c27b0 : ((wrap64 (x13_2 + (wrap64 ((ji25) * x11_2)))) == 0) = false := beq_eq_false_iff_ne.mpr c27
             have c27b1 : ((wrap64 (x13_2 + (wrap64 ((ji25) * x11_2)))) != 0) = true := bne_iff_ne.mpr c27
             obtain ⟨ji28, hji28⟩ : ∃ j_ : Int, (mn (wrap64 (Int.tdiv (wrap64 ((wrap64 ((wrap64 (t114 * x11_2)) - (wrap64 (x10_2 * a0_1)))) - 1)) (wrap64 ((wrap64 ((wrap64 (x12_2 + (wrap64 ((ji25) * x10_2)))) * a0_1)) - (wrap64 (t114 * (wrap64 (x13_2 + (wrap64 ((ji25) * x11_2)))))))))) (wrap64 (Int.tdiv (wrap64 (a1 - x11_2)) (wrap64 (x13_2 + (wrap64 ((ji25) * x11_2))))))) = j_ := ⟨_, rfl⟩
             replace H : (frac_Near.l0 k2 a1 t113 t114 (wrap64 (x10_2 + (wrap64 ((ji28) * (wrap64 (x12_2 + (wrap64 ((ji25) * x10_2)))))))) (wrap64 (x11_2 + (wrap64 ((ji28) * (wrap64 (x13_2 + (wrap64 ((ji25) * x11_2)))))))) (wrap64 (x12_2 + (wrap64 ((ji25) * x10_2)))) (wrap64 (x13_2 + (wrap64 ((ji25) * x11_2)))) a0_0 a0_1) = some (r1, r2, r3) := by first | (rw [hji28] at H; exact H) | (simp only [hji28] at H ⊢; exact H)
             have hji28_ : (if (wrap64 (Int.tdiv (wrap64 (a1 - x11_2)) (wrap64 (x13_2 + (wrap64 ((ji25) * x11_2)))))) < (wrap64 (Int.tdiv (wrap64 ((wrap64 ((wrap64 (t114 * x11_2)) - (wrap64 (x10_2 * a0_1)))) - 1)) (wrap64 ((wrap64 ((wrap64 (x12_2 + (wrap64 ((ji25) * x10_2)))) * a0_1)) - (wrap64 (t114 * (wrap64 (x13_2 + (wrap64 ((ji25) * x11_2)))))))))) then (wrap64 (Int.tdiv (wrap64 (a1 - x11_2)) (wrap64 (x13_2 + (wrap64 ((ji25) * x11_2)))))) else (wrap64 (Int.tdiv (wrap64 ((wrap64 ((wrap64 (t114 * x11_2)) - (wrap64 (x10_2 * a0_1)))) - 1)) (wrap64 ((wrap64 ((wrap64 (x12_2 + (wrap64 ((ji25) * x10_2)))) * a0_1)) - (wrap64 (t114 * (wrap64 (x13_2 + (wrap64 ((ji25) * x11_2))))))))))) = ji28 := hji28
             have H' := Aside0.mk H
             clear H
             have hnb29 := NB110_111.out
             have hnc29 := NB111_110.out
             have hcz30_0 : wr.cell? ⟨gb110, 0, none⟩ = some (.int .i64 a0_0) := (blk_cell BK110.out 0).trans rfl
             have hcz30_1 : wr.cell? ⟨gb110, 1, none⟩ = some (.int .i64 a0_1) := (blk_cell BK110.out 1).trans rfl
             have hfz30_0 := blk_frozen BK110.out 0
             have hfz30_1 := blk_frozen BK110.out 1
             go_wp2
             repeat (go_quiet (fail); try go_wp2)
             go_roundg k2
             case measure => have := HJ4.out; have := HK2.out; omega
             case rel => exact ⟨(wrap64 (x10_2 + (wrap64 ((ji28) * (wrap64 (x12_2 + (wrap64 ((ji25) * x10_2)))))))), (wrap64 (x11_2 + (wrap64 ((ji28) * (wrap64 (x13_2 + (wrap64 ((ji25) * x11_2)))))))), (wrap64 (x12_2 + (wrap64 ((ji25) * x10_2)))), (wrap64 (x13_2 + (wrap64 ((ji25) * x11_2)))), (by first | rfl | (simp; done) | (simp only [← hji25, ← hji28] <;> (first | rfl | simp)) | (simp [*]; done) | (simp [bne]; done) | (simp only [i64_w, i32_w]; done) | (simp [i64_w, i32_w]; done)), (by first | rfl | (simp; done) | (simp only [← hji25, ← hji28] <;> (first | rfl | simp)) | (simp [*]; done) | (simp [bne]; done) | (simp only [i64_w, i32_w]; done) | (simp [i64_w, i32_w]; done)), (by first | rfl | (simp; done) | (simp only [← hji25] <;> (first | rfl | simp)) | (simp [*]; done) | (simp [bne]; done) | (simp only [i64_w, i32_w]; done) | (simp [i64_w, i32_w]; done)), (by first | rfl | (simp; done) | (simp only [← hji25] <;> (first | rfl | simp)) | (simp [*]; done) | (simp [bne]; done) | (simp only [i64_w, i32_w]; done) | (simp [i64_w, i32_w]; done)), H', ⟨by have := HJ4.out; have := HK2.out; omega⟩, ⟨by (with_reducible repeat (first | refine blk_drewN ?_ _ | refine blk_drew ?_ | refine blk_alloc ?_ _)); exact BK110.out⟩, ⟨by (with_reducible repeat (first | refine blk_drewN ?_ _ | refine blk_drew ?_ | refine blk_alloc ?_ _)); exact BK111.out⟩, ⟨by repeat (first | (with_reducible first | exact HB.out | apply below_alloc | apply pw_below_drewN | apply below_drew1 | refine below_set ?_ GE110.out | refine below_set ?_ GE111.out) | exact HB.out)⟩⟩
        ·rw [if_neg c22] at H
         have c22b0 : decide ((wrap64 (x11_2 + x13_2)) ≤ a1) = false := decide_eq_false c22
         clear c22
         replace H := Option.bind_eq_some_iff.mp H
         obtain ⟨t116, A310, H⟩ := H
         replace H : (if t116 > 0 then (some (wrap64 ((wrap64 (t113 * x13_2)) + x12_2), x13_2, 0)) else (if t116 = 0 then (if x13_2 < x11_2 then (some (wrap64 ((wrap64 (t113 * x13_2)) + x12_2), x13_2, 0)) else (some (wrap64 ((wrap64 (t113 * x11_2)) + x10_2), x11_2, 0))) else (some (wrap64 ((wrap64 (t113 * x11_2)) + x10_2), x11_2, 0)))) = some (r1, r2, r3) := H
         have A31 := Aside0.mk A310
         clear A310
         by_cases c32 : t116 > 0
         ·rw [if_pos c32] at H
          have c32b0 : decide (0 < t116) = true := decide_eq_true c32
          clear c32
          simp only [Option.some.injEq, Prod.mk.injEq] at H
          obtain ⟨rfl, rfl, rfl⟩ := H
          have hnb33 := NB110_111.out
          have hnc33 := NB111_110.out
          have hcz34_0 : wr.cell? ⟨gb110, 0, none⟩ = some (.int .i64 a0_0) := (blk_cell BK110.out 0).trans rfl
          have hcz34_1 : wr.cell? ⟨gb110, 1, none⟩ = some (.int .i64 a0_1) := (blk_cell BK110.out 1).trans rfl
          have hfz34_0 := blk_frozen BK110.out 0
          have hfz34_1 := blk_frozen BK110.out 1
          go_wp2_with (first | (go_at_call 59; (with_reducible refine (frac_cmp2.calls (IntKind.u64.wrap (wrap64 ((wrap64 (t114 * x11_2)) - (wrap64 (x10_2 * a0_1))))) (IntKind.u64.wrap (x13_2)) (IntKind.u64.wrap (wrap64 ((wrap64 (x12_2 * a0_1)) - (wrap64 (t114 * x13_2))))) (IntKind.u64.wrap (x11_2)) t116 _ A31.out).mono ?_); rintro e w' ⟨rfl, ⟨nd, rfl⟩⟩; (try first | exact ⟨rfl, _, World.drewN_drewN _ _ _⟩ | exact ⟨rfl, _, Eq.trans (World.drewN_drewN _ _ _) (congrArg (World.drewN _) (Nat.add_assoc _ _ _))⟩); have hcz35_0 : wr.cell? ⟨gb111, 0, none⟩ = some (.int .i64 0) := (blk_cell BK111.out 0).trans rfl; have hcz35_1 : wr.cell? ⟨gb111, 1, none⟩ = some (.int .i64 0) := (blk_cell BK111.out 1).trans rfl; have hfz35_0 := blk_frozen BK111.out 0; have hfz35_1 := blk_frozen BK111.out 1))
          repeat (go_quiet (first | (go_at_call 59; (with_reducible refine (frac_cmp2.calls (IntKind.u64.wrap (wrap64 ((wrap64 (t114 * x11_2)) - (wrap64 (x10_2 * a0_1))))) (IntKind.u64.wrap (x13_2)) (IntKind.u64.wrap (wrap64 ((wrap64 (x12_2 * a0_1)) - (wrap64 (t114 * x13_2))))) (IntKind.u64.wrap (x11_2)) t116 _ A31.out).mono ?_); rintro e w' ⟨rfl, ⟨nd, rfl⟩⟩; (try first | exact ⟨rfl, _, World.drewN_drewN _ _ _⟩ | exact ⟨rfl, _, Eq.trans (World.drewN_drewN _ _ _) (congrArg (World.drewN _) (Nat.add_assoc _ _ _))⟩); have hcz35_0 : wr.cell? ⟨gb111, 0, none⟩ = some (.int .i64 0) := (blk_cell BK111.out 0).trans rfl; have hcz35_1 : wr.cell? ⟨gb111, 1, none⟩ = some (.int .i64 0) := (blk_cell BK111.out 1).trans rfl; have hfz35_0 := blk_frozen BK111.out 0; have hfz35_1 := blk_frozen BK111.out 1)); try go_wp2_with (first | (go_at_call 59; (with_reducible refine (frac_cmp2.calls (IntKind.u64.wrap (wrap64 ((wrap64 (t114 * x11_2)) - (wrap64 (x10_2 * a0_1))))) (IntKind.u64.wrap (x13_2)) (IntKind.u64.wrap (wrap64 ((wrap64 (x12_2 * a0_1)) - (wrap64 (t114 * x13_2))))) (IntKind.u64.wrap (x11_2)) t116 _ A31.out).mono ?_); rintro e w' ⟨rfl, ⟨nd, rfl⟩⟩; (try first | exact ⟨rfl, _, World.drewN_drewN _ _ _⟩ | exact ⟨rfl, _, Eq.trans (World.drewN_drewN _ _ _) (congrArg (World.drewN _) (Nat.add_assoc _ _ _))⟩); have hcz35_0 : wr.cell? ⟨gb111, 0, none⟩ = some (.int .i64 0) := (blk_cell BK111.out 0).trans rfl; have hcz35_1 : wr.cell? ⟨gb111, 1, none⟩ = some (.int .i64 0) := (blk_cell BK111.out 1).trans rfl; have hfz35_0 := blk_frozen BK111.out 0; have hfz35_1 := blk_frozen BK111.out 1)))
          refine bodyPost_ret (results_ct rfl _ _ gb111 44 #[.int .i64 (wrap64 ((wrap64 (t113 * x13_2)) + x12_2)), .int .i64 x13_2] (0, 0) _ rfl (by (with_reducible repeat (first | refine blk_drewN ?_ _ | refine blk_drew ?_ | refine blk_alloc ?_ _)); refine blk_put (cs := #[.int .i64 (wrap64 ((wrap64 (t113 * x13_2)) + x12_2)), .int .i64 0]) ?_ 1 _ rfl; (with_reducible repeat (first | refine blk_drewN ?_ _ | refine blk_drew ?_ | refine blk_alloc ?_ _)); refine blk_put (cs := #[.int .i64 0, .int .i64 0]) ?_ 0 _ rfl; (with_reducible repeat (first | refine blk_drewN ?_ _ | refine blk_drew ?_ | refine blk_alloc ?_ _)); exact BK111.out) Try.underlying44 rfl (by kernel_rfl)) rfl ?_
          exact ⟨by first | rfl | (simp [errW_none, errW_some] <;> rfl) | (simp [*, errW_none, errW_some] <;> rfl), by repeat (first | (with_reducible first | exact HB.out | apply below_alloc | apply pw_below_drewN | apply below_drew1 | refine below_set ?_ GE110.out | refine below_set ?_ GE111.out) | exact HB.out)⟩
         ·rw [if_neg c32] at H
          have c32b0 : decide (0 < t116) = false := decide_eq_false c32
          clear c32
          by_cases c36 : t116 = 0
          ·rw [if_pos c36] at H
           have c36b0 : (t116 == 0) = true := beq_iff_eq.mpr c36
           have c36b1 : (t116 != 0) = false := bne_eq_false_iff_eq.mpr c36
           clear c36
           by_cases c37 : x13_2 < x11_2
           ·rw [if_pos c37] at H
            have c37b0 : decide (x13_2 < x11_2) = true := decide_eq_true c37
            clear c37
            simp only [Option.some.injEq, Prod.mk.injEq] at H
            obtain ⟨rfl, rfl, rfl⟩ := H
            have hnb38 := NB110_111.out
            have hnc38 := NB111_110.out
            have hcz39_0 : wr.cell? ⟨gb110, 0, none⟩ = some (.int .i64 a0_0) := (blk_cell BK110.out 0).trans rfl
            have hcz39_1 : wr.cell? ⟨gb110, 1, none⟩ = some (.int .i64 a0_1) := (blk_cell BK110.out 1).trans rfl
            have hfz39_0 := blk_frozen BK110.out 0
            have hfz39_1 := blk_frozen BK110.out 1
            go_wp2_with (first | (go_at_call 59; (with_reducible refine (frac_cmp2.calls (IntKind.u64.wrap (wrap64 ((wrap64 (t114 * x11_2)) - (wrap64 (x10_2 * a0_1))))) (IntKind.u64.wrap (x13_2)) (IntKind.u64.wrap (wrap64 ((wrap64 (x12_2 * a0_1)) - (wrap64 (t114 * x13_2))))) (IntKind.u64.wrap (x11_2)) t116 _ A31.out).mono ?_); rintro e w' ⟨rfl, ⟨nd, rfl⟩⟩; (try first | exact ⟨rfl, _, World.drewN_drewN _ _ _⟩ | exact ⟨rfl, _, Eq.trans (World.drewN_drewN _ _ _) (congrArg (World.drewN _) (Nat.add_assoc _ _ _))⟩); have hcz40_0 : wr.cell? ⟨gb111, 0, none⟩ = some (.int .i64 0) := (blk_cell BK111.out 0).trans rfl; have hcz40_1 : wr.cell? ⟨gb111, 1, none⟩ = some (.int .i64 0) := (blk_cell BK111.out 1).trans rfl; have hfz40_0 := blk_frozen BK111.out 0; have hfz40_1 := blk_frozen BK111.out 1))
            repeat (go_quiet (first | (go_at_call 59; (with_reducible refine (frac_cmp2.calls (IntKind.u64.wrap (wrap64 ((wrap64 (t114 * x11_2)) - (wrap64 (x10_2 * a0_1))))) (IntKind.u64.wrap (x13_2)) (IntKind.u64.wrap (wrap64 ((wrap64 (x12_2 * a0_1)) - (wrap64 (t114 * x13_2))))) (IntKind.u64.wrap (x11_2)) t116 _ A31.out).mono ?_); rintro e w' ⟨rfl, ⟨nd, rfl⟩⟩; (try first | exact ⟨rfl, _, World.drewN_drewN _ _ _⟩ | exact ⟨rfl, _, Eq.trans (World.drewN_drewN _ _ _) (congrArg (World.drewN _) (Nat.add_assoc _ _ _))⟩); have hcz40_0 : wr.cell? ⟨gb111, 0, none⟩ = some (.int .i64 0) := (blk_cell BK111.out 0).trans rfl; have hcz40_1 : wr.cell? ⟨gb111, 1, none⟩ = some (.int .i64 0) := (blk_cell BK111.out 1).trans rfl; have hfz40_0 := blk_frozen BK111.out 0; have hfz40_1 := blk_frozen BK111.out 1)); try go_wp2_with (first | (go_at_call 59; (with_reducible refine (frac_cmp2.calls (IntKind.u64.wrap (wrap64 ((wrap64 (t114 * x11_2)) - (wrap64 (x10_2 * a0_1))))) (IntKind.u64.wrap (x13_2)) (IntKind.u64.wrap (wrap64 ((wrap64 (x12_2 * a0_1)) - (wrap64 (t114 * x13_2))))) (IntKind.u64.wrap (x11_2)) t116 _ A31.out).mono ?_); rintro e w' ⟨rfl, ⟨nd, rfl⟩⟩; (try first | exact ⟨rfl, _, World.drewN_drewN _ _ _⟩ | exact ⟨rfl, _, Eq.trans (World.drewN_drewN _ _ _) (congrArg (World.drewN _) (Nat.add_assoc _ _ _))⟩); have hcz40_0 : wr.cell? ⟨gb111, 0, none⟩ = some (.int .i64 0) := (blk_cell BK111.out 0).trans rfl; have hcz40_1 : wr.cell? ⟨gb111, 1, none⟩ = some (.int .i64 0) := (blk_cell BK111.out 1).trans rfl; have hfz40_0 := blk_frozen BK111.out 0; have hfz40_1 := blk_frozen BK111.out 1)))
            refine bodyPost_ret (results_ct rfl _ _ gb111 44 #[.int .i64 (wrap64 ((wrap64 (t113 * x13_2)) + x12_2)), .int .i64 x13_2] (0, 0) _ rfl (by (with_reducible repeat (first | refine blk_drewN ?_ _ | refine blk_drew ?_ | refine blk_alloc ?_ _)); refine blk_put (cs := #[.int .i64 (wrap64 ((wrap64 (t113 * x13_2)) + x12_2)), .int .i64 0]) ?_ 1 _ rfl; (with_reducible repeat (first | refine blk_drewN ?_ _ | refine blk_drew ?_ | refine blk_alloc ?_ _)); refine blk_put (cs := #[.int .i64 0, .int .i64 0]) ?_ 0 _ rfl; (with_reducible repeat (first | refine blk_drewN ?_ _ | refine blk_drew ?_ | refine blk_alloc ?_ _)); exact BK111.out) Try.underlying44 rfl (by kernel_rfl)) rfl ?_
            exact ⟨by first | rfl | (simp [errW_none, errW_some] <;> rfl) | (simp [*, errW_none, errW_some] <;> rfl), by repeat (first | (with_reducible first | exact HB.out | apply below_alloc | apply pw_below_drewN | apply below_drew1 | refine below_set ?_ GE110.out | refine below_set ?_ GE111.out) | exact HB.out)⟩
           ·rw [if_neg c37] at H
            have c37b0 : decide (x13_2 < x11_2) = false := decide_eq_false c37
            clear c37
            simp only [Option.some.injEq, Prod.mk.injEq] at H
            obtain ⟨rfl, rfl, rfl⟩ := H
            have hnb41 := NB110_111.out
            have hnc41 := NB111_110.out
            have hcz42_0 : wr.cell? ⟨gb110, 0, none⟩ = some (.int .i64 a0_0) := (blk_cell BK110.out 0).trans rfl
            have hcz42_1 : wr.cell? ⟨gb110, 1, none⟩ = some (.int .i64 a0_1) := (blk_cell BK110.out 1).trans rfl
            have hfz42_0 := blk_frozen BK110.out 0
            have hfz42_1 := blk_frozen BK110.out 1
            go_wp2_with (first | (go_at_call 59; (with_reducible refine (frac_cmp2.calls (IntKind.u64.wrap (wrap64 ((wrap64 (t114 * x11_2)) - (wrap64 (x10_2 * a0_1))))) (IntKind.u64.wrap (x13_2)) (IntKind.u64.wrap (wrap64 ((wrap64 (x12_2 * a0_1)) - (wrap64 (t114 * x13_2))))) (IntKind.u64.wrap (x11_2)) t116 _ A31.out).mono ?_); rintro e w' ⟨rfl, ⟨nd, rfl⟩⟩; (try first | exact ⟨rfl, _, World.drewN_drewN _ _ _⟩ | exact ⟨rfl, _, Eq.trans (World.drewN_drewN _ _ _) (congrArg (World.drewN _) (Nat.add_assoc _ _ _))⟩); have hcz43_0 : wr.cell? ⟨gb111, 0, none⟩ = some (.int .i64 0) := (blk_cell BK111.out 0).trans rfl; have hcz43_1 : wr.cell? ⟨gb111, 1, none⟩ = some (.int .i64 0) := (blk_cell BK111.out 1).trans rfl; have hfz43_0 := blk_frozen BK111.out 0; have hfz43_1 := blk_frozen BK111.out 1))
            repeat (go_quiet (first | (go_at_call 59; (with_reducible refine (frac_cmp2.calls (IntKind.u64.wrap (wrap64 ((wrap64 (t114 * x11_2)) - (wrap64 (x10_2 * a0_1))))) (IntKind.u64.wrap (x13_2)) (IntKind.u64.wrap (wrap64 ((wrap64 (x12_2 * a0_1)) - (wrap64 (t114 * x13_2))))) (IntKind.u64.wrap (x11_2)) t116 _ A31.out).mono ?_); rintro e w' ⟨rfl, ⟨nd, rfl⟩⟩; (try first | exact ⟨rfl, _, World.drewN_drewN _ _ _⟩ | exact ⟨rfl, _, Eq.trans (World.drewN_drewN _ _ _) (congrArg (World.drewN _) (Nat.add_assoc _ _ _))⟩); have hcz43_0 : wr.cell? ⟨gb111, 0, none⟩ = some (.int .i64 0) := (blk_cell BK111.out 0).trans rfl; have hcz43_1 : wr.cell? ⟨gb111, 1, none⟩ = some (.int .i64 0) := (blk_cell BK111.out 1).trans rfl; have hfz43_0 := blk_frozen BK111.out 0; have hfz43_1 := blk_frozen BK111.out 1)); try go_wp2_with (first | (go_at_call 59; (with_reducible refine (frac_cmp2.calls (IntKind.u64.wrap (wrap64 ((wrap64 (t114 * x11_2)) - (wrap64 (x10_2 * a0_1))))) (IntKind.u64.wrap (x13_2)) (IntKind.u64.wrap (wrap64 ((wrap64 (x12_2 * a0_1)) - (wrap64 (t114 * x13_2))))) (IntKind.u64.wrap (x11_2)) t116 _ A31.out).mono ?_); rintro e w' ⟨rfl, ⟨nd, rfl⟩⟩; (try first | exact ⟨rfl, _, World.drewN_drewN _ _ _⟩ | exact ⟨rfl, _, Eq.trans (World.drewN_drewN _ _ _) (congrArg (World.drewN _) (Nat.add_assoc _ _ _))⟩); have hcz43_0 : wr.cell? ⟨gb111, 0, none⟩ = some (.int .i64 0) := (blk_cell BK111.out 0).trans rfl; have hcz43_1 : wr.cell? ⟨gb111, 1, none⟩ = some (.int .i64 0) := (blk_cell BK111.out 1).trans rfl; have hfz43_0 := blk_frozen BK111.out 0; have hfz43_1 := blk_frozen BK111.out 1)))
            refine bodyPost_ret (results_ct rfl _ _ gb111 44 #[.int .i64 (wrap64 ((wrap64 (t113 * x11_2)) + x10_2)), .int .i64 x11_2] (0, 0) _ rfl (by (with_reducible repeat (first | refine blk_drewN ?_ _ | refine blk_drew ?_ | refine blk_alloc ?_ _)); refine blk_put (cs := #[.int .i64 (wrap64 ((wrap64 (t113 * x11_2)) + x10_2)), .int .i64 0]) ?_ 1 _ rfl; (with_reducible repeat (first | refine blk_drewN ?_ _ | refine blk_drew ?_ | refine blk_alloc ?_ _)); refine blk_put (cs := #[.int .i64 0, .int .i64 0]) ?_ 0 _ rfl; (with_reducible repeat (first | refine blk_drewN ?_ _ | refine blk_drew ?_ | refine blk_alloc ?_ _)); exact BK111.out) Try.underlying44 rfl (by kernel_rfl)) rfl ?_
            exact ⟨by first | rfl | (simp [errW_none, errW_some] <;> rfl) | (simp [*, errW_none, errW_some] <;> rfl), by repeat (first | (with_reducible first | exact HB.out | apply below_alloc | apply pw_below_drewN | apply below_drew1 | refine below_set ?_ GE110.out | refine below_set ?_ GE111.out) | exact HB.out)⟩
          ·rw [if_neg c36] at H
           have c36b0 : (t116 == 0) = false := beq_eq_false_iff_ne.mpr c36
           have c36b1 : (t116 != 0) = true := bne_iff_ne.mpr c36
           simp only [Option.some.injEq, Prod.mk.injEq] at H
           obtain ⟨rfl, rfl, rfl⟩ := H
           have hnb44 := NB110_111.out
           have hnc44 := NB111_110.out
           have hcz45_0 : wr.cell? ⟨gb110, 0, none⟩ = some (.int .i64 a0_0) := (blk_cell BK110.out 0).trans rfl
           have hcz45_1 : wr.cell? ⟨gb110, 1, none⟩ = some (.int .i64 a0_1) := (blk_cell BK110.out 1).trans rfl
           have hfz45_0 := blk_frozen BK110.out 0
           have hfz45_1 := blk_frozen BK110.out 1
           go_wp2_with (first | (go_at_call 59; (with_reducible refine (frac_cmp2.calls (IntKind.u64.wrap (wrap64 ((wrap64 (t114 * x11_2)) - (wrap64 (x10_2 * a0_1))))) (IntKind.u64.wrap (x13_2)) (IntKind.u64.wrap (wrap64 ((wrap64 (x12_2 * a0_1)) - (wrap64 (t114 * x13_2))))) (IntKind.u64.wrap (x11_2)) t116 _ A31.out).mono ?_); rintro e w' ⟨rfl, ⟨nd, rfl⟩⟩; (try first | exact ⟨rfl, _, World.drewN_drewN _ _ _⟩ | exact ⟨rfl, _, Eq.trans (World.drewN_drewN _ _ _) (congrArg (World.drewN _) (Nat.add_assoc _ _ _))⟩); have hcz46_0 : wr.cell? ⟨gb111, 0, none⟩ = some (.int .i64 0) := (blk_cell BK111.out 0).trans rfl; have hcz46_1 : wr.cell? ⟨gb111, 1, none⟩ = some (.int .i64 0) := (blk_cell BK111.out 1).trans rfl; have hfz46_0 := blk_frozen BK111.out 0; have hfz46_1 := blk_frozen BK111.out 1))
           repeat (go_quiet (first | (go_at_call 59; (with_reducible refine (frac_cmp2.calls (IntKind.u64.wrap (wrap64 ((wrap64 (t114 * x11_2)) - (wrap64 (x10_2 * a0_1))))) (IntKind.u64.wrap (x13_2)) (IntKind.u64.wrap (wrap64 ((wrap64 (x12_2 * a0_1)) - (wrap64 (t114 * x13_2))))) (IntKind.u64.wrap (x11_2)) t116 _ A31.out).mono ?_); rintro e w' ⟨rfl, ⟨nd, rfl⟩⟩; (try first | exact ⟨rfl, _, World.drewN_drewN _ _ _⟩ | exact ⟨rfl, _, Eq.trans (World.drewN_drewN _ _ _) (congrArg (World.drewN _) (Nat.add_assoc _ _ _))⟩); have hcz46_0 : wr.cell? ⟨gb111, 0, none⟩ = some (.int .i64 0) := (blk_cell BK111.out 0).trans rfl; have hcz46_1 : wr.cell? ⟨gb111, 1, none⟩ = some (.int .i64 0) := (blk_cell BK111.out 1).trans rfl; have hfz46_0 := blk_frozen BK111.out 0; have hfz46_1 := blk_frozen BK111.out 1)); try go_wp2_with (first | (go_at_call 59; (with_reducible refine (frac_cmp2.calls (IntKind.u64.wrap (wrap64 ((wrap64 (t114 * x11_2)) - (wrap64 (x10_2 * a0_1))))) (IntKind.u64.wrap (x13_2)) (IntKind.u64.wrap (wrap64 ((wrap64 (x12_2 * a0_1)) - (wrap64 (t114 * x13_2))))) (IntKind.u64.wrap (x11_2)) t116 _ A31.out).mono ?_); rintro e w' ⟨rfl, ⟨nd, rfl⟩⟩; (try first | exact ⟨rfl, _, World.drewN_drewN _ _ _⟩ | exact ⟨rfl, _, Eq.trans (World.drewN_drewN _ _ _) (congrArg (World.drewN _) (Nat.add_assoc _ _ _))⟩); have hcz46_0 : wr.cell? ⟨gb111, 0, none⟩ = some (.int .i64 0) := (blk_cell BK111.out 0).trans rfl; have hcz46_1 : wr.cell? ⟨gb111, 1, none⟩ = some (.int .i64 0) := (blk_cell BK111.out 1).trans rfl; have hfz46_0 := blk_frozen BK111.out 0; have hfz46_1 := blk_frozen BK111.out 1)))
           refine bodyPost_ret (results_ct rfl _ _ gb111 44 #[.int .i64 (wrap64 ((wrap64 (t113 * x11_2)) + x10_2)), .int .i64 x11_2] (0, 0) _ rfl (by (with_reducible repeat (first | refine blk_drewN ?_ _ | refine blk_drew ?_ | refine blk_alloc ?_ _)); refine blk_put (cs := #[.int .i64 (wrap64 ((wrap64 (t113 * x11_2)) + x10_2)), .int .i64 0]) ?_ 1 _ rfl; (with_reducible repeat (first | refine blk_drewN ?_ _ | refine blk_drew ?_ | refine blk_alloc ?_ _)); refine blk_put (cs := #[.int .i64 0, .int .i64 0]) ?_ 0 _ rfl; (with_reducible repeat (first | refine blk_drewN ?_ _ | refine blk_drew ?_ | refine blk_alloc ?_ _)); exact BK111.out) Try.underlying44 rfl (by kernel_rfl)) rfl ?_
           exact ⟨by first | rfl | (simp [errW_none, errW_some] <;> rfl) | (simp [*, errW_none, errW_some] <;> rfl), by repeat (first | (with_reducible first | exact HB.out | apply below_alloc | apply pw_below_drewN | apply below_drew1 | refine below_set ?_ GE110.out | refine below_set ?_ GE111.out) | exact HB.out)⟩
 ·rw [if_neg c4] at H
  have c4b0 : (t112 == 0) = false := beq_eq_false_iff_ne.mpr c4
  have c4b1 : (t112 != 0) = true := bne_iff_ne.mpr c4
  simp only [Option.some.injEq, Prod.mk.injEq] at H
  obtain ⟨rfl, rfl, rfl⟩ := H
  go_enter Try.func38, Try.ntmps38
  go_wp2_with (first | ((with_reducible refine gate_dst (N := 2) rfl ?_); refine box_event ?hg (N := 2) ?hd (cs := #[.int .i64 a0_0, .int .i64 a0_1]) (t := 44) ?hr ?_; (case hd => rfl); (case hg => rfl); (case hr => first | (go_simp; done) | (go_simp; rfl)); intro gb110 hg w47 hbox hb; have n0_ := Aside0.mk (below_step (by repeat (first | (with_reducible first | exact HB.out | apply below_alloc | apply pw_below_drewN | apply below_drew1) | exact HB.out)) hb); have n1_ := Aside0.mk (hbox); have n2_ := Aside0.mk ((by rw [hg]; exact (below_size (by repeat (first | (with_reducible first | exact HB.out | apply below_alloc | apply pw_below_drewN | apply below_drew1) | exact HB.out))) : w.heap.size ≤ gb110)); have n3_ := n2_; clear HB; have HB := n0_; have BK110 := n1_; have GW110 := n2_; have GE110 := n3_; clear n0_ n1_ n2_ n3_; clear hb hbox hg) | ((with_reducible refine gate_dst (N := 4) rfl ?_); refine box_event ?hg (N := 4) ?hd (cs := #[.int .i64 0, .int .i64 0]) (t := 44) ?hr ?_; (case hd => rfl); (case hg => rfl); (case hr => first | (go_simp; done) | (go_simp; rfl)); intro gb111 hg w48 hbox hb; have n0_ := bb_ BK110 hb; have n1_ := Aside0.mk (below_step (by repeat (first | (with_reducible first | exact HB.out | apply below_alloc | apply pw_below_drewN | apply below_drew1 | refine below_set ?_ GE110.out) | exact HB.out)) hb); have n2_ := Aside0.mk (hbox); have n3_ := Aside0.mk ((by rw [hg]; exact (below_size (by repeat (first | (with_reducible first | exact HB.out | apply below_alloc | apply pw_below_drewN | apply below_drew1 | refine below_set ?_ GE110.out) | exact HB.out))) : w.heap.size ≤ gb111)); have n4_ := n3_; have n5_ := bl_ BK110 hg; have n6_ := bg_ BK110 hg; clear BK110; clear HB; have BK110 := n0_; have HB := n1_; have BK111 := n2_; have GW111 := n3_; have GE111 := n4_; have NB110_111 := n5_; have NB111_110 := n6_; clear n0_ n1_ n2_ n3_ n4_ n5_ n6_; clear hb hbox hg; have hnb49 := NB110_111.out; have hnc49 := NB111_110.out; have hcz50_0 : w48.cell? ⟨gb110, 0, none⟩ = some (.int .i64 a0_0) := (blk_cell BK110.out 0).trans rfl; have hcz50_1 : w48.cell? ⟨gb110, 1, none⟩ = some (.int .i64 a0_1) := (blk_cell BK110.out 1).trans rfl; have hfz50_0 := blk_frozen BK110.out 0; have hfz50_1 := blk_frozen BK110.out 1) | (go_at_call 58; (with_reducible refine (frac_Check.calls k a0_0 a0_1 t112 _ A3.out).mono ?_); rintro e w51 ⟨rfl, hb⟩; have n0_ := bb_ BK110 hb; have n1_ := bb_ BK111 hb; have n2_ := Aside0.mk (below_step (by repeat (first | (with_reducible first | exact HB.out | apply below_alloc | apply pw_below_drewN | apply below_drew1 | refine below_set ?_ GE110.out | refine below_set ?_ GE111.out) | exact HB.out)) hb); clear BK110; clear BK111; clear HB; have BK110 := n0_; have BK111 := n1_; have HB := n2_; clear n0_ n1_ n2_; (try clear hb); (try clear hb2); (try clear hk); (try clear hi); have hcz52_0 : w51.cell? ⟨gb111, 0, none⟩ = some (.int .i64 0) := (blk_cell BK111.out 0).trans rfl; have hcz52_1 : w51.cell? ⟨gb111, 1, none⟩ = some (.int .i64 0) := (blk_cell BK111.out 1).trans rfl; have hfz52_0 := blk_frozen BK111.out 0; have hfz52_1 := blk_frozen BK111.out 1))
  repeat (go_quiet (first | ((with_reducible refine gate_dst (N := 2) rfl ?_); refine box_event ?hg (N := 2) ?hd (cs := #[.int .i64 a0_0, .int .i64 a0_1]) (t := 44) ?hr ?_; (case hd => rfl); (case hg => rfl); (case hr => first | (go_simp; done) | (go_simp; rfl)); intro gb110 hg w47 hbox hb; have n0_ := Aside0.mk (below_step (by repeat (first | (with_reducible first | exact HB.out | apply below_alloc | apply pw_below_drewN | apply below_drew1) | exact HB.out)) hb); have n1_ := Aside0.mk (hbox); have n2_ := Aside0.mk ((by rw [hg]; exact (below_size (by repeat (first | (with_reducible first | exact HB.out | apply below_alloc | apply pw_below_drewN | apply below_drew1) | exact HB.out))) : w.heap.size ≤ gb110)); have n3_ := n2_; clear HB; have HB := n0_; have BK110 := n1_; have GW110 := n2_; have GE110 := n3_; clear n0_ n1_ n2_ n3_; clear hb hbox hg) | ((with_reducible refine gate_dst (N := 4) rfl ?_); refine box_event ?hg (N := 4) ?hd (cs := #[.int .i64 0, .int .i64 0]) (t := 44) ?hr ?_; (case hd => rfl); (case hg => rfl); (case hr => first | (go_simp; done) | (go_simp; rfl)); intro gb111 hg w48 hbox hb; have n0_ := bb_ BK110 hb; have n1_ := Aside0.mk (below_step (by repeat (first | (with_reducible first | exact HB.out | apply below_alloc | apply pw_below_drewN | apply below_drew1 | refine below_set ?_ GE110.out) | exact HB.out)) hb); have n2_ := Aside0.mk (hbox); have n3_ := Aside0.mk ((by rw [hg]; exact (below_size (by repeat (first | (with_reducible first | exact HB.out | apply below_alloc | apply pw_below_drewN | apply below_drew1 | refine below_set ?_ GE110.out) | exact HB.out))) : w.heap.size ≤ gb111)); have n4_ := n3_; have n5_ := bl_ BK110 hg; have n6_ := bg_ BK110 hg; clear BK110; clear HB; have BK110 := n0_; have HB := n1_; have BK111 := n2_; have GW111 := n3_; have GE111 := n4_; have NB110_111 := n5_; have NB111_110 := n6_; clear n0_ n1_ n2_ n3_ n4_ n5_ n6_; clear hb hbox hg; have hnb49 := NB110_111.out; have hnc49 := NB111_110.out; have hcz50_0 : w48.cell? ⟨gb110, 0, none⟩ = some (.int .i64 a0_0) := (blk_cell BK110.out 0).trans rfl; have hcz50_1 : w48.cell? ⟨gb110, 1, none⟩ = some (.int .i64 a0_1) := (blk_cell BK110.out 1).trans rfl; have hfz50_0 := blk_frozen BK110.out 0; have hfz50_1 := blk_frozen BK110.out 1) | (go_at_call 58; (with_reducible refine (frac_Check.calls k a0_0 a0_1 t112 _ A3.out).mono ?_); rintro e w51 ⟨rfl, hb⟩; have n0_ := bb_ BK110 hb; have n1_ := bb_ BK111 hb; have n2_ := Aside0.mk (below_step (by repeat (first | (with_reducible first | exact HB.out | apply below_alloc | apply pw_below_drewN | apply below_drew1 | refine below_set ?_ GE110.out | refine below_set ?_ GE111.out) | exact HB.out)) hb); clear BK110; clear BK111; clear HB; have BK110 := n0_; have BK111 := n1_; have HB := n2_; clear n0_ n1_ n2_; (try clear hb); (try clear hb2); (try clear hk); (try clear hi); have hcz52_0 : w51.cell? ⟨gb111, 0, none⟩ = some (.int .i64 0) := (blk_cell BK111.out 0).trans rfl; have hcz52_1 : w51.cell? ⟨gb111, 1, none⟩ = some (.int .i64 0) := (blk_cell BK111.out 1).trans rfl; have hfz52_0 := blk_frozen BK111.out 0; have hfz52_1 := blk_frozen BK111.out 1)); try go_wp2_with (first | ((with_reducible refine gate_dst (N := 2) rfl ?_); refine box_event ?hg (N := 2) ?hd (cs := #[.int .i64 a0_0, .int .i64 a0_1]) (t := 44) ?hr ?_; (case hd => rfl); (case hg => rfl); (case hr => first | (go_simp; done) | (go_simp; rfl)); intro gb110 hg w47 hbox hb; have n0_ := Aside0.mk (below_step (by repeat (first | (with_reducible first | exact HB.out | apply below_alloc | apply pw_below_drewN | apply below_drew1) | exact HB.out)) hb); have n1_ := Aside0.mk (hbox); have n2_ := Aside0.mk ((by rw [hg]; exact (below_size (by repeat (first | (with_reducible first | exact HB.out | apply below_alloc | apply pw_below_drewN | apply below_drew1) | exact HB.out))) : w.heap.size ≤ gb110)); have n3_ := n2_; clear HB; have HB := n0_; have BK110 := n1_; have GW110 := n2_; have GE110 := n3_; clear n0_ n1_ n2_ n3_; clear hb hbox hg) | ((with_reducible refine gate_dst (N := 4) rfl ?_); refine box_event ?hg (N := 4) ?hd (cs := #[.int .i64 0, .int .i64 0]) (t := 44) ?hr ?_; (case hd => rfl); (case hg => rfl); (case hr => first | (go_simp; done) | (go_simp; rfl)); intro gb111 hg w48 hbox hb; have n0_ := bb_ BK110 hb; have n1_ := Aside0.mk (below_step (by repeat (first | (with_reducible first | exact HB.out | apply below_alloc | apply pw_below_drewN | apply below_drew1 | refine below_set ?_ GE110.out) | exact HB.out)) hb); have n2_ := Aside0.mk (hbox); have n3_ := Aside0.mk ((by rw [hg]; exact (below_size (by repeat (first | (with_reducible first | exact HB.out | apply below_alloc | apply pw_below_drewN | apply below_drew1 | refine below_set ?_ GE110.out) | exact HB.out))) : w.heap.size ≤ gb111)); have n4_ := n3_; have n5_ := bl_ BK110 hg; have n6_ := bg_ BK110 hg; clear BK110; clear HB; have BK110 := n0_; have HB := n1_; have BK111 := n2_; have GW111 := n3_; have GE111 := n4_; have NB110_111 := n5_; have NB111_110 := n6_; clear n0_ n1_ n2_ n3_ n4_ n5_ n6_; clear hb hbox hg; have hnb49 := NB110_111.out; have hnc49 := NB111_110.out; have hcz50_0 : w48.cell? ⟨gb110, 0, none⟩ = some (.int .i64 a0_0) := (blk_cell BK110.out 0).trans rfl; have hcz50_1 : w48.cell? ⟨gb110, 1, none⟩ = some (.int .i64 a0_1) := (blk_cell BK110.out 1).trans rfl; have hfz50_0 := blk_frozen BK110.out 0; have hfz50_1 := blk_frozen BK110.out 1) | (go_at_call 58; (with_reducible refine (frac_Check.calls k a0_0 a0_1 t112 _ A3.out).mono ?_); rintro e w51 ⟨rfl, hb⟩; have n0_ := bb_ BK110 hb; have n1_ := bb_ BK111 hb; have n2_ := Aside0.mk (below_step (by repeat (first | (with_reducible first | exact HB.out | apply below_alloc | apply pw_below_drewN | apply below_drew1 | refine below_set ?_ GE110.out | refine below_set ?_ GE111.out) | exact HB.out)) hb); clear BK110; clear BK111; clear HB; have BK110 := n0_; have BK111 := n1_; have HB := n2_; clear n0_ n1_ n2_; (try clear hb); (try clear hb2); (try clear hk); (try clear hi); have hcz52_0 : w51.cell? ⟨gb111, 0, none⟩ = some (.int .i64 0) := (blk_cell BK111.out 0).trans rfl; have hcz52_1 : w51.cell? ⟨gb111, 1, none⟩ = some (.int .i64 0) := (blk_cell BK111.out 1).trans rfl; have hfz52_0 := blk_frozen BK111.out 0; have hfz52_1 := blk_frozen BK111.out 1)))
  refine bodyPost_ret (results_ct rfl _ _ gb111 44 #[.int .i64 0, .int .i64 0] (0, 0) _ rfl (by (with_reducible repeat (first | refine blk_drewN ?_ _ | refine blk_drew ?_ | refine blk_alloc ?_ _)); refine blk_put (cs := #[.int .i64 0, .int .i64 0]) ?_ 1 _ rfl; (with_reducible repeat (first | refine blk_drewN ?_ _ | refine blk_drew ?_ | refine blk_alloc ?_ _)); refine blk_put (cs := #[.int .i64 0, .int .i64 0]) ?_ 0 _ rfl; (with_reducible repeat (first | refine blk_drewN ?_ _ | refine blk_drew ?_ | refine blk_alloc ?_ _)); exact BK111.out) Try.underlying44 rfl (by kernel_rfl)) rfl ?_
  exact ⟨by first | rfl | (simp [errW_none, errW_some] <;> rfl) | (simp [*, errW_none, errW_some] <;> rfl), by repeat (first | (with_reducible first | exact HB.out | apply below_alloc | apply pw_below_drewN | apply below_drew1 | refine below_set ?_ GE110.out | refine below_set ?_ GE111.out) | exact HB.out)⟩

end Go.Proofs.Ytboddbgmgcjppaa.QFracNearest
