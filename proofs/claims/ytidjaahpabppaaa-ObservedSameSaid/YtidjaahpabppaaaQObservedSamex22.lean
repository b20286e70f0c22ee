import Derived.Test.YtidjaahpabppaaaFar
import Derived.Test.YtidjaahpabppaaaQObservedSamex0
import Derived.Test.YtidjaahpabppaaaQObservedSamex1
import Derived.Test.YtidjaahpabppaaaQObservedSamex7
import Derived.Test.YtidjaahpabppaaaQObservedSamex14
import Derived.Test.YtidjaahpabppaaaQObservedSamex21
namespace Go.Proofs.Ytidjaahpabppaaa.QObservedSame
open Go.RowKit Go.Proofs.YtidjaahpabppaaaW.PrintWords Go.Proofs.YtidjaahpabppaaaW.PrintLast Go.Proofs.YtidjaahpabppaaaW.PrintMore Go.Proofs.YtidjaahpabppaaaFar
attribute [local go_sem] max2_int min2_int max_two min_two max_three min_three max_four min_four
set_option linter.unusedVariables false
set_option linter.unusedSimpArgs false

/-! ### lunisolar_FromDay: function 20 -/
mutual
def lunisolar_FromDay.j0 : Nat → Int → Int → Int → Bool → ByteArray → Int → Int → Int → Int → Int → Int → Int → Int → List Int → List Int → Option (Int × Int × Int × Int)
 | 0, _, _, _, _, _, _, _, _, _, _, _, _, _, _, _ => none
 | k + 1, x1, x7, x8, x32, x205000, x205001, x205002, x205003, x205004, x205005, x205006, x205007, x205008, x205009, x205010 => if x32 = true then (some (0, 0, 0, 3)) else (lunisolar_FromDay.l0 k x1 x7 x8 x205000 x205001 x205002 x205003 x205004 x205005 x205006 x205007 x205008 x205009 x205010)
def lunisolar_FromDay.l0 : Nat → Int → Int → Int → ByteArray → Int → Int → Int → Int → Int → Int → Int → Int → List Int → List Int → Option (Int × Int × Int × Int)
 | 0, _, _, _, _, _, _, _, _, _, _, _, _, _, _ => none
 | k + 1, x1, x7, x8, x205000, x205001, x205002, x205003, x205004, x205005, x205006, x205007, x205008, x205009, x205010 => if (wrap64 (x8 - x7)) > 1 then ((lunisolar_start.f k x205000 x205001 x205002 x205003 x205004 x205005 x205006 x205007 x205008 x205009 x205010 (wrap64 (x7 + (wrap64 (Int.tdiv (wrap64 (x8 - x7)) 2)))) 1).bind fun t210 => (if t210 ≤ x1 then (lunisolar_FromDay.l0 k x1 (wrap64 (x7 + (wrap64 (Int.tdiv (wrap64 (x8 - x7)) 2)))) x8 x205000 x205001 x205002 x205003 x205004 x205005 x205006 x205007 x205008 x205009 x205010) else (lunisolar_FromDay.l0 k x1 x7 (wrap64 (x7 + (wrap64 (Int.tdiv (wrap64 (x8 - x7)) 2)))) x205000 x205001 x205002 x205003 x205004 x205005 x205006 x205007 x205008 x205009 x205010))) else (lunisolar_FromDay.l1 k x1 x7 1 x205000 x205001 x205002 x205003 x205004 x205005 x205006 x205007 x205008 x205009 x205010)
def lunisolar_FromDay.l1 : Nat → Int → Int → Int → ByteArray → Int → Int → Int → Int → Int → Int → Int → Int → List Int → List Int → Option (Int × Int × Int × Int)
 | 0, _, _, _, _, _, _, _, _, _, _, _, _, _, _ => none
 | k + 1, x1, x7, x10, x205000, x205001, x205002, x205003, x205004, x205005, x205006, x205007, x205008, x205009, x205010 => (lunisolar_next.f k x205000 x205001 x205002 x205003 x205004 x205005 x205006 x205007 x205008 x205009 x205010 x7 x10).bind fun t211 => (if t211 ≤ x1 then (lunisolar_FromDay.l1 k x1 x7 (wrap64 (x10 + 1)) x205000 x205001 x205002 x205003 x205004 x205005 x205006 x205007 x205008 x205009 x205010) else ((lunisolar_start.f k x205000 x205001 x205002 x205003 x205004 x205005 x205006 x205007 x205008 x205009 x205010 x7 x10).bind fun t212 => (some (x7, x10, wrap64 ((wrap64 (x1 - t212)) + 1), 0))))
end
def lunisolar_FromDay.f (k : Nat) (a0_0 : ByteArray) (a0_1 : Int) (a0_2 : Int) (a0_3 : Int) (a0_4 : Int) (a0_5 : Int) (a0_6 : Int) (a0_7 : Int) (a0_8 : Int) (l0_9 : List Int) (l0_10 : List Int) (a1 : Int) : Option (Int × Int × Int × Int) := (lunisolar_Check.f k a0_0 a0_1 a0_2 a0_3 a0_4 a0_5 a0_6 a0_7 a0_8 l0_9 l0_10).bind fun t206 => (if t206 = 0 then ((line_Check.f a1).bind fun t207 => (if t207 = 0 then ((lunisolar_start.f k a0_0 a0_1 a0_2 a0_3 a0_4 a0_5 a0_6 a0_7 a0_8 l0_9 l0_10 (-9999) 1).bind fun t208 => (if t208 > a1 then (lunisolar_FromDay.j0 k a1 (-9999) 10000 true a0_0 a0_1 a0_2 a0_3 a0_4 a0_5 a0_6 a0_7 a0_8 l0_9 l0_10) else ((lunisolar_start.f k a0_0 a0_1 a0_2 a0_3 a0_4 a0_5 a0_6 a0_7 a0_8 l0_9 l0_10 10000 1).bind fun t209 => (lunisolar_FromDay.j0 k a1 (-9999) 10000 (decide (t209 ≤ a1)) a0_0 a0_1 a0_2 a0_3 a0_4 a0_5 a0_6 a0_7 a0_8 l0_9 l0_10)))) else (some (0, 0, 0, 3)))) else (some (0, 0, 0, t206)))
theorem lunisolar_FromDay.mono_l : ∀ k, (∀ y0 y1 y2 y3 y4 y5 y6 y7 y8 y9 y10 y11 y12 y13 y14, LeO (lunisolar_FromDay.j0 k y0 y1 y2 y3 y4 y5 y6 y7 y8 y9 y10 y11 y12 y13 y14) (lunisolar_FromDay.j0 (k + 1) y0 y1 y2 y3 y4 y5 y6 y7 y8 y9 y10 y11 y12 y13 y14)) ∧ (∀ y0 y1 y2 y3 y4 y5 y6 y7 y8 y9 y10 y11 y12 y13, LeO (lunisolar_FromDay.l0 k y0 y1 y2 y3 y4 y5 y6 y7 y8 y9 y10 y11 y12 y13) (lunisolar_FromDay.l0 (k + 1) y0 y1 y2 y3 y4 y5 y6 y7 y8 y9 y10 y11 y12 y13)) ∧ (∀ y0 y1 y2 y3 y4 y5 y6 y7 y8 y9 y10 y11 y12 y13, LeO (lunisolar_FromDay.l1 k y0 y1 y2 y3 y4 y5 y6 y7 y8 y9 y10 y11 y12 y13) (lunisolar_FromDay.l1 (k + 1) y0 y1 y2 y3 y4 y5 y6 y7 y8 y9 y10 y11 y12 y13))
 | 0 => ⟨fun _ _ _ _ _ _ _ _ _ _ _ _ _ _ _ r h => by simp [lunisolar_FromDay.j0] at h, fun _ _ _ _ _ _ _ _ _ _ _ _ _ _ r h => by simp [lunisolar_FromDay.l0] at h, fun _ _ _ _ _ _ _ _ _ _ _ _ _ _ r h => by simp [lunisolar_FromDay.l1] at h⟩
 | k + 1 => by
  obtain ⟨ih0, ih1, ih2⟩ := lunisolar_FromDay.mono_l k
  refine ⟨?_, ?_, ?_⟩
  ·intro y0 y1 y2 y3 y4 y5 y6 y7 y8 y9 y10 y11 y12 y13 y14
   unfold lunisolar_FromDay.j0
   repeat' first
   | (with_reducible exact ih0 _ _ _ _ _ _ _ _ _ _ _ _ _ _ _)
   | (with_reducible exact ih1 _ _ _ _ _ _ _ _ _ _ _ _ _ _)
   | (with_reducible exact ih2 _ _ _ _ _ _ _ _ _ _ _ _ _ _)
   | (with_reducible exact lunisolar_Check.mono _ _ _ _ _ _ _ _ _ _ _ _)
   | (with_reducible exact lunisolar_next.mono _ _ _ _ _ _ _ _ _ _ _ _ _ _)
   | (with_reducible exact lunisolar_start.mono _ _ _ _ _ _ _ _ _ _ _ _ _ _)
   | (with_reducible exact LeO.refl _)
   | (with_reducible exact LeO.none _)
   | (with_reducible refine LeO.ite ?_ ?_)
   | (with_reducible refine LeO.bind ?_ (fun _ => ?_))
   | exact ih0 _ _ _ _ _ _ _ _ _ _ _ _ _ _ _
   | exact ih1 _ _ _ _ _ _ _ _ _ _ _ _ _ _
   | exact ih2 _ _ _ _ _ _ _ _ _ _ _ _ _ _
   | exact lunisolar_Check.mono _ _ _ _ _ _ _ _ _ _ _ _
   | exact lunisolar_next.mono _ _ _ _ _ _ _ _ _ _ _ _ _ _
   | exact lunisolar_start.mono _ _ _ _ _ _ _ _ _ _ _ _ _ _
   | exact LeO.none _
   | refine LeO.ite ?_ ?_
   | refine LeO.bind ?_ (fun _ => ?_)
  ·intro y0 y1 y2 y3 y4 y5 y6 y7 y8 y9 y10 y11 y12 y13
   unfold lunisolar_FromDay.l0
   repeat' first
   | (with_reducible exact ih0 _ _ _ _ _ _ _ _ _ _ _ _ _ _ _)
   | (with_reducible exact ih1 _ _ _ _ _ _ _ _ _ _ _ _ _ _)
   | (with_reducible exact ih2 _ _ _ _ _ _ _ _ _ _ _ _ _ _)
   | (with_reducible exact lunisolar_Check.mono _ _ _ _ _ _ _ _ _ _ _ _)
   | (with_reducible exact lunisolar_next.mono _ _ _ _ _ _ _ _ _ _ _ _ _ _)
   | (with_reducible exact lunisolar_start.mono _ _ _ _ _ _ _ _ _ _ _ _ _ _)
   | (with_reducible exact LeO.refl _)
   | (with_reducible exact LeO.none _)
   | (with_reducible refine LeO.ite ?_ ?_)
   | (with_reducible refine LeO.bind ?_ (fun _ => ?_))
   | exact ih0 _ _ _ _ _ _ _ _ _ _ _ _ _ _ _
   | exact ih1 _ _ _ _ _ _ _ _ _ _ _ _ _ _
   | exact ih2 _ _ _ _ _ _ _ _ _ _ _ _ _ _
   | exact lunisolar_Check.mono _ _ _ _ _ _ _ _ _ _ _ _
   | exact lunisolar_next.mono _ _ _ _ _ _ _ _ _ _ _ _ _ _
   | exact lunisolar_start.mono _ _ _ _ _ _ _ _ _ _ _ _ _ _
   | exact LeO.none _
   | refine LeO.ite ?_ ?_
   | refine LeO.bind ?_ (fun _ => ?_)
  ·intro y0 y1 y2 y3 y4 y5 y6 y7 y8 y9 y10 y11 y12 y13
   unfold lunisolar_FromDay.l1
   repeat' first
   | (with_reducible exact ih0 _ _ _ _ _ _ _ _ _ _ _ _ _ _ _)
   | (with_reducible exact ih1 _ _ _ _ _ _ _ _ _ _ _ _ _ _)
   | (with_reducible exact ih2 _ _ _ _ _ _ _ _ _ _ _ _ _ _)
   | (with_reducible exact lunisolar_Check.mono _ _ _ _ _ _ _ _ _ _ _ _)
   | (with_reducible exact lunisolar_next.mono _ _ _ _ _ _ _ _ _ _ _ _ _ _)
   | (with_reducible exact lunisolar_start.mono _ _ _ _ _ _ _ _ _ _ _ _ _ _)
   | (with_reducible exact LeO.refl _)
   | (with_reducible exact LeO.none _)
   | (with_reducible refine LeO.ite ?_ ?_)
   | (with_reducible refine LeO.bind ?_ (fun _ => ?_))
   | exact ih0 _ _ _ _ _ _ _ _ _ _ _ _ _ _ _
   | exact ih1 _ _ _ _ _ _ _ _ _ _ _ _ _ _
   | exact ih2 _ _ _ _ _ _ _ _ _ _ _ _ _ _
   | exact lunisolar_Check.mono _ _ _ _ _ _ _ _ _ _ _ _
   | exact lunisolar_next.mono _ _ _ _ _ _ _ _ _ _ _ _ _ _
   | exact lunisolar_start.mono _ _ _ _ _ _ _ _ _ _ _ _ _ _
   | exact LeO.none _
   | refine LeO.ite ?_ ?_
   | refine LeO.bind ?_ (fun _ => ?_)
theorem lunisolar_FromDay.mono : ∀ a0 a1 a2 a3 a4 a5 a6 a7 a8 a9 a10 a11 k, LeO (lunisolar_FromDay.f k a0 a1 a2 a3 a4 a5 a6 a7 a8 a9 a10 a11) (lunisolar_FromDay.f (k + 1) a0 a1 a2 a3 a4 a5 a6 a7 a8 a9 a10 a11) := by
 intro a0 a1 a2 a3 a4 a5 a6 a7 a8 a9 a10 a11 k
 obtain ⟨ih0, ih1, ih2⟩ := lunisolar_FromDay.mono_l k
 unfold lunisolar_FromDay.f
 repeat' first
   | (with_reducible exact ih0 _ _ _ _ _ _ _ _ _ _ _ _ _ _ _)
   | (with_reducible exact ih1 _ _ _ _ _ _ _ _ _ _ _ _ _ _)
   | (with_reducible exact ih2 _ _ _ _ _ _ _ _ _ _ _ _ _ _)
   | (with_reducible exact lunisolar_Check.mono _ _ _ _ _ _ _ _ _ _ _ _)
   | (with_reducible exact lunisolar_next.mono _ _ _ _ _ _ _ _ _ _ _ _ _ _)
   | (with_reducible exact lunisolar_start.mono _ _ _ _ _ _ _ _ _ _ _ _ _ _)
   | (with_reducible exact LeO.refl _)
   | (with_reducible exact LeO.none _)
   | (with_reducible refine LeO.ite ?_ ?_)
   | (with_reducible refine LeO.bind ?_ (fun _ => ?_))
   | exact ih0 _ _ _ _ _ _ _ _ _ _ _ _ _ _ _
   | exact ih1 _ _ _ _ _ _ _ _ _ _ _ _ _ _
   | exact ih2 _ _ _ _ _ _ _ _ _ _ _ _ _ _
   | exact lunisolar_Check.mono _ _ _ _ _ _ _ _ _ _ _ _
   | exact lunisolar_next.mono _ _ _ _ _ _ _ _ _ _ _ _ _ _
   | exact lunisolar_start.mono _ _ _ _ _ _ _ _ _ _ _ _ _ _
   | exact LeO.none _
   | refine LeO.ite ?_ ?_
   | refine LeO.bind ?_ (fun _ => ?_)
set_option maxHeartbeats 8000000 in
set_option maxRecDepth 100000 in
theorem lunisolar_FromDay.calls (k : Nat) (a0_0 : ByteArray) (a0_1 : Int) (a0_2 : Int) (a0_3 : Int) (a0_4 : Int) (a0_5 : Int) (a0_6 : Int) (a0_7 : Int) (a0_8 : Int) (A0_9 : Option Addr) (c0_9 : Nat) (l0_9 : List Int) (A0_10 : Option Addr) (c0_10 : Nat) (l0_10 : List Int) (a1 : Int) (r1 : Int) (r2 : Int) (r3 : Int) (r4 : Int) (w : World) (hr0_9 : Kd.C (Kd.int .i64) w A0_9 l0_9.length l0_9) (hc0_9 : l0_9.length ≤ c0_9) (hr0_10 : Kd.C (Kd.int .i64) w A0_10 l0_10.length l0_10) (hc0_10 : l0_10.length ≤ c0_10) (h : lunisolar_FromDay.f k a0_0 a0_1 a0_2 a0_3 a0_4 a0_5 a0_6 a0_7 a0_8 l0_9 l0_10 a1 = some (r1, r2, r3, r4)) :
  Calls Try.prog 20 #[.agg #[.string a0_0, .int .i64 a0_1, .int .i64 a0_2, .int .i64 a0_3, .int .i64 a0_4, .int .i64 a0_5, .int .i64 a0_6, .int .i64 a0_7, .int .i64 a0_8, .slice A0_9 l0_9.length c0_9, .slice A0_10 l0_10.length c0_10], .int .i64 a1] w fun e w' => e = .returned (.tuple #[.agg #[.int .i64 r1, .int .i64 r2, .int .i64 r3], .int .i64 r4]) ∧ Below w.heap.size w w' := by
 have hu26 := Try.underlying26
 have hu44 := Try.underlying44
 have HR0_9 := Aside0.mk hr0_9
 have HC0_9 := Aside0.mk hc0_9
 clear hr0_9 hc0_9
 have HR0_10 := Aside0.mk hr0_10
 have HC0_10 := Aside0.mk hc0_10
 clear hr0_10 hc0_10
 have HB := Aside0.mk (Below.refl w.heap.size w)
 have H : ((lunisolar_Check.f k a0_0 a0_1 a0_2 a0_3 a0_4 a0_5 a0_6 a0_7 a0_8 l0_9 l0_10).bind fun t206 => (if t206 = 0 then ((line_Check.f a1).bind fun t207 => (if t207 = 0 then ((lunisolar_start.f k a0_0 a0_1 a0_2 a0_3 a0_4 a0_5 a0_6 a0_7 a0_8 l0_9 l0_10 (-9999) 1).bind fun t208 => (if t208 > a1 then (lunisolar_FromDay.j0 k a1 (-9999) 10000 true a0_0 a0_1 a0_2 a0_3 a0_4 a0_5 a0_6 a0_7 a0_8 l0_9 l0_10) else ((lunisolar_start.f k a0_0 a0_1 a0_2 a0_3 a0_4 a0_5 a0_6 a0_7 a0_8 l0_9 l0_10 10000 1).bind fun t209 => (lunisolar_FromDay.j0 k a1 (-9999) 10000 (decide (t209 ≤ a1)) a0_0 a0_1 a0_2 a0_3 a0_4 a0_5 a0_6 a0_7 a0_8 l0_9 l0_10)))) else (some (0, 0, 0, 3)))) else (some (0, 0, 0, t206)))) = some (r1, r2, r3, r4) := h
 clear h
 replace H := o_s H
 obtain ⟨t206, A30, H⟩ := H
 replace H : (if t206 = 0 then ((line_Check.f a1).bind fun t207 => (if t207 = 0 then ((lunisolar_start.f k a0_0 a0_1 a0_2 a0_3 a0_4 a0_5 a0_6 a0_7 a0_8 l0_9 l0_10 (-9999) 1).bind fun t208 => (if t208 > a1 then (lunisolar_FromDay.j0 k a1 (-9999) 10000 true a0_0 a0_1 a0_2 a0_3 a0_4 a0_5 a0_6 a0_7 a0_8 l0_9 l0_10) else ((lunisolar_start.f k a0_0 a0_1 a0_2 a0_3 a0_4 a0_5 a0_6 a0_7 a0_8 l0_9 l0_10 10000 1).bind fun t209 => (lunisolar_FromDay.j0 k a1 (-9999) 10000 (decide (t209 ≤ a1)) a0_0 a0_1 a0_2 a0_3 a0_4 a0_5 a0_6 a0_7 a0_8 l0_9 l0_10)))) else (some (0, 0, 0, 3)))) else (some (0, 0, 0, t206))) = some (r1, r2, r3, r4) := H
 have A3 := Aside0.mk A30
 clear A30
 by_cases c4 : t206 = 0
 ·rw [if_pos c4] at H
  have c4b0 : (t206 == 0) = true := beq_iff_eq.mpr c4
  have c4b1 : (t206 != 0) = false := bne_eq_false_iff_eq.mpr c4
  clear c4
  replace H := o_s H
  obtain ⟨t207, A50, H⟩ := H
  replace H : (if t207 = 0 then ((lunisolar_start.f k a0_0 a0_1 a0_2 a0_3 a0_4 a0_5 a0_6 a0_7 a0_8 l0_9 l0_10 (-9999) 1).bind fun t208 => (if t208 > a1 then (lunisolar_FromDay.j0 k a1 (-9999) 10000 true a0_0 a0_1 a0_2 a0_3 a0_4 a0_5 a0_6 a0_7 a0_8 l0_9 l0_10) else ((lunisolar_start.f k a0_0 a0_1 a0_2 a0_3 a0_4 a0_5 a0_6 a0_7 a0_8 l0_9 l0_10 10000 1).bind fun t209 => (lunisolar_FromDay.j0 k a1 (-9999) 10000 (decide (t209 ≤ a1)) a0_0 a0_1 a0_2 a0_3 a0_4 a0_5 a0_6 a0_7 a0_8 l0_9 l0_10)))) else (some (0, 0, 0, 3))) = some (r1, r2, r3, r4) := H
  have A5 := Aside0.mk A50
  clear A50
  by_cases c6 : t207 = 0
  ·rw [if_pos c6] at H
   have c6b0 : (t207 == 0) = true := beq_iff_eq.mpr c6
   have c6b1 : (t207 != 0) = false := bne_eq_false_iff_eq.mpr c6
   clear c6
   have HC7 := Aside0.mk H
   clear H
   go_enter Try.func20, Try.ntmps20
   go_upto_region 7 with (first | ((with_reducible refine gate_dst (N := 2) rfl ?_); refine box_event ?hg (N := 2) ?hd (cs := #[.string a0_0, .int .i64 a0_1, .int .i64 a0_2, .int .i64 a0_3, .int .i64 a0_4, .int .i64 a0_5, .int .i64 a0_6, .int .i64 a0_7, .int .i64 a0_8, .slice A0_9 l0_9.length c0_9, .slice A0_10 l0_10.length c0_10]) (t := 26) ?hr ?_; (case hd => rfl); (case hg => rfl); (case hr => first | (go_simp; done) | (go_simp; rfl)); intro gb204 hg w8 hbox hb; have n0_ := Aside0.mk (below_step (by repeat (first | (with_reducible first | exact HB.out | apply p_a | apply p_n | apply p_1) | exact HB.out)) hb); have n1_ := Aside0.mk (hbox); have n2_ := Aside0.mk ((by rw [hg]; exact (below_size (by repeat (first | (with_reducible first | exact HB.out | apply p_a | apply p_n | apply p_1) | exact HB.out))) : w.heap.size ≤ gb204)); have n3_ := n2_; clear HB; have HB := n0_; have BK204 := n1_; have GW204 := n2_; have GE204 := n3_; clear n0_ n1_ n2_ n3_; clear hb hbox hg) | ((with_reducible refine gate_dst (N := 4) rfl ?_); refine box_event ?hg (N := 4) ?hd (cs := #[.int .i64 0, .int .i64 0, .int .i64 0]) (t := 44) ?hr ?_; (case hd => rfl); (case hg => rfl); (case hr => first | (go_simp; done) | (go_simp; rfl)); intro gb205 hg w9 hbox hb; have n0_ := bb_ BK204 hb; have n1_ := Aside0.mk (below_step (by repeat (first | (with_reducible first | exact HB.out | apply p_a | apply p_n | apply p_1 | refine p_s ?_ GE204.out) | exact HB.out)) hb); have n2_ := Aside0.mk (hbox); have n3_ := Aside0.mk ((by rw [hg]; exact (below_size (by repeat (first | (with_reducible first | exact HB.out | apply p_a | apply p_n | apply p_1 | refine p_s ?_ GE204.out) | exact HB.out))) : w.heap.size ≤ gb205)); have n4_ := n3_; have n5_ := bl_ BK204 hg; have n6_ := bg_ BK204 hg; clear BK204; clear HB; have BK204 := n0_; have HB := n1_; have BK205 := n2_; have GW205 := n3_; have GE205 := n4_; have NB204_205 := n5_; have NB205_204 := n6_; clear n0_ n1_ n2_ n3_ n4_ n5_ n6_; clear hb hbox hg; have hnb10 := NB204_205.out; have hnc10 := NB205_204.out; have hcz11_0 : w9.cell? ⟨gb204, 0, none⟩ = some (.string a0_0) := (q_c BK204.out 0).trans rfl; have hcz11_1 : w9.cell? ⟨gb204, 1, none⟩ = some (.int .i64 a0_1) := (q_c BK204.out 1).trans rfl; have hcz11_2 : w9.cell? ⟨gb204, 2, none⟩ = some (.int .i64 a0_2) := (q_c BK204.out 2).trans rfl; have hcz11_3 : w9.cell? ⟨gb204, 3, none⟩ = some (.int .i64 a0_3) := (q_c BK204.out 3).trans rfl; have hcz11_4 : w9.cell? ⟨gb204, 4, none⟩ = some (.int .i64 a0_4) := (q_c BK204.out 4).trans rfl; have hcz11_5 : w9.cell? ⟨gb204, 5, none⟩ = some (.int .i64 a0_5) := (q_c BK204.out 5).trans rfl; have hcz11_6 : w9.cell? ⟨gb204, 6, none⟩ = some (.int .i64 a0_6) := (q_c BK204.out 6).trans rfl; have hcz11_7 : w9.cell? ⟨gb204, 7, none⟩ = some (.int .i64 a0_7) := (q_c BK204.out 7).trans rfl; have hcz11_8 : w9.cell? ⟨gb204, 8, none⟩ = some (.int .i64 a0_8) := (q_c BK204.out 8).trans rfl; have hcz11_9 : w9.cell? ⟨gb204, 9, none⟩ = some (.slice A0_9 l0_9.length c0_9) := (q_c BK204.out 9).trans rfl; have hcz11_10 : w9.cell? ⟨gb204, 10, none⟩ = some (.slice A0_10 l0_10.length c0_10) := (q_c BK204.out 10).trans rfl; have hfz11_0 := q_f BK204.out 0; have hfz11_1 := q_f BK204.out 1; have hfz11_2 := q_f BK204.out 2; have hfz11_3 := q_f BK204.out 3; have hfz11_4 := q_f BK204.out 4; have hfz11_5 := q_f BK204.out 5; have hfz11_6 := q_f BK204.out 6; have hfz11_7 := q_f BK204.out 7; have hfz11_8 := q_f BK204.out 8; have hfz11_9 := q_f BK204.out 9; have hfz11_10 := q_f BK204.out 10) | ((with_reducible refine gate_callee (f := 12) rfl ?_); refine goesL_ (some 12) rfl rfl Try.func12 (by kernel_rfl) rfl #[.agg #[.string a0_0, .int .i64 a0_1, .int .i64 a0_2, .int .i64 a0_3, .int .i64 a0_4, .int .i64 a0_5, .int .i64 a0_6, .int .i64 a0_7, .int .i64 a0_8, .slice A0_9 l0_9.length c0_9, .slice A0_10 l0_10.length c0_10]] rfl (by (try simp only [List.map_toArray, List.map_cons, List.map_nil]); first | done | rfl) ?_; (with_reducible refine (lunisolar_Check.calls k a0_0 a0_1 a0_2 a0_3 a0_4 a0_5 a0_6 a0_7 a0_8 _ _ l0_9 _ _ l0_10 t206 _ ?side1 ?side2 ?side3 ?side4 A3.out).mono ?_); (case side1 => repeat (first | exact (Kd.C_below HR0_9.out HB.out) | (with_reducible first | refine c_a ?_ _ | refine c_n ?_ _ | refine c_d ?_))); (case side2 => exact HC0_9.out); (case side3 => repeat (first | exact (Kd.C_below HR0_10.out HB.out) | (with_reducible first | refine c_a ?_ _ | refine c_n ?_ _ | refine c_d ?_))); (case side4 => exact HC0_10.out); rintro e w12 ⟨rfl, hb⟩; refine ⟨_, rfl, ?_⟩; have n0_ := bb_ BK204 hb; have n1_ := bb_ BK205 hb; have n2_ := Aside0.mk (below_step (by repeat (first | (with_reducible first | exact HB.out | apply p_a | apply p_n | apply p_1 | refine p_s ?_ GE204.out | refine p_s ?_ GE205.out) | exact HB.out)) hb); clear BK204; clear BK205; clear HB; have BK204 := n0_; have BK205 := n1_; have HB := n2_; clear n0_ n1_ n2_; (try clear hb); (try clear hb2); (try clear hk); (try clear hi)) | ((with_reducible refine gate_callee (f := 38) rfl ?_); refine goesL_ (some 18) rfl rfl Try.func38 (by kernel_rfl) rfl #[.int .i64 a1] rfl (by (try simp only [List.map_toArray, List.map_cons, List.map_nil]); first | done | rfl) ?_; (with_reducible refine (line_Check.calls a1 t207 _ A5.out).mono ?_); rintro e w' ⟨rfl, ⟨nd, rfl⟩⟩; refine ⟨_, rfl, ?_⟩))
   (try simp only [Act.put, List.setIfInBounds_toArray, List.set_cons_zero, List.set_cons_succ])
   go_cut [32] (fun v32 wc => ∃ (kq : Nat) (x32_6 : Bool), v32 = .bool x32_6 ∧ Aside0 (lunisolar_FromDay.j0 kq a1 (-9999) 10000 x32_6 a0_0 a0_1 a0_2 a0_3 a0_4 a0_5 a0_6 a0_7 a0_8 l0_9 l0_10 = some (r1, r2, r3, r4)) ∧ Aside0 (kq ≤ k) ∧ Aside0 (wc.heap[gb204]? = some (.cells #[.string a0_0, .int .i64 a0_1, .int .i64 a0_2, .int .i64 a0_3, .int .i64 a0_4, .int .i64 a0_5, .int .i64 a0_6, .int .i64 a0_7, .int .i64 a0_8, (.slice A0_9 l0_9.length c0_9), (.slice A0_10 l0_10.length c0_10)] 26 (0, 0))) ∧ Aside0 (wc.heap[gb205]? = some (.cells #[.int .i64 0, .int .i64 0, .int .i64 0] 44 (0, 0))) ∧ Aside0 (Below w.heap.size w wc))
   case first =>
    have H := HC7.out
    clear HC7
    replace H := o_s H
    obtain ⟨t208, A130, H⟩ := H
    replace H : (if t208 > a1 then (lunisolar_FromDay.j0 k a1 (-9999) 10000 true a0_0 a0_1 a0_2 a0_3 a0_4 a0_5 a0_6 a0_7 a0_8 l0_9 l0_10) else ((lunisolar_start.f k a0_0 a0_1 a0_2 a0_3 a0_4 a0_5 a0_6 a0_7 a0_8 l0_9 l0_10 10000 1).bind fun t209 => (lunisolar_FromDay.j0 k a1 (-9999) 10000 (decide (t209 ≤ a1)) a0_0 a0_1 a0_2 a0_3 a0_4 a0_5 a0_6 a0_7 a0_8 l0_9 l0_10))) = some (r1, r2, r3, r4) := H
    have A13 := Aside0.mk A130
    clear A130
    by_cases c14 : t208 > a1
    ·rw [if_pos c14] at H
     have c14b0 : decide (a1 < t208) = true := decide_eq_true c14
     clear c14
     (first | rw [c14b0] | (simp only [i64_w, i32_w]; rw [c14b0]) | skip)
     have H' := Aside0.mk H
     clear H
     have hnb15 := NB204_205.out
     have hnc15 := NB205_204.out
     have hcz16_0 : w12.cell? ⟨gb204, 0, none⟩ = some (.string a0_0) := (q_c BK204.out 0).trans rfl
     have hcz16_1 : w12.cell? ⟨gb204, 1, none⟩ = some (.int .i64 a0_1) := (q_c BK204.out 1).trans rfl
     have hcz16_2 : w12.cell? ⟨gb204, 2, none⟩ = some (.int .i64 a0_2) := (q_c BK204.out 2).trans rfl
     have hcz16_3 : w12.cell? ⟨gb204, 3, none⟩ = some (.int .i64 a0_3) := (q_c BK204.out 3).trans rfl
     have hcz16_4 : w12.cell? ⟨gb204, 4, none⟩ = some (.int .i64 a0_4) := (q_c BK204.out 4).trans rfl
     have hcz16_5 : w12.cell? ⟨gb204, 5, none⟩ = some (.int .i64 a0_5) := (q_c BK204.out 5).trans rfl
     have hcz16_6 : w12.cell? ⟨gb204, 6, none⟩ = some (.int .i64 a0_6) := (q_c BK204.out 6).trans rfl
     have hcz16_7 : w12.cell? ⟨gb204, 7, none⟩ = some (.int .i64 a0_7) := (q_c BK204.out 7).trans rfl
     have hcz16_8 : w12.cell? ⟨gb204, 8, none⟩ = some (.int .i64 a0_8) := (q_c BK204.out 8).trans rfl
     have hcz16_9 : w12.cell? ⟨gb204, 9, none⟩ = some (.slice A0_9 l0_9.length c0_9) := (q_c BK204.out 9).trans rfl
     have hcz16_10 : w12.cell? ⟨gb204, 10, none⟩ = some (.slice A0_10 l0_10.length c0_10) := (q_c BK204.out 10).trans rfl
     have hfz16_0 := q_f BK204.out 0
     have hfz16_1 := q_f BK204.out 1
     have hfz16_2 := q_f BK204.out 2
     have hfz16_3 := q_f BK204.out 3
     have hfz16_4 := q_f BK204.out 4
     have hfz16_5 := q_f BK204.out 5
     have hfz16_6 := q_f BK204.out 6
     have hfz16_7 := q_f BK204.out 7
     have hfz16_8 := q_f BK204.out 8
     have hfz16_9 := q_f BK204.out 9
     have hfz16_10 := q_f BK204.out 10
     go_wp2_with (first | ((with_reducible refine gate_callee (f := 37) rfl ?_); refine goesL_ (some 23) rfl rfl Try.func37 (by kernel_rfl) rfl #[.agg #[.string a0_0, .int .i64 a0_1, .int .i64 a0_2, .int .i64 a0_3, .int .i64 a0_4, .int .i64 a0_5, .int .i64 a0_6, .int .i64 a0_7, .int .i64 a0_8, .slice A0_9 l0_9.length c0_9, .slice A0_10 l0_10.length c0_10], .int .i64 (-9999), .int .i64 1] rfl (by (try simp only [List.map_toArray, List.map_cons, List.map_nil]); first | done | rfl) ?_; (with_reducible refine (lunisolar_start.calls k a0_0 a0_1 a0_2 a0_3 a0_4 a0_5 a0_6 a0_7 a0_8 _ _ l0_9 _ _ l0_10 (-9999) 1 t208 _ ?side1 ?side2 ?side3 ?side4 A13.out).mono ?_); (case side1 => repeat (first | exact (Kd.C_below HR0_9.out HB.out) | (with_reducible first | refine c_a ?_ _ | refine c_n ?_ _ | refine c_d ?_))); (case side2 => exact HC0_9.out); (case side3 => repeat (first | exact (Kd.C_below HR0_10.out HB.out) | (with_reducible first | refine c_a ?_ _ | refine c_n ?_ _ | refine c_d ?_))); (case side4 => exact HC0_10.out); rintro e w17 ⟨rfl, hb⟩; refine ⟨_, rfl, ?_⟩; have n0_ := bb_ BK204 hb; have n1_ := bb_ BK205 hb; have n2_ := Aside0.mk (below_step (by repeat (first | (with_reducible first | exact HB.out | apply p_a | apply p_n | apply p_1 | refine p_s ?_ GE204.out | refine p_s ?_ GE205.out) | exact HB.out)) hb); clear BK204; clear BK205; clear HB; have BK204 := n0_; have BK205 := n1_; have HB := n2_; clear n0_ n1_ n2_; (try clear hb); (try clear hb2); (try clear hk); (try clear hi)))
     go_meet
     case rel => exact ⟨_, (true), (by first | rfl | (simp; done) | (simp [*]; done) | (simp [bne]; done) | (simp [i64_w, i32_w]; done)), H', ⟨by first | omega | exact Nat.le_refl _⟩, ⟨by (with_reducible repeat (first | refine q_n ?_ _ | refine q_d ?_ | refine q_a ?_ _)); exact BK204.out⟩, ⟨by (with_reducible repeat (first | refine q_n ?_ _ | refine q_d ?_ | refine q_a ?_ _)); exact BK205.out⟩, ⟨by repeat (first | (with_reducible first | exact HB.out | apply p_a | apply p_n | apply p_1 | refine p_s ?_ GE204.out | refine p_s ?_ GE205.out) | exact HB.out)⟩⟩
    ·rw [if_neg c14] at H
     have c14b0 : decide (a1 < t208) = false := decide_eq_false c14
     clear c14
     (first | rw [c14b0] | (simp only [i64_w, i32_w]; rw [c14b0]) | skip)
     replace H := o_s H
     obtain ⟨t209, A180, H⟩ := H
     replace H : (lunisolar_FromDay.j0 k a1 (-9999) 10000 (decide (t209 ≤ a1)) a0_0 a0_1 a0_2 a0_3 a0_4 a0_5 a0_6 a0_7 a0_8 l0_9 l0_10) = some (r1, r2, r3, r4) := H
     have A18 := Aside0.mk A180
     clear A180
     have H' := Aside0.mk H
     clear H
     have hnb19 := NB204_205.out
     have hnc19 := NB205_204.out
     have hcz20_0 : w12.cell? ⟨gb204, 0, none⟩ = some (.string a0_0) := (q_c BK204.out 0).trans rfl
     have hcz20_1 : w12.cell? ⟨gb204, 1, none⟩ = some (.int .i64 a0_1) := (q_c BK204.out 1).trans rfl
     have hcz20_2 : w12.cell? ⟨gb204, 2, none⟩ = some (.int .i64 a0_2) := (q_c BK204.out 2).trans rfl
     have hcz20_3 : w12.cell? ⟨gb204, 3, none⟩ = some (.int .i64 a0_3) := (q_c BK204.out 3).trans rfl
     have hcz20_4 : w12.cell? ⟨gb204, 4, none⟩ = some (.int .i64 a0_4) := (q_c BK204.out 4).trans rfl
     have hcz20_5 : w12.cell? ⟨gb204, 5, none⟩ = some (.int .i64 a0_5) := (q_c BK204.out 5).trans rfl
     have hcz20_6 : w12.cell? ⟨gb204, 6, none⟩ = some (.int .i64 a0_6) := (q_c BK204.out 6).trans rfl
     have hcz20_7 : w12.cell? ⟨gb204, 7, none⟩ = some (.int .i64 a0_7) := (q_c BK204.out 7).trans rfl
     have hcz20_8 : w12.cell? ⟨gb204, 8, none⟩ = some (.int .i64 a0_8) := (q_c BK204.out 8).trans rfl
     have hcz20_9 : w12.cell? ⟨gb204, 9, none⟩ = some (.slice A0_9 l0_9.length c0_9) := (q_c BK204.out 9).trans rfl
     have hcz20_10 : w12.cell? ⟨gb204, 10, none⟩ = some (.slice A0_10 l0_10.length c0_10) := (q_c BK204.out 10).trans rfl
     have hfz20_0 := q_f BK204.out 0
     have hfz20_1 := q_f BK204.out 1
     have hfz20_2 := q_f BK204.out 2
     have hfz20_3 := q_f BK204.out 3
     have hfz20_4 := q_f BK204.out 4
     have hfz20_5 := q_f BK204.out 5
     have hfz20_6 := q_f BK204.out 6
     have hfz20_7 := q_f BK204.out 7
     have hfz20_8 := q_f BK204.out 8
     have hfz20_9 := q_f BK204.out 9
     have hfz20_10 := q_f BK204.out 10
     go_wp2_with (first | ((with_reducible refine gate_callee (f := 37) rfl ?_); refine goesL_ (some 23) rfl rfl Try.func37 (by kernel_rfl) rfl #[.agg #[.string a0_0, .int .i64 a0_1, .int .i64 a0_2, .int .i64 a0_3, .int .i64 a0_4, .int .i64 a0_5, .int .i64 a0_6, .int .i64 a0_7, .int .i64 a0_8, .slice A0_9 l0_9.length c0_9, .slice A0_10 l0_10.length c0_10], .int .i64 (-9999), .int .i64 1] rfl (by (try simp only [List.map_toArray, List.map_cons, List.map_nil]); first | done | rfl) ?_; (with_reducible refine (lunisolar_start.calls k a0_0 a0_1 a0_2 a0_3 a0_4 a0_5 a0_6 a0_7 a0_8 _ _ l0_9 _ _ l0_10 (-9999) 1 t208 _ ?side1 ?side2 ?side3 ?side4 A13.out).mono ?_); (case side1 => repeat (first | exact (Kd.C_below HR0_9.out HB.out) | (with_reducible first | refine c_a ?_ _ | refine c_n ?_ _ | refine c_d ?_))); (case side2 => exact HC0_9.out); (case side3 => repeat (first | exact (Kd.C_below HR0_10.out HB.out) | (with_reducible first | refine c_a ?_ _ | refine c_n ?_ _ | refine c_d ?_))); (case side4 => exact HC0_10.out); rintro e w21 ⟨rfl, hb⟩; refine ⟨_, rfl, ?_⟩; have n0_ := bb_ BK204 hb; have n1_ := bb_ BK205 hb; have n2_ := Aside0.mk (below_step (by repeat (first | (with_reducible first | exact HB.out | apply p_a | apply p_n | apply p_1 | refine p_s ?_ GE204.out | refine p_s ?_ GE205.out) | exact HB.out)) hb); clear BK204; clear BK205; clear HB; have BK204 := n0_; have BK205 := n1_; have HB := n2_; clear n0_ n1_ n2_; (try clear hb); (try clear hb2); (try clear hk); (try clear hi); have hcz22_0 : w21.cell? ⟨gb204, 0, none⟩ = some (.string a0_0) := (q_c BK204.out 0).trans rfl; have hcz22_1 : w21.cell? ⟨gb204, 1, none⟩ = some (.int .i64 a0_1) := (q_c BK204.out 1).trans rfl; have hcz22_2 : w21.cell? ⟨gb204, 2, none⟩ = some (.int .i64 a0_2) := (q_c BK204.out 2).trans rfl; have hcz22_3 : w21.cell? ⟨gb204, 3, none⟩ = some (.int .i64 a0_3) := (q_c BK204.out 3).trans rfl; have hcz22_4 : w21.cell? ⟨gb204, 4, none⟩ = some (.int .i64 a0_4) := (q_c BK204.out 4).trans rfl; have hcz22_5 : w21.cell? ⟨gb204, 5, none⟩ = some (.int .i64 a0_5) := (q_c BK204.out 5).trans rfl; have hcz22_6 : w21.cell? ⟨gb204, 6, none⟩ = some (.int .i64 a0_6) := (q_c BK204.out 6).trans rfl; have hcz22_7 : w21.cell? ⟨gb204, 7, none⟩ = some (.int .i64 a0_7) := (q_c BK204.out 7).trans rfl; have hcz22_8 : w21.cell? ⟨gb204, 8, none⟩ = some (.int .i64 a0_8) := (q_c BK204.out 8).trans rfl; have hcz22_9 : w21.cell? ⟨gb204, 9, none⟩ = some (.slice A0_9 l0_9.length c0_9) := (q_c BK204.out 9).trans rfl; have hcz22_10 : w21.cell? ⟨gb204, 10, none⟩ = some (.slice A0_10 l0_10.length c0_10) := (q_c BK204.out 10).trans rfl; have hfz22_0 := q_f BK204.out 0; have hfz22_1 := q_f BK204.out 1; have hfz22_2 := q_f BK204.out 2; have hfz22_3 := q_f BK204.out 3; have hfz22_4 := q_f BK204.out 4; have hfz22_5 := q_f BK204.out 5; have hfz22_6 := q_f BK204.out 6; have hfz22_7 := q_f BK204.out 7; have hfz22_8 := q_f BK204.out 8; have hfz22_9 := q_f BK204.out 9; have hfz22_10 := q_f BK204.out 10) | (go_at_call 37; (with_reducible refine (lunisolar_start.calls k a0_0 a0_1 a0_2 a0_3 a0_4 a0_5 a0_6 a0_7 a0_8 _ _ l0_9 _ _ l0_10 10000 1 t209 _ ?side1 ?side2 ?side3 ?side4 A18.out).mono ?_); (case side1 => repeat (first | exact (Kd.C_below HR0_9.out HB.out) | (with_reducible first | refine c_a ?_ _ | refine c_n ?_ _ | refine c_d ?_))); (case side2 => exact HC0_9.out); (case side3 => repeat (first | exact (Kd.C_below HR0_10.out HB.out) | (with_reducible first | refine c_a ?_ _ | refine c_n ?_ _ | refine c_d ?_))); (case side4 => exact HC0_10.out); rintro e w23 ⟨rfl, hb⟩; have n0_ := bb_ BK204 hb; have n1_ := bb_ BK205 hb; have n2_ := Aside0.mk (below_step (by repeat (first | (with_reducible first | exact HB.out | apply p_a | apply p_n | apply p_1 | refine p_s ?_ GE204.out | refine p_s ?_ GE205.out) | exact HB.out)) hb); clear BK204; clear BK205; clear HB; have BK204 := n0_; have BK205 := n1_; have HB := n2_; clear n0_ n1_ n2_; (try clear hb); (try clear hb2); (try clear hk); (try clear hi)))
     go_meet
     case rel => exact ⟨_, (decide (t209 ≤ a1)), (by first | rfl | (simp; done) | (simp [*]; done) | (simp [bne]; done) | (simp [i64_w, i32_w]; done)), H', ⟨by first | omega | exact Nat.le_refl _⟩, ⟨by (with_reducible repeat (first | refine q_n ?_ _ | refine q_d ?_ | refine q_a ?_ _)); exact BK204.out⟩, ⟨by (with_reducible repeat (first | refine q_n ?_ _ | refine q_d ?_ | refine q_a ?_ _)); exact BK205.out⟩, ⟨by repeat (first | (with_reducible first | exact HB.out | apply p_a | apply p_n | apply p_1 | refine p_s ?_ GE204.out | refine p_s ?_ GE205.out) | exact HB.out)⟩⟩
   case rest =>
    clear HC7
    try clear c1
    try clear c2
    try clear p2
    try clear c3
    try clear c4
    try clear c4b0
    try clear c4b1
    try clear c6
    try clear c6b0
    try clear c6b1
    try clear c10
    try clear c12
    try clear c14
    try clear c14b0
    try clear c15
    try clear c19
    try clear c20
    try clear hcz11_0
    try clear hcz11_1
    try clear hcz11_10
    try clear hcz11_2
    try clear hcz11_3
    try clear hcz11_4
    try clear hcz11_5
    try clear hcz11_6
    try clear hcz11_7
    try clear hcz11_8
    try clear hcz11_9
    try clear hcz16_0
    try clear hcz16_1
    try clear hcz16_10
    try clear hcz16_2
    try clear hcz16_3
    try clear hcz16_4
    try clear hcz16_5
    try clear hcz16_6
    try clear hcz16_7
    try clear hcz16_8
    try clear hcz16_9
    try clear hcz20_0
    try clear hcz20_1
    try clear hcz20_10
    try clear hcz20_2
    try clear hcz20_3
    try clear hcz20_4
    try clear hcz20_5
    try clear hcz20_6
    try clear hcz20_7
    try clear hcz20_8
    try clear hcz20_9
    try clear hcz22_0
    try clear hcz22_1
    try clear hcz22_10
    try clear hcz22_2
    try clear hcz22_3
    try clear hcz22_4
    try clear hcz22_5
    try clear hcz22_6
    try clear hcz22_7
    try clear hcz22_8
    try clear hcz22_9
    try clear hfz11_0
    try clear hfz11_1
    try clear hfz11_10
    try clear hfz11_2
    try clear hfz11_3
    try clear hfz11_4
    try clear hfz11_5
    try clear hfz11_6
    try clear hfz11_7
    try clear hfz11_8
    try clear hfz11_9
    try clear hfz16_0
    try clear hfz16_1
    try clear hfz16_10
    try clear hfz16_2
    try clear hfz16_3
    try clear hfz16_4
    try clear hfz16_5
    try clear hfz16_6
    try clear hfz16_7
    try clear hfz16_8
    try clear hfz16_9
    try clear hfz20_0
    try clear hfz20_1
    try clear hfz20_10
    try clear hfz20_2
    try clear hfz20_3
    try clear hfz20_4
    try clear hfz20_5
    try clear hfz20_6
    try clear hfz20_7
    try clear hfz20_8
    try clear hfz20_9
    try clear hfz22_0
    try clear hfz22_1
    try clear hfz22_10
    try clear hfz22_2
    try clear hfz22_3
    try clear hfz22_4
    try clear hfz22_5
    try clear hfz22_6
    try clear hfz22_7
    try clear hfz22_8
    try clear hfz22_9
    obtain ⟨kq, x32_6, rfl, HA, HJ6, BK204, BK205, HB⟩ := hcut
    cases kq with
    | zero => exact absurd HA.out (by simp [lunisolar_FromDay.j0])
    | succ kj6 =>
     have H := HA.out
     clear HA
     simp only [lunisolar_FromDay.j0] at H
     by_cases c24 : x32_6 = true
     ·subst c24
      have H1 : (some (0, 0, 0, 3)) = some (r1, r2, r3, r4) := by rw [if_pos rfl] at H; exact H
      clear H
      have H := H1
      clear H1
      simp only [Option.some.injEq, Prod.mk.injEq] at H
      obtain ⟨rfl, rfl, rfl, rfl⟩ := H
      have hnb25 := NB205_204.out
      have hnc25 := NB204_205.out
      have hcz26_0 : wc.cell? ⟨gb205, 0, none⟩ = some (.int .i64 0) := (q_c BK205.out 0).trans rfl
      have hcz26_1 : wc.cell? ⟨gb205, 1, none⟩ = some (.int .i64 0) := (q_c BK205.out 1).trans rfl
      have hcz26_2 : wc.cell? ⟨gb205, 2, none⟩ = some (.int .i64 0) := (q_c BK205.out 2).trans rfl
      have hfz26_0 := q_f BK205.out 0
      have hfz26_1 := q_f BK205.out 1
      have hfz26_2 := q_f BK205.out 2
      go_wp2
      refine bodyPost_ret (results_ct rfl _ _ gb205 44 #[.int .i64 0, .int .i64 0, .int .i64 0] (0, 0) _ rfl (by (with_reducible repeat (first | refine q_n ?_ _ | refine q_d ?_ | refine q_a ?_ _)); refine blk_put (cs := #[.int .i64 0, .int .i64 0, .int .i64 0]) ?_ 2 _ rfl; (with_reducible repeat (first | refine q_n ?_ _ | refine q_d ?_ | refine q_a ?_ _)); refine blk_put (cs := #[.int .i64 0, .int .i64 0, .int .i64 0]) ?_ 1 _ rfl; (with_reducible repeat (first | refine q_n ?_ _ | refine q_d ?_ | refine q_a ?_ _)); refine blk_put (cs := #[.int .i64 0, .int .i64 0, .int .i64 0]) ?_ 0 _ rfl; (with_reducible repeat (first | refine q_n ?_ _ | refine q_d ?_ | refine q_a ?_ _)); exact BK205.out) Try.underlying44 rfl (by kernel_rfl)) rfl ?_
      exact ⟨by first | rfl | (simp [errW_none, errW_some] <;> rfl) | (simp [*, errW_none, errW_some] <;> rfl), by repeat (first | (with_reducible first | exact HB.out | apply p_a | apply p_n | apply p_1 | refine p_s ?_ GE204.out | refine p_s ?_ GE205.out) | exact HB.out)⟩
     ·replace c24 := Bool.eq_false_iff.mpr c24
      subst c24
      have H1 : (lunisolar_FromDay.l0 kj6 a1 (-9999) 10000 a0_0 a0_1 a0_2 a0_3 a0_4 a0_5 a0_6 a0_7 a0_8 l0_9 l0_10) = some (r1, r2, r3, r4) := by rw [if_neg (show ¬ (false = true) by decide)] at H; exact H
      clear H
      have H := H1
      clear H1
      have H' := Aside0.mk H
      clear H
      go_wp2
      go_loopg [7, 8] kj6 (fun kq v7 v8 w' => ∃ (x7_2 : Int) (x8_2 : Int), v7 = .int .i64 x7_2 ∧ v8 = .int .i64 x8_2 ∧ Aside0 (lunisolar_FromDay.l0 kq a1 x7_2 x8_2 a0_0 a0_1 a0_2 a0_3 a0_4 a0_5 a0_6 a0_7 a0_8 l0_9 l0_10 = some (r1, r2, r3, r4)) ∧ Aside0 (kq ≤ kj6) ∧ Aside0 (w'.heap[gb204]? = some (.cells #[.string a0_0, .int .i64 a0_1, .int .i64 a0_2, .int .i64 a0_3, .int .i64 a0_4, .int .i64 a0_5, .int .i64 a0_6, .int .i64 a0_7, .int .i64 a0_8, (.slice A0_9 l0_9.length c0_9), (.slice A0_10 l0_10.length c0_10)] 26 (0, 0))) ∧ Aside0 (w'.heap[gb205]? = some (.cells #[.int .i64 0, .int .i64 0, .int .i64 0] 44 (0, 0))) ∧ Aside0 (Below w.heap.size w w'))
      case atStart => exact ⟨((-9999)), (10000), (by first | rfl | (simp; done) | (simp [*]; done) | (simp [bne]; done) | (simp [i64_w, i32_w]; done)), (by first | rfl | (simp; done) | (simp [*]; done) | (simp [bne]; done) | (simp [i64_w, i32_w]; done)), H', ⟨Nat.le_refl _⟩, ⟨by (with_reducible repeat (first | refine q_n ?_ _ | refine q_d ?_ | refine q_a ?_ _)); exact BK204.out⟩, ⟨by (with_reducible repeat (first | refine q_n ?_ _ | refine q_d ?_ | refine q_a ?_ _)); exact BK205.out⟩, ⟨by repeat (first | (with_reducible first | exact HB.out | apply p_a | apply p_n | apply p_1 | refine p_s ?_ GE204.out | refine p_s ?_ GE205.out) | exact HB.out)⟩⟩
      case round =>
       clear H'
       try clear c1
       try clear c2
       try clear p2
       try clear c3
       try clear c4
       try clear c4b0
       try clear c4b1
       try clear c6
       try clear c6b0
       try clear c6b1
       try clear c10
       try clear c12
       try clear c14
       try clear c14b0
       try clear c15
       try clear c19
       try clear c20
       try clear c24
       try clear c25
       try clear hcz11_0
       try clear hcz11_1
       try clear hcz11_10
       try clear hcz11_2
       try clear hcz11_3
       try clear hcz11_4
       try clear hcz11_5
       try clear hcz11_6
       try clear hcz11_7
       try clear hcz11_8
       try clear hcz11_9
       try clear hcz16_0
       try clear hcz16_1
       try clear hcz16_10
       try clear hcz16_2
       try clear hcz16_3
       try clear hcz16_4
       try clear hcz16_5
       try clear hcz16_6
       try clear hcz16_7
       try clear hcz16_8
       try clear hcz16_9
       try clear hcz20_0
       try clear hcz20_1
       try clear hcz20_10
       try clear hcz20_2
       try clear hcz20_3
       try clear hcz20_4
       try clear hcz20_5
       try clear hcz20_6
       try clear hcz20_7
       try clear hcz20_8
       try clear hcz20_9
       try clear hcz22_0
       try clear hcz22_1
       try clear hcz22_10
       try clear hcz22_2
       try clear hcz22_3
       try clear hcz22_4
       try clear hcz22_5
       try clear hcz22_6
       try clear hcz22_7
       try clear hcz22_8
       try clear hcz22_9
       try clear hcz26_0
       try clear hcz26_1
       try clear hcz26_2
       try clear hfz11_0
       try clear hfz11_1
       try clear hfz11_10
       try clear hfz11_2
       try clear hfz11_3
       try clear hfz11_4
       try clear hfz11_5
       try clear hfz11_6
       try clear hfz11_7
       try clear hfz11_8
       try clear hfz11_9
       try clear hfz16_0
       try clear hfz16_1
       try clear hfz16_10
       try clear hfz16_2
       try clear hfz16_3
       try clear hfz16_4
       try clear hfz16_5
       try clear hfz16_6
       try clear hfz16_7
       try clear hfz16_8
       try clear hfz16_9
       try clear hfz20_0
       try clear hfz20_1
       try clear hfz20_10
       try clear hfz20_2
       try clear hfz20_3
       try clear hfz20_4
       try clear hfz20_5
       try clear hfz20_6
       try clear hfz20_7
       try clear hfz20_8
       try clear hfz20_9
       try clear hfz22_0
       try clear hfz22_1
       try clear hfz22_10
       try clear hfz22_2
       try clear hfz22_3
       try clear hfz22_4
       try clear hfz22_5
       try clear hfz22_6
       try clear hfz22_7
       try clear hfz22_8
       try clear hfz22_9
       try clear hfz26_0
       try clear hfz26_1
       try clear hfz26_2
       try clear p2
       obtain ⟨x7_2, x8_2, rfl, rfl, HA, HK2, BK204, BK205, HB⟩ := hrel
       cases gk with
       | zero => exact absurd HA.out (by simp [lunisolar_FromDay.l0])
       | succ k2 =>
        have H := HA.out
        clear HA
        simp only [lunisolar_FromDay.l0] at H
        by_cases c27 : (wrap64 (x8_2 - x7_2)) > 1
        ·rw [if_pos c27] at H
         have c27b0 : decide (1 < (wrap64 (x8_2 - x7_2))) = true := decide_eq_true c27
         clear c27
         replace H := o_s H
         obtain ⟨t210, A280, H⟩ := H
         replace H : (if t210 ≤ a1 then (lunisolar_FromDay.l0 k2 a1 (wrap64 (x7_2 + (wrap64 (Int.tdiv (wrap64 (x8_2 - x7_2)) 2)))) x8_2 a0_0 a0_1 a0_2 a0_3 a0_4 a0_5 a0_6 a0_7 a0_8 l0_9 l0_10) else (lunisolar_FromDay.l0 k2 a1 x7_2 (wrap64 (x7_2 + (wrap64 (Int.tdiv (wrap64 (x8_2 - x7_2)) 2)))) a0_0 a0_1 a0_2 a0_3 a0_4 a0_5 a0_6 a0_7 a0_8 l0_9 l0_10)) = some (r1, r2, r3, r4) := H
         have A28 := Aside0.mk A280
         clear A280
         by_cases c29 : t210 ≤ a1
         ·rw [if_pos c29] at H
          have c29b0 : decide (t210 ≤ a1) = true := decide_eq_true c29
          clear c29
          have H' := Aside0.mk H
          clear H
          have hnb30 := NB204_205.out
          have hnc30 := NB205_204.out
          have hcz31_0 : wr.cell? ⟨gb204, 0, none⟩ = some (.string a0_0) := (q_c BK204.out 0).trans rfl
          have hcz31_1 : wr.cell? ⟨gb204, 1, none⟩ = some (.int .i64 a0_1) := (q_c BK204.out 1).trans rfl
          have hcz31_2 : wr.cell? ⟨gb204, 2, none⟩ = some (.int .i64 a0_2) := (q_c BK204.out 2).trans rfl
          have hcz31_3 : wr.cell? ⟨gb204, 3, none⟩ = some (.int .i64 a0_3) := (q_c BK204.out 3).trans rfl
          have hcz31_4 : wr.cell? ⟨gb204, 4, none⟩ = some (.int .i64 a0_4) := (q_c BK204.out 4).trans rfl
          have hcz31_5 : wr.cell? ⟨gb204, 5, none⟩ = some (.int .i64 a0_5) := (q_c BK204.out 5).trans rfl
          have hcz31_6 : wr.cell? ⟨gb204, 6, none⟩ = some (.int .i64 a0_6) := (q_c BK204.out 6).trans rfl
          have hcz31_7 : wr.cell? ⟨gb204, 7, none⟩ = some (.int .i64 a0_7) := (q_c BK204.out 7).trans rfl
          have hcz31_8 : wr.cell? ⟨gb204, 8, none⟩ = some (.int .i64 a0_8) := (q_c BK204.out 8).trans rfl
          have hcz31_9 : wr.cell? ⟨gb204, 9, none⟩ = some (.slice A0_9 l0_9.length c0_9) := (q_c BK204.out 9).trans rfl
          have hcz31_10 : wr.cell? ⟨gb204, 10, none⟩ = some (.slice A0_10 l0_10.length c0_10) := (q_c BK204.out 10).trans rfl
          have hfz31_0 := q_f BK204.out 0
          have hfz31_1 := q_f BK204.out 1
          have hfz31_2 := q_f BK204.out 2
          have hfz31_3 := q_f BK204.out 3
          have hfz31_4 := q_f BK204.out 4
          have hfz31_5 := q_f BK204.out 5
          have hfz31_6 := q_f BK204.out 6
          have hfz31_7 := q_f BK204.out 7
          have hfz31_8 := q_f BK204.out 8
          have hfz31_9 := q_f BK204.out 9
          have hfz31_10 := q_f BK204.out 10
          go_wp2_with (first | ((with_reducible refine gate_callee (f := 37) rfl ?_); refine goesL_ (some 46) rfl rfl Try.func37 (by kernel_rfl) rfl #[.agg #[.string a0_0, .int .i64 a0_1, .int .i64 a0_2, .int .i64 a0_3, .int .i64 a0_4, .int .i64 a0_5, .int .i64 a0_6, .int .i64 a0_7, .int .i64 a0_8, .slice A0_9 l0_9.length c0_9, .slice A0_10 l0_10.length c0_10], .int .i64 (wrap64 (x7_2 + (wrap64 (Int.tdiv (wrap64 (x8_2 - x7_2)) 2)))), .int .i64 1] rfl (by (try simp only [List.map_toArray, List.map_cons, List.map_nil]); first | done | rfl) ?_; (with_reducible refine (lunisolar_start.calls k2 a0_0 a0_1 a0_2 a0_3 a0_4 a0_5 a0_6 a0_7 a0_8 _ _ l0_9 _ _ l0_10 (wrap64 (x7_2 + (wrap64 (Int.tdiv (wrap64 (x8_2 - x7_2)) 2)))) 1 t210 _ ?side1 ?side2 ?side3 ?side4 A28.out).mono ?_); (case side1 => repeat (first | exact (Kd.C_below HR0_9.out HB.out) | (with_reducible first | refine c_a ?_ _ | refine c_n ?_ _ | refine c_d ?_))); (case side2 => exact HC0_9.out); (case side3 => repeat (first | exact (Kd.C_below HR0_10.out HB.out) | (with_reducible first | refine c_a ?_ _ | refine c_n ?_ _ | refine c_d ?_))); (case side4 => exact HC0_10.out); rintro e w32 ⟨rfl, hb⟩; refine ⟨_, rfl, ?_⟩; have n0_ := bb_ BK204 hb; have n1_ := bb_ BK205 hb; have n2_ := Aside0.mk (below_step (by repeat (first | (with_reducible first | exact HB.out | apply p_a | apply p_n | apply p_1 | refine p_s ?_ GE204.out | refine p_s ?_ GE205.out) | exact HB.out)) hb); clear BK204; clear BK205; clear HB; have BK204 := n0_; have BK205 := n1_; have HB := n2_; clear n0_ n1_ n2_; (try clear hb); (try clear hb2); (try clear hk); (try clear hi)))
          go_roundg k2
          case measure => have := HJ6.out; have := HK2.out; omega
          case rel => exact ⟨(wrap64 (x7_2 + (wrap64 (Int.tdiv (wrap64 (x8_2 - x7_2)) 2)))), (x8_2), (by first | rfl | (simp; done) | (simp [*]; done) | (simp [bne]; done) | (simp [i64_w, i32_w]; done)), (by first | rfl | (simp; done) | (simp [*]; done) | (simp [bne]; done) | (simp [i64_w, i32_w]; done)), H', ⟨by have := HJ6.out; have := HK2.out; omega⟩, ⟨by (with_reducible repeat (first | refine q_n ?_ _ | refine q_d ?_ | refine q_a ?_ _)); exact BK204.out⟩, ⟨by (with_reducible repeat (first | refine q_n ?_ _ | refine q_d ?_ | refine q_a ?_ _)); exact BK205.out⟩, ⟨by repeat (first | (with_reducible first | exact HB.out | apply p_a | apply p_n | apply p_1 | refine p_s ?_ GE204.out | refine p_s ?_ GE205.out) | exact HB.out)⟩⟩
         ·rw [if_neg c29] at H
          have c29b0 : decide (t210 ≤ a1) = false := decide_eq_false c29
          clear c29
          have H' := Aside0.mk H
          clear H
          have hnb33 := NB204_205.out
          have hnc33 := NB205_204.out
          have hcz34_0 : wr.cell? ⟨gb204, 0, none⟩ = some (.string a0_0) := (q_c BK204.out 0).trans rfl
          have hcz34_1 : wr.cell? ⟨gb204, 1, none⟩ = some (.int .i64 a0_1) := (q_c BK204.out 1).trans rfl
          have hcz34_2 : wr.cell? ⟨gb204, 2, none⟩ = some (.int .i64 a0_2) := (q_c BK204.out 2).trans rfl
          have hcz34_3 : wr.cell? ⟨gb204, 3, none⟩ = some (.int .i64 a0_3) := (q_c BK204.out 3).trans rfl
          have hcz34_4 : wr.cell? ⟨gb204, 4, none⟩ = some (.int .i64 a0_4) := (q_c BK204.out 4).trans rfl
          have hcz34_5 : wr.cell? ⟨gb204, 5, none⟩ = some (.int .i64 a0_5) := (q_c BK204.out 5).trans rfl
          have hcz34_6 : wr.cell? ⟨gb204, 6, none⟩ = some (.int .i64 a0_6) := (q_c BK204.out 6).trans rfl
          have hcz34_7 : wr.cell? ⟨gb204, 7, none⟩ = some (.int .i64 a0_7) := (q_c BK204.out 7).trans rfl
          have hcz34_8 : wr.cell? ⟨gb204, 8, none⟩ = some (.int .i64 a0_8) := (q_c BK204.out 8).trans rfl
          have hcz34_9 : wr.cell? ⟨gb204, 9, none⟩ = some (.slice A0_9 l0_9.length c0_9) := (q_c BK204.out 9).trans rfl
          have hcz34_10 : wr.cell? ⟨gb204, 10, none⟩ = some (.slice A0_10 l0_10.length c0_10) := (q_c BK204.out 10).trans rfl
          have hfz34_0 := q_f BK204.out 0
          have hfz34_1 := q_f BK204.out 1
          have hfz34_2 := q_f BK204.out 2
          have hfz34_3 := q_f BK204.out 3
          have hfz34_4 := q_f BK204.out 4
          have hfz34_5 := q_f BK204.out 5
          have hfz34_6 := q_f BK204.out 6
          have hfz34_7 := q_f BK204.out 7
          have hfz34_8 := q_f BK204.out 8
          have hfz34_9 := q_f BK204.out 9
          have hfz34_10 := q_f BK204.out 10
          go_wp2_with (first | ((with_reducible refine gate_callee (f := 37) rfl ?_); refine goesL_ (some 46) rfl rfl Try.func37 (by kernel_rfl) rfl #[.agg #[.string a0_0, .int .i64 a0_1, .int .i64 a0_2, .int .i64 a0_3, .int .i64 a0_4, .int .i64 a0_5, .int .i64 a0_6, .int .i64 a0_7, .int .i64 a0_8, .slice A0_9 l0_9.length c0_9, .slice A0_10 l0_10.length c0_10], .int .i64 (wrap64 (x7_2 + (wrap64 (Int.tdiv (wrap64 (x8_2 - x7_2)) 2)))), .int .i64 1] rfl (by (try simp only [List.map_toArray, List.map_cons, List.map_nil]); first | done | rfl) ?_; (with_reducible refine (lunisolar_start.calls k2 a0_0 a0_1 a0_2 a0_3 a0_4 a0_5 a0_6 a0_7 a0_8 _ _ l0_9 _ _ l0_10 (wrap64 (x7_2 + (wrap64 (Int.tdiv (wrap64 (x8_2 - x7_2)) 2)))) 1 t210 _ ?side1 ?side2 ?side3 ?side4 A28.out).mono ?_); (case side1 => repeat (first | exact (Kd.C_below HR0_9.out HB.out) | (with_reducible first | refine c_a ?_ _ | refine c_n ?_ _ | refine c_d ?_))); (case side2 => exact HC0_9.out); (case side3 => repeat (first | exact (Kd.C_below HR0_10.out HB.out) | (with_reducible first | refine c_a ?_ _ | refine c_n ?_ _ | refine c_d ?_))); (case side4 => exact HC0_10.out); rintro e w35 ⟨rfl, hb⟩; refine ⟨_, rfl, ?_⟩; have n0_ := bb_ BK204 hb; have n1_ := bb_ BK205 hb; have n2_ := Aside0.mk (below_step (by repeat (first | (with_reducible first | exact HB.out | apply p_a | apply p_n | apply p_1 | refine p_s ?_ GE204.out | refine p_s ?_ GE205.out) | exact HB.out)) hb); clear BK204; clear BK205; clear HB; have BK204 := n0_; have BK205 := n1_; have HB := n2_; clear n0_ n1_ n2_; (try clear hb); (try clear hb2); (try clear hk); (try clear hi)))
          go_roundg k2
          case measure => have := HJ6.out; have := HK2.out; omega
          case rel => exact ⟨(x7_2), (wrap64 (x7_2 + (wrap64 (Int.tdiv (wrap64 (x8_2 - x7_2)) 2)))), (by first | rfl | (simp; done) | (simp [*]; done) | (simp [bne]; done) | (simp [i64_w, i32_w]; done)), (by first | rfl | (simp; done) | (simp [*]; done) | (simp [bne]; done) | (simp [i64_w, i32_w]; done)), H', ⟨by have := HJ6.out; have := HK2.out; omega⟩, ⟨by (with_reducible repeat (first | refine q_n ?_ _ | refine q_d ?_ | refine q_a ?_ _)); exact BK204.out⟩, ⟨by (with_reducible repeat (first | refine q_n ?_ _ | refine q_d ?_ | refine q_a ?_ _)); exact BK205.out⟩, ⟨by repeat (first | (with_reducible first | exact HB.out | apply p_a | apply p_n | apply p_1 | refine p_s ?_ GE204.out | refine p_s ?_ GE205.out) | exact HB.out)⟩⟩
        ·rw [if_neg c27] at H
         have c27b0 : decide (1 < (wrap64 (x8_2 - x7_2))) = false := decide_eq_false c27
         clear c27
         have H' := Aside0.mk H
         clear H
         go_wp2
         go_loopg [10] k2 (fun kq v10 w' => ∃ (x10_3 : Int), v10 = .int .i64 x10_3 ∧ Aside0 (lunisolar_FromDay.l1 kq a1 x7_2 x10_3 a0_0 a0_1 a0_2 a0_3 a0_4 a0_5 a0_6 a0_7 a0_8 l0_9 l0_10 = some (r1, r2, r3, r4)) ∧ Aside0 (kq ≤ k2) ∧ Aside0 (w'.heap[gb204]? = some (.cells #[.string a0_0, .int .i64 a0_1, .int .i64 a0_2, .int .i64 a0_3, .int .i64 a0_4, .int .i64 a0_5, .int .i64 a0_6, .int .i64 a0_7, .int .i64 a0_8, (.slice A0_9 l0_9.length c0_9), (.slice A0_10 l0_10.length c0_10)] 26 (0, 0))) ∧ Aside0 (w'.heap[gb205]? = some (.cells #[.int .i64 0, .int .i64 0, .int .i64 0] 44 (0, 0))) ∧ Aside0 (Below w.heap.size w w'))
         case atStart => exact ⟨(1), (by first | rfl | (simp; done) | (simp [*]; done) | (simp [bne]; done) | (simp [i64_w, i32_w]; done)), H', ⟨Nat.le_refl _⟩, ⟨by (with_reducible repeat (first | refine q_n ?_ _ | refine q_d ?_ | refine q_a ?_ _)); exact BK204.out⟩, ⟨by (with_reducible repeat (first | refine q_n ?_ _ | refine q_d ?_ | refine q_a ?_ _)); exact BK205.out⟩, ⟨by repeat (first | (with_reducible first | exact HB.out | apply p_a | apply p_n | apply p_1 | refine p_s ?_ GE204.out | refine p_s ?_ GE205.out) | exact HB.out)⟩⟩
         case round =>
          clear H'
          try clear c1
          try clear c2
          try clear p2
          try clear c3
          try clear c4
          try clear c4b0
          try clear c4b1
          try clear c6
          try clear c6b0
          try clear c6b1
          try clear p6
          try clear c10
          try clear c12
          try clear c14
          try clear c14b0
          try clear c15
          try clear c19
          try clear c20
          try clear c24
          try clear c25
          try clear c27
          try clear c27b0
          try clear c29
          try clear c29b0
          try clear c30
          try clear c33
          try clear hcz11_0
          try clear hcz11_1
          try clear hcz11_10
          try clear hcz11_2
          try clear hcz11_3
          try clear hcz11_4
          try clear hcz11_5
          try clear hcz11_6
          try clear hcz11_7
          try clear hcz11_8
          try clear hcz11_9
          try clear hcz16_0
          try clear hcz16_1
          try clear hcz16_10
          try clear hcz16_2
          try clear hcz16_3
          try clear hcz16_4
          try clear hcz16_5
          try clear hcz16_6
          try clear hcz16_7
          try clear hcz16_8
          try clear hcz16_9
          try clear hcz20_0
          try clear hcz20_1
          try clear hcz20_10
          try clear hcz20_2
          try clear hcz20_3
          try clear hcz20_4
          try clear hcz20_5
          try clear hcz20_6
          try clear hcz20_7
          try clear hcz20_8
          try clear hcz20_9
          try clear hcz22_0
          try clear hcz22_1
          try clear hcz22_10
          try clear hcz22_2
          try clear hcz22_3
          try clear hcz22_4
          try clear hcz22_5
          try clear hcz22_6
          try clear hcz22_7
          try clear hcz22_8
          try clear hcz22_9
          try clear hcz26_0
          try clear hcz26_1
          try clear hcz26_2
          try clear hcz31_0
          try clear hcz31_1
          try clear hcz31_10
          try clear hcz31_2
          try clear hcz31_3
          try clear hcz31_4
          try clear hcz31_5
          try clear hcz31_6
          try clear hcz31_7
          try clear hcz31_8
          try clear hcz31_9
          try clear hcz34_0
          try clear hcz34_1
          try clear hcz34_10
          try clear hcz34_2
          try clear hcz34_3
          try clear hcz34_4
          try clear hcz34_5
          try clear hcz34_6
          try clear hcz34_7
          try clear hcz34_8
          try clear hcz34_9
          try clear hfz11_0
          try clear hfz11_1
          try clear hfz11_10
          try clear hfz11_2
          try clear hfz11_3
          try clear hfz11_4
          try clear hfz11_5
          try clear hfz11_6
          try clear hfz11_7
          try clear hfz11_8
          try clear hfz11_9
          try clear hfz16_0
          try clear hfz16_1
          try clear hfz16_10
          try clear hfz16_2
          try clear hfz16_3
          try clear hfz16_4
          try clear hfz16_5
          try clear hfz16_6
          try clear hfz16_7
          try clear hfz16_8
          try clear hfz16_9
          try clear hfz20_0
          try clear hfz20_1
          try clear hfz20_10
          try clear hfz20_2
          try clear hfz20_3
          try clear hfz20_4
          try clear hfz20_5
          try clear hfz20_6
          try clear hfz20_7
          try clear hfz20_8
          try clear hfz20_9
          try clear hfz22_0
          try clear hfz22_1
          try clear hfz22_10
          try clear hfz22_2
          try clear hfz22_3
          try clear hfz22_4
          try clear hfz22_5
          try clear hfz22_6
          try clear hfz22_7
          try clear hfz22_8
          try clear hfz22_9
          try clear hfz26_0
          try clear hfz26_1
          try clear hfz26_2
          try clear hfz31_0
          try clear hfz31_1
          try clear hfz31_10
          try clear hfz31_2
          try clear hfz31_3
          try clear hfz31_4
          try clear hfz31_5
          try clear hfz31_6
          try clear hfz31_7
          try clear hfz31_8
          try clear hfz31_9
          try clear hfz34_0
          try clear hfz34_1
          try clear hfz34_10
          try clear hfz34_2
          try clear hfz34_3
          try clear hfz34_4
          try clear hfz34_5
          try clear hfz34_6
          try clear hfz34_7
          try clear hfz34_8
          try clear hfz34_9
          try clear p2
          obtain ⟨x10_3, rfl, HA, HK3, BK204, BK205, HB⟩ := hrel
          cases gk with
          | zero => exact absurd HA.out (by simp [lunisolar_FromDay.l1])
          | succ k3 =>
           have H := HA.out
           clear HA
           simp only [lunisolar_FromDay.l1] at H
           replace H := o_s H
           obtain ⟨t211, A360, H⟩ := H
           replace H : (if t211 ≤ a1 then (lunisolar_FromDay.l1 k3 a1 x7_2 (wrap64 (x10_3 + 1)) a0_0 a0_1 a0_2 a0_3 a0_4 a0_5 a0_6 a0_7 a0_8 l0_9 l0_10) else ((lunisolar_start.f k3 a0_0 a0_1 a0_2 a0_3 a0_4 a0_5 a0_6 a0_7 a0_8 l0_9 l0_10 x7_2 x10_3).bind fun t212 => (some (x7_2, x10_3, wrap64 ((wrap64 (a1 - t212)) + 1), 0)))) = some (r1, r2, r3, r4) := H
           have A36 := Aside0.mk A360
           clear A360
           by_cases c37 : t211 ≤ a1
           ·rw [if_pos c37] at H
            have c37b0 : decide (t211 ≤ a1) = true := decide_eq_true c37
            clear c37
            have H' := Aside0.mk H
            clear H
            have hnb38 := NB204_205.out
            have hnc38 := NB205_204.out
            have hcz39_0 : wr.cell? ⟨gb204, 0, none⟩ = some (.string a0_0) := (q_c BK204.out 0).trans rfl
            have hcz39_1 : wr.cell? ⟨gb204, 1, none⟩ = some (.int .i64 a0_1) := (q_c BK204.out 1).trans rfl
            have hcz39_2 : wr.cell? ⟨gb204, 2, none⟩ = some (.int .i64 a0_2) := (q_c BK204.out 2).trans rfl
            have hcz39_3 : wr.cell? ⟨gb204, 3, none⟩ = some (.int .i64 a0_3) := (q_c BK204.out 3).trans rfl
            have hcz39_4 : wr.cell? ⟨gb204, 4, none⟩ = some (.int .i64 a0_4) := (q_c BK204.out 4).trans rfl
            have hcz39_5 : wr.cell? ⟨gb204, 5, none⟩ = some (.int .i64 a0_5) := (q_c BK204.out 5).trans rfl
            have hcz39_6 : wr.cell? ⟨gb204, 6, none⟩ = some (.int .i64 a0_6) := (q_c BK204.out 6).trans rfl
            have hcz39_7 : wr.cell? ⟨gb204, 7, none⟩ = some (.int .i64 a0_7) := (q_c BK204.out 7).trans rfl
            have hcz39_8 : wr.cell? ⟨gb204, 8, none⟩ = some (.int .i64 a0_8) := (q_c BK204.out 8).trans rfl
            have hcz39_9 : wr.cell? ⟨gb204, 9, none⟩ = some (.slice A0_9 l0_9.length c0_9) := (q_c BK204.out 9).trans rfl
            have hcz39_10 : wr.cell? ⟨gb204, 10, none⟩ = some (.slice A0_10 l0_10.length c0_10) := (q_c BK204.out 10).trans rfl
            have hfz39_0 := q_f BK204.out 0
            have hfz39_1 := q_f BK204.out 1
            have hfz39_2 := q_f BK204.out 2
            have hfz39_3 := q_f BK204.out 3
            have hfz39_4 := q_f BK204.out 4
            have hfz39_5 := q_f BK204.out 5
            have hfz39_6 := q_f BK204.out 6
            have hfz39_7 := q_f BK204.out 7
            have hfz39_8 := q_f BK204.out 8
            have hfz39_9 := q_f BK204.out 9
            have hfz39_10 := q_f BK204.out 10
            go_wp2_with (first | ((with_reducible refine gate_callee (f := 50) rfl ?_); refine goesL_ (some 54) rfl rfl Try.func50 (by kernel_rfl) rfl #[.agg #[.string a0_0, .int .i64 a0_1, .int .i64 a0_2, .int .i64 a0_3, .int .i64 a0_4, .int .i64 a0_5, .int .i64 a0_6, .int .i64 a0_7, .int .i64 a0_8, .slice A0_9 l0_9.length c0_9, .slice A0_10 l0_10.length c0_10], .int .i64 x7_2, .int .i64 x10_3] rfl (by (try simp only [List.map_toArray, List.map_cons, List.map_nil]); first | done | rfl) ?_; (with_reducible refine (lunisolar_next.calls k3 a0_0 a0_1 a0_2 a0_3 a0_4 a0_5 a0_6 a0_7 a0_8 _ _ l0_9 _ _ l0_10 x7_2 x10_3 t211 _ ?side1 ?side2 ?side3 ?side4 A36.out).mono ?_); (case side1 => repeat (first | exact (Kd.C_below HR0_9.out HB.out) | (with_reducible first | refine c_a ?_ _ | refine c_n ?_ _ | refine c_d ?_))); (case side2 => exact HC0_9.out); (case side3 => repeat (first | exact (Kd.C_below HR0_10.out HB.out) | (with_reducible first | refine c_a ?_ _ | refine c_n ?_ _ | refine c_d ?_))); (case side4 => exact HC0_10.out); rintro e w40 ⟨rfl, hb⟩; refine ⟨_, rfl, ?_⟩; have n0_ := bb_ BK204 hb; have n1_ := bb_ BK205 hb; have n2_ := Aside0.mk (below_step (by repeat (first | (with_reducible first | exact HB.out | apply p_a | apply p_n | apply p_1 | refine p_s ?_ GE204.out | refine p_s ?_ GE205.out) | exact HB.out)) hb); clear BK204; clear BK205; clear HB; have BK204 := n0_; have BK205 := n1_; have HB := n2_; clear n0_ n1_ n2_; (try clear hb); (try clear hb2); (try clear hk); (try clear hi)))
            go_roundg k3
            case measure => have := HJ6.out; have := HK2.out; have := HK3.out; omega
            case rel => exact ⟨(wrap64 (x10_3 + 1)), (by first | rfl | (simp; done) | (simp [*]; done) | (simp [bne]; done) | (simp [i64_w, i32_w]; done)), H', ⟨by have := HJ6.out; have := HK2.out; have := HK3.out; omega⟩, ⟨by (with_reducible repeat (first | refine q_n ?_ _ | refine q_d ?_ | refine q_a ?_ _)); exact BK204.out⟩, ⟨by (with_reducible repeat (first | refine q_n ?_ _ | refine q_d ?_ | refine q_a ?_ _)); exact BK205.out⟩, ⟨by repeat (first | (with_reducible first | exact HB.out | apply p_a | apply p_n | apply p_1 | refine p_s ?_ GE204.out | refine p_s ?_ GE205.out) | exact HB.out)⟩⟩
           ·rw [if_neg c37] at H
            have c37b0 : decide (t211 ≤ a1) = false := decide_eq_false c37
            clear c37
            replace H := o_s H
            obtain ⟨t212, A410, H⟩ := H
            replace H : (some (x7_2, x10_3, wrap64 ((wrap64 (a1 - t212)) + 1), 0)) = some (r1, r2, r3, r4) := H
            have A41 := Aside0.mk A410
            clear A410
            simp only [Option.some.injEq, Prod.mk.injEq] at H
            obtain ⟨rfl, rfl, rfl, rfl⟩ := H
            have hnb42 := NB204_205.out
            have hnc42 := NB205_204.out
            have hcz43_0 : wr.cell? ⟨gb204, 0, none⟩ = some (.string a0_0) := (q_c BK204.out 0).trans rfl
            have hcz43_1 : wr.cell? ⟨gb204, 1, none⟩ = some (.int .i64 a0_1) := (q_c BK204.out 1).trans rfl
            have hcz43_2 : wr.cell? ⟨gb204, 2, none⟩ = some (.int .i64 a0_2) := (q_c BK204.out 2).trans rfl
            have hcz43_3 : wr.cell? ⟨gb204, 3, none⟩ = some (.int .i64 a0_3) := (q_c BK204.out 3).trans rfl
            have hcz43_4 : wr.cell? ⟨gb204, 4, none⟩ = some (.int .i64 a0_4) := (q_c BK204.out 4).trans rfl
            have hcz43_5 : wr.cell? ⟨gb204, 5, none⟩ = some (.int .i64 a0_5) := (q_c BK204.out 5).trans rfl
            have hcz43_6 : wr.cell? ⟨gb204, 6, none⟩ = some (.int .i64 a0_6) := (q_c BK204.out 6).trans rfl
            have hcz43_7 : wr.cell? ⟨gb204, 7, none⟩ = some (.int .i64 a0_7) := (q_c BK204.out 7).trans rfl
            have hcz43_8 : wr.cell? ⟨gb204, 8, none⟩ = some (.int .i64 a0_8) := (q_c BK204.out 8).trans rfl
            have hcz43_9 : wr.cell? ⟨gb204, 9, none⟩ = some (.slice A0_9 l0_9.length c0_9) := (q_c BK204.out 9).trans rfl
            have hcz43_10 : wr.cell? ⟨gb204, 10, none⟩ = some (.slice A0_10 l0_10.length c0_10) := (q_c BK204.out 10).trans rfl
            have hfz43_0 := q_f BK204.out 0
            have hfz43_1 := q_f BK204.out 1
            have hfz43_2 := q_f BK204.out 2
            have hfz43_3 := q_f BK204.out 3
            have hfz43_4 := q_f BK204.out 4
            have hfz43_5 := q_f BK204.out 5
            have hfz43_6 := q_f BK204.out 6
            have hfz43_7 := q_f BK204.out 7
            have hfz43_8 := q_f BK204.out 8
            have hfz43_9 := q_f BK204.out 9
            have hfz43_10 := q_f BK204.out 10
            go_wp2_with (first | ((with_reducible refine gate_callee (f := 50) rfl ?_); refine goesL_ (some 54) rfl rfl Try.func50 (by kernel_rfl) rfl #[.agg #[.string a0_0, .int .i64 a0_1, .int .i64 a0_2, .int .i64 a0_3, .int .i64 a0_4, .int .i64 a0_5, .int .i64 a0_6, .int .i64 a0_7, .int .i64 a0_8, .slice A0_9 l0_9.length c0_9, .slice A0_10 l0_10.length c0_10], .int .i64 x7_2, .int .i64 x10_3] rfl (by (try simp only [List.map_toArray, List.map_cons, List.map_nil]); first | done | rfl) ?_; (with_reducible refine (lunisolar_next.calls k3 a0_0 a0_1 a0_2 a0_3 a0_4 a0_5 a0_6 a0_7 a0_8 _ _ l0_9 _ _ l0_10 x7_2 x10_3 t211 _ ?side1 ?side2 ?side3 ?side4 A36.out).mono ?_); (case side1 => repeat (first | exact (Kd.C_below HR0_9.out HB.out) | (with_reducible first | refine c_a ?_ _ | refine c_n ?_ _ | refine c_d ?_))); (case side2 => exact HC0_9.out); (case side3 => repeat (first | exact (Kd.C_below HR0_10.out HB.out) | (with_reducible first | refine c_a ?_ _ | refine c_n ?_ _ | refine c_d ?_))); (case side4 => exact HC0_10.out); rintro e w44 ⟨rfl, hb⟩; refine ⟨_, rfl, ?_⟩; have n0_ := bb_ BK204 hb; have n1_ := bb_ BK205 hb; have n2_ := Aside0.mk (below_step (by repeat (first | (with_reducible first | exact HB.out | apply p_a | apply p_n | apply p_1 | refine p_s ?_ GE204.out | refine p_s ?_ GE205.out) | exact HB.out)) hb); clear BK204; clear BK205; clear HB; have BK204 := n0_; have BK205 := n1_; have HB := n2_; clear n0_ n1_ n2_; (try clear hb); (try clear hb2); (try clear hk); (try clear hi); have hcz45_0 : w44.cell? ⟨gb204, 0, none⟩ = some (.string a0_0) := (q_c BK204.out 0).trans rfl; have hcz45_1 : w44.cell? ⟨gb204, 1, none⟩ = some (.int .i64 a0_1) := (q_c BK204.out 1).trans rfl; have hcz45_2 : w44.cell? ⟨gb204, 2, none⟩ = some (.int .i64 a0_2) := (q_c BK204.out 2).trans rfl; have hcz45_3 : w44.cell? ⟨gb204, 3, none⟩ = some (.int .i64 a0_3) := (q_c BK204.out 3).trans rfl; have hcz45_4 : w44.cell? ⟨gb204, 4, none⟩ = some (.int .i64 a0_4) := (q_c BK204.out 4).trans rfl; have hcz45_5 : w44.cell? ⟨gb204, 5, none⟩ = some (.int .i64 a0_5) := (q_c BK204.out 5).trans rfl; have hcz45_6 : w44.cell? ⟨gb204, 6, none⟩ = some (.int .i64 a0_6) := (q_c BK204.out 6).trans rfl; have hcz45_7 : w44.cell? ⟨gb204, 7, none⟩ = some (.int .i64 a0_7) := (q_c BK204.out 7).trans rfl; have hcz45_8 : w44.cell? ⟨gb204, 8, none⟩ = some (.int .i64 a0_8) := (q_c BK204.out 8).trans rfl; have hcz45_9 : w44.cell? ⟨gb204, 9, none⟩ = some (.slice A0_9 l0_9.length c0_9) := (q_c BK204.out 9).trans rfl; have hcz45_10 : w44.cell? ⟨gb204, 10, none⟩ = some (.slice A0_10 l0_10.length c0_10) := (q_c BK204.out 10).trans rfl; have hfz45_0 := q_f BK204.out 0; have hfz45_1 := q_f BK204.out 1; have hfz45_2 := q_f BK204.out 2; have hfz45_3 := q_f BK204.out 3; have hfz45_4 := q_f BK204.out 4; have hfz45_5 := q_f BK204.out 5; have hfz45_6 := q_f BK204.out 6; have hfz45_7 := q_f BK204.out 7; have hfz45_8 := q_f BK204.out 8; have hfz45_9 := q_f BK204.out 9; have hfz45_10 := q_f BK204.out 10) | ((with_reducible refine gate_callee (f := 37) rfl ?_); refine goesL_ (some 65) rfl rfl Try.func37 (by kernel_rfl) rfl #[.agg #[.string a0_0, .int .i64 a0_1, .int .i64 a0_2, .int .i64 a0_3, .int .i64 a0_4, .int .i64 a0_5, .int .i64 a0_6, .int .i64 a0_7, .int .i64 a0_8, .slice A0_9 l0_9.length c0_9, .slice A0_10 l0_10.length c0_10], .int .i64 x7_2, .int .i64 x10_3] rfl (by (try simp only [List.map_toArray, List.map_cons, List.map_nil]); first | done | rfl) ?_; (with_reducible refine (lunisolar_start.calls k3 a0_0 a0_1 a0_2 a0_3 a0_4 a0_5 a0_6 a0_7 a0_8 _ _ l0_9 _ _ l0_10 x7_2 x10_3 t212 _ ?side1 ?side2 ?side3 ?side4 A41.out).mono ?_); (case side1 => repeat (first | exact (Kd.C_below HR0_9.out HB.out) | (with_reducible first | refine c_a ?_ _ | refine c_n ?_ _ | refine c_d ?_))); (case side2 => exact HC0_9.out); (case side3 => repeat (first | exact (Kd.C_below HR0_10.out HB.out) | (with_reducible first | refine c_a ?_ _ | refine c_n ?_ _ | refine c_d ?_))); (case side4 => exact HC0_10.out); rintro e w46 ⟨rfl, hb⟩; refine ⟨_, rfl, ?_⟩; have n0_ := bb_ BK204 hb; have n1_ := bb_ BK205 hb; have n2_ := Aside0.mk (below_step (by repeat (first | (with_reducible first | exact HB.out | apply p_a | apply p_n | apply p_1 | refine p_s ?_ GE204.out | refine p_s ?_ GE205.out) | exact HB.out)) hb); clear BK204; clear BK205; clear HB; have BK204 := n0_; have BK205 := n1_; have HB := n2_; clear n0_ n1_ n2_; (try clear hb); (try clear hb2); (try clear hk); (try clear hi); have hcz47_0 : w46.cell? ⟨gb205, 0, none⟩ = some (.int .i64 0) := (q_c BK205.out 0).trans rfl; have hcz47_1 : w46.cell? ⟨gb205, 1, none⟩ = some (.int .i64 0) := (q_c BK205.out 1).trans rfl; have hcz47_2 : w46.cell? ⟨gb205, 2, none⟩ = some (.int .i64 0) := (q_c BK205.out 2).trans rfl; have hfz47_0 := q_f BK205.out 0; have hfz47_1 := q_f BK205.out 1; have hfz47_2 := q_f BK205.out 2))
            refine bodyPost_ret (results_ct rfl _ _ gb205 44 #[.int .i64 x7_2, .int .i64 x10_3, .int .i64 (wrap64 ((wrap64 (a1 - t212)) + 1))] (0, 0) _ rfl (by (with_reducible repeat (first | refine q_n ?_ _ | refine q_d ?_ | refine q_a ?_ _)); refine blk_put (cs := #[.int .i64 x7_2, .int .i64 x10_3, .int .i64 0]) ?_ 2 _ rfl; (with_reducible repeat (first | refine q_n ?_ _ | refine q_d ?_ | refine q_a ?_ _)); refine blk_put (cs := #[.int .i64 x7_2, .int .i64 0, .int .i64 0]) ?_ 1 _ rfl; (with_reducible repeat (first | refine q_n ?_ _ | refine q_d ?_ | refine q_a ?_ _)); refine blk_put (cs := #[.int .i64 0, .int .i64 0, .int .i64 0]) ?_ 0 _ rfl; (with_reducible repeat (first | refine q_n ?_ _ | refine q_d ?_ | refine q_a ?_ _)); exact BK205.out) Try.underlying44 rfl (by kernel_rfl)) rfl ?_
            exact ⟨by first | rfl | (simp [errW_none, errW_some] <;> rfl) | (simp [*, errW_none, errW_some] <;> rfl), by repeat (first | (with_reducible first | exact HB.out | apply p_a | apply p_n | apply p_1 | refine p_s ?_ GE204.out | refine p_s ?_ GE205.out) | exact HB.out)⟩
  ·rw [if_neg c6] at H
   have c6b0 : (t207 == 0) = false := b_f c6
   have c6b1 : (t207 != 0) = true := b_t c6
   simp only [Option.some.injEq, Prod.mk.injEq] at H
   obtain ⟨rfl, rfl, rfl, rfl⟩ := H
   go_enter Try.func20, Try.ntmps20
   go_wp2_with (first | ((with_reducible refine gate_dst (N := 2) rfl ?_); refine box_event ?hg (N := 2) ?hd (cs := #[.string a0_0, .int .i64 a0_1, .int .i64 a0_2, .int .i64 a0_3, .int .i64 a0_4, .int .i64 a0_5, .int .i64 a0_6, .int .i64 a0_7, .int .i64 a0_8, .slice A0_9 l0_9.length c0_9, .slice A0_10 l0_10.length c0_10]) (t := 26) ?hr ?_; (case hd => rfl); (case hg => rfl); (case hr => first | (go_simp; done) | (go_simp; rfl)); intro gb204 hg w48 hbox hb; have n0_ := Aside0.mk (below_step (by repeat (first | (with_reducible first | exact HB.out | apply p_a | apply p_n | apply p_1) | exact HB.out)) hb); have n1_ := Aside0.mk (hbox); have n2_ := Aside0.mk ((by rw [hg]; exact (below_size (by repeat (first | (with_reducible first | exact HB.out | apply p_a | apply p_n | apply p_1) | exact HB.out))) : w.heap.size ≤ gb204)); have n3_ := n2_; clear HB; have HB := n0_; have BK204 := n1_; have GW204 := n2_; have GE204 := n3_; clear n0_ n1_ n2_ n3_; clear hb hbox hg) | ((with_reducible refine gate_dst (N := 4) rfl ?_); refine box_event ?hg (N := 4) ?hd (cs := #[.int .i64 0, .int .i64 0, .int .i64 0]) (t := 44) ?hr ?_; (case hd => rfl); (case hg => rfl); (case hr => first | (go_simp; done) | (go_simp; rfl)); intro gb205 hg w49 hbox hb; have n0_ := bb_ BK204 hb; have n1_ := Aside0.mk (below_step (by repeat (first | (with_reducible first | exact HB.out | apply p_a | apply p_n | apply p_1 | refine p_s ?_ GE204.out) | exact HB.out)) hb); have n2_ := Aside0.mk (hbox); have n3_ := Aside0.mk ((by rw [hg]; exact (below_size (by repeat (first | (with_reducible first | exact HB.out | apply p_a | apply p_n | apply p_1 | refine p_s ?_ GE204.out) | exact HB.out))) : w.heap.size ≤ gb205)); have n4_ := n3_; have n5_ := bl_ BK204 hg; have n6_ := bg_ BK204 hg; clear BK204; clear HB; have BK204 := n0_; have HB := n1_; have BK205 := n2_; have GW205 := n3_; have GE205 := n4_; have NB204_205 := n5_; have NB205_204 := n6_; clear n0_ n1_ n2_ n3_ n4_ n5_ n6_; clear hb hbox hg; have hnb50 := NB204_205.out; have hnc50 := NB205_204.out; have hcz51_0 : w49.cell? ⟨gb204, 0, none⟩ = some (.string a0_0) := (q_c BK204.out 0).trans rfl; have hcz51_1 : w49.cell? ⟨gb204, 1, none⟩ = some (.int .i64 a0_1) := (q_c BK204.out 1).trans rfl; have hcz51_2 : w49.cell? ⟨gb204, 2, none⟩ = some (.int .i64 a0_2) := (q_c BK204.out 2).trans rfl; have hcz51_3 : w49.cell? ⟨gb204, 3, none⟩ = some (.int .i64 a0_3) := (q_c BK204.out 3).trans rfl; have hcz51_4 : w49.cell? ⟨gb204, 4, none⟩ = some (.int .i64 a0_4) := (q_c BK204.out 4).trans rfl; have hcz51_5 : w49.cell? ⟨gb204, 5, none⟩ = some (.int .i64 a0_5) := (q_c BK204.out 5).trans rfl; have hcz51_6 : w49.cell? ⟨gb204, 6, none⟩ = some (.int .i64 a0_6) := (q_c BK204.out 6).trans rfl; have hcz51_7 : w49.cell? ⟨gb204, 7, none⟩ = some (.int .i64 a0_7) := (q_c BK204.out 7).trans rfl; have hcz51_8 : w49.cell? ⟨gb204, 8, none⟩ = some (.int .i64 a0_8) := (q_c BK204.out 8).trans rfl; have hcz51_9 : w49.cell? ⟨gb204, 9, none⟩ = some (.slice A0_9 l0_9.length c0_9) := (q_c BK204.out 9).trans rfl; have hcz51_10 : w49.cell? ⟨gb204, 10, none⟩ = some (.slice A0_10 l0_10.length c0_10) := (q_c BK204.out 10).trans rfl; have hfz51_0 := q_f BK204.out 0; have hfz51_1 := q_f BK204.out 1; have hfz51_2 := q_f BK204.out 2; have hfz51_3 := q_f BK204.out 3; have hfz51_4 := q_f BK204.out 4; have hfz51_5 := q_f BK204.out 5; have hfz51_6 := q_f BK204.out 6; have hfz51_7 := q_f BK204.out 7; have hfz51_8 := q_f BK204.out 8; have hfz51_9 := q_f BK204.out 9; have hfz51_10 := q_f BK204.out 10) | ((with_reducible refine gate_callee (f := 12) rfl ?_); refine goesL_ (some 12) rfl rfl Try.func12 (by kernel_rfl) rfl #[.agg #[.string a0_0, .int .i64 a0_1, .int .i64 a0_2, .int .i64 a0_3, .int .i64 a0_4, .int .i64 a0_5, .int .i64 a0_6, .int .i64 a0_7, .int .i64 a0_8, .slice A0_9 l0_9.length c0_9, .slice A0_10 l0_10.length c0_10]] rfl (by (try simp only [List.map_toArray, List.map_cons, List.map_nil]); first | done | rfl) ?_; (with_reducible refine (lunisolar_Check.calls k a0_0 a0_1 a0_2 a0_3 a0_4 a0_5 a0_6 a0_7 a0_8 _ _ l0_9 _ _ l0_10 t206 _ ?side1 ?side2 ?side3 ?side4 A3.out).mono ?_); (case side1 => repeat (first | exact (Kd.C_below HR0_9.out HB.out) | (with_reducible first | refine c_a ?_ _ | refine c_n ?_ _ | refine c_d ?_))); (case side2 => exact HC0_9.out); (case side3 => repeat (first | exact (Kd.C_below HR0_10.out HB.out) | (with_reducible first | refine c_a ?_ _ | refine c_n ?_ _ | refine c_d ?_))); (case side4 => exact HC0_10.out); rintro e w52 ⟨rfl, hb⟩; refine ⟨_, rfl, ?_⟩; have n0_ := bb_ BK204 hb; have n1_ := bb_ BK205 hb; have n2_ := Aside0.mk (below_step (by repeat (first | (with_reducible first | exact HB.out | apply p_a | apply p_n | apply p_1 | refine p_s ?_ GE204.out | refine p_s ?_ GE205.out) | exact HB.out)) hb); clear BK204; clear BK205; clear HB; have BK204 := n0_; have BK205 := n1_; have HB := n2_; clear n0_ n1_ n2_; (try clear hb); (try clear hb2); (try clear hk); (try clear hi)) | ((with_reducible refine gate_callee (f := 38) rfl ?_); refine goesL_ (some 18) rfl rfl Try.func38 (by kernel_rfl) rfl #[.int .i64 a1] rfl (by (try simp only [List.map_toArray, List.map_cons, List.map_nil]); first | done | rfl) ?_; (with_reducible refine (line_Check.calls a1 t207 _ A5.out).mono ?_); rintro e w' ⟨rfl, ⟨nd, rfl⟩⟩; refine ⟨_, rfl, ?_⟩; (try (rw [drewN_self w52]; generalize hq_ : World.drewN w52 _ = w52; have n0_ : Aside0 (w52.heap[gb204]? = some (.cells #[.string a0_0, .int .i64 a0_1, .int .i64 a0_2, .int .i64 a0_3, .int .i64 a0_4, .int .i64 a0_5, .int .i64 a0_6, .int .i64 a0_7, .int .i64 a0_8, .slice A0_9 l0_9.length c0_9, .slice A0_10 l0_10.length c0_10] 26 (0, 0))) := ⟨by rw [← hq_]; exact (by (with_reducible repeat (first | refine q_n ?_ _ | refine q_d ?_ | refine q_a ?_ _)); exact BK204.out)⟩; have n1_ : Aside0 (w52.heap[gb205]? = some (.cells #[.int .i64 0, .int .i64 0, .int .i64 0] 44 (0, 0))) := ⟨by rw [← hq_]; exact (by (with_reducible repeat (first | refine q_n ?_ _ | refine q_d ?_ | refine q_a ?_ _)); exact BK205.out)⟩; have n2_ : Aside0 (Below w.heap.size w w52) := ⟨by rw [← hq_]; exact (by repeat (first | (with_reducible first | exact HB.out | apply p_a | apply p_n | apply p_1 | refine p_s ?_ GE204.out | refine p_s ?_ GE205.out) | exact HB.out))⟩; clear BK204 BK205 HB hq_; have BK204 := n0_; have BK205 := n1_; have HB := n2_; clear n0_ n1_ n2_)); have hcz53_0 : w52.cell? ⟨gb205, 0, none⟩ = some (.int .i64 0) := (q_c BK205.out 0).trans rfl; have hcz53_1 : w52.cell? ⟨gb205, 1, none⟩ = some (.int .i64 0) := (q_c BK205.out 1).trans rfl; have hcz53_2 : w52.cell? ⟨gb205, 2, none⟩ = some (.int .i64 0) := (q_c BK205.out 2).trans rfl; have hfz53_0 := q_f BK205.out 0; have hfz53_1 := q_f BK205.out 1; have hfz53_2 := q_f BK205.out 2))
   refine bodyPost_ret (results_ct rfl _ _ gb205 44 #[.int .i64 0, .int .i64 0, .int .i64 0] (0, 0) _ rfl (by (with_reducible repeat (first | refine q_n ?_ _ | refine q_d ?_ | refine q_a ?_ _)); refine blk_put (cs := #[.int .i64 0, .int .i64 0, .int .i64 0]) ?_ 2 _ rfl; (with_reducible repeat (first | refine q_n ?_ _ | refine q_d ?_ | refine q_a ?_ _)); refine blk_put (cs := #[.int .i64 0, .int .i64 0, .int .i64 0]) ?_ 1 _ rfl; (with_reducible repeat (first | refine q_n ?_ _ | refine q_d ?_ | refine q_a ?_ _)); refine blk_put (cs := #[.int .i64 0, .int .i64 0, .int .i64 0]) ?_ 0 _ rfl; (with_reducible repeat (first | refine q_n ?_ _ | refine q_d ?_ | refine q_a ?_ _)); exact BK205.out) Try.underlying44 rfl (by kernel_rfl)) rfl ?_
   exact ⟨by first | rfl | (simp [errW_none, errW_some] <;> rfl) | (simp [*, errW_none, errW_some] <;> rfl), by repeat (first | (with_reducible first | exact HB.out | apply p_a | apply p_n | apply p_1 | refine p_s ?_ GE204.out | refine p_s ?_ GE205.out) | exact HB.out)⟩
 ·rw [if_neg c4] at H
  have c4b0 : (t206 == 0) = false := b_f c4
  have c4b1 : (t206 != 0) = true := b_t c4
  simp only [Option.some.injEq, Prod.mk.injEq] at H
  obtain ⟨rfl, rfl, rfl, rfl⟩ := H
  go_enter Try.func20, Try.ntmps20
  go_wp2_with (first | ((with_reducible refine gate_dst (N := 2) rfl ?_); refine box_event ?hg (N := 2) ?hd (cs := #[.string a0_0, .int .i64 a0_1, .int .i64 a0_2, .int .i64 a0_3, .int .i64 a0_4, .int .i64 a0_5, .int .i64 a0_6, .int .i64 a0_7, .int .i64 a0_8, .slice A0_9 l0_9.length c0_9, .slice A0_10 l0_10.length c0_10]) (t := 26) ?hr ?_; (case hd => rfl); (case hg => rfl); (case hr => first | (go_simp; done) | (go_simp; rfl)); intro gb204 hg w54 hbox hb; have n0_ := Aside0.mk (below_step (by repeat (first | (with_reducible first | exact HB.out | apply p_a | apply p_n | apply p_1) | exact HB.out)) hb); have n1_ := Aside0.mk (hbox); have n2_ := Aside0.mk ((by rw [hg]; exact (below_size (by repeat (first | (with_reducible first | exact HB.out | apply p_a | apply p_n | apply p_1) | exact HB.out))) : w.heap.size ≤ gb204)); have n3_ := n2_; clear HB; have HB := n0_; have BK204 := n1_; have GW204 := n2_; have GE204 := n3_; clear n0_ n1_ n2_ n3_; clear hb hbox hg) | ((with_reducible refine gate_dst (N := 4) rfl ?_); refine box_event ?hg (N := 4) ?hd (cs := #[.int .i64 0, .int .i64 0, .int .i64 0]) (t := 44) ?hr ?_; (case hd => rfl); (case hg => rfl); (case hr => first | (go_simp; done) | (go_simp; rfl)); intro gb205 hg w55 hbox hb; have n0_ := bb_ BK204 hb; have n1_ := Aside0.mk (below_step (by repeat (first | (with_reducible first | exact HB.out | apply p_a | apply p_n | apply p_1 | refine p_s ?_ GE204.out) | exact HB.out)) hb); have n2_ := Aside0.mk (hbox); have n3_ := Aside0.mk ((by rw [hg]; exact (below_size (by repeat (first | (with_reducible first | exact HB.out | apply p_a | apply p_n | apply p_1 | refine p_s ?_ GE204.out) | exact HB.out))) : w.heap.size ≤ gb205)); have n4_ := n3_; have n5_ := bl_ BK204 hg; have n6_ := bg_ BK204 hg; clear BK204; clear HB; have BK204 := n0_; have HB := n1_; have BK205 := n2_; have GW205 := n3_; have GE205 := n4_; have NB204_205 := n5_; have NB205_204 := n6_; clear n0_ n1_ n2_ n3_ n4_ n5_ n6_; clear hb hbox hg; have hnb56 := NB204_205.out; have hnc56 := NB205_204.out; have hcz57_0 : w55.cell? ⟨gb204, 0, none⟩ = some (.string a0_0) := (q_c BK204.out 0).trans rfl; have hcz57_1 : w55.cell? ⟨gb204, 1, none⟩ = some (.int .i64 a0_1) := (q_c BK204.out 1).trans rfl; have hcz57_2 : w55.cell? ⟨gb204, 2, none⟩ = some (.int .i64 a0_2) := (q_c BK204.out 2).trans rfl; have hcz57_3 : w55.cell? ⟨gb204, 3, none⟩ = some (.int .i64 a0_3) := (q_c BK204.out 3).trans rfl; have hcz57_4 : w55.cell? ⟨gb204, 4, none⟩ = some (.int .i64 a0_4) := (q_c BK204.out 4).trans rfl; have hcz57_5 : w55.cell? ⟨gb204, 5, none⟩ = some (.int .i64 a0_5) := (q_c BK204.out 5).trans rfl; have hcz57_6 : w55.cell? ⟨gb204, 6, none⟩ = some (.int .i64 a0_6) := (q_c BK204.out 6).trans rfl; have hcz57_7 : w55.cell? ⟨gb204, 7, none⟩ = some (.int .i64 a0_7) := (q_c BK204.out 7).trans rfl; have hcz57_8 : w55.cell? ⟨gb204, 8, none⟩ = some (.int .i64 a0_8) := (q_c BK204.out 8).trans rfl; have hcz57_9 : w55.cell? ⟨gb204, 9, none⟩ = some (.slice A0_9 l0_9.length c0_9) := (q_c BK204.out 9).trans rfl; have hcz57_10 : w55.cell? ⟨gb204, 10, none⟩ = some (.slice A0_10 l0_10.length c0_10) := (q_c BK204.out 10).trans rfl; have hfz57_0 := q_f BK204.out 0; have hfz57_1 := q_f BK204.out 1; have hfz57_2 := q_f BK204.out 2; have hfz57_3 := q_f BK204.out 3; have hfz57_4 := q_f BK204.out 4; have hfz57_5 := q_f BK204.out 5; have hfz57_6 := q_f BK204.out 6; have hfz57_7 := q_f BK204.out 7; have hfz57_8 := q_f BK204.out 8; have hfz57_9 := q_f BK204.out 9; have hfz57_10 := q_f BK204.out 10) | ((with_reducible refine gate_callee (f := 12) rfl ?_); refine goesL_ (some 12) rfl rfl Try.func12 (by kernel_rfl) rfl #[.agg #[.string a0_0, .int .i64 a0_1, .int .i64 a0_2, .int .i64 a0_3, .int .i64 a0_4, .int .i64 a0_5, .int .i64 a0_6, .int .i64 a0_7, .int .i64 a0_8, .slice A0_9 l0_9.length c0_9, .slice A0_10 l0_10.length c0_10]] rfl (by (try simp only [List.map_toArray, List.map_cons, List.map_nil]); first | done | rfl) ?_; (with_reducible refine (lunisolar_Check.calls k a0_0 a0_1 a0_2 a0_3 a0_4 a0_5 a0_6 a0_7 a0_8 _ _ l0_9 _ _ l0_10 t206 _ ?side1 ?side2 ?side3 ?side4 A3.out).mono ?_); (case side1 => repeat (first | exact (Kd.C_below HR0_9.out HB.out) | (with_reducible first | refine c_a ?_ _ | refine c_n ?_ _ | refine c_d ?_))); (case side2 => exact HC0_9.out); (case side3 => repeat (first | exact (Kd.C_below HR0_10.out HB.out) | (with_reducible first | refine c_a ?_ _ | refine c_n ?_ _ | refine c_d ?_))); (case side4 => exact HC0_10.out); rintro e w58 ⟨rfl, hb⟩; refine ⟨_, rfl, ?_⟩; have n0_ := bb_ BK204 hb; have n1_ := bb_ BK205 hb; have n2_ := Aside0.mk (below_step (by repeat (first | (with_reducible first | exact HB.out | apply p_a | apply p_n | apply p_1 | refine p_s ?_ GE204.out | refine p_s ?_ GE205.out) | exact HB.out)) hb); clear BK204; clear BK205; clear HB; have BK204 := n0_; have BK205 := n1_; have HB := n2_; clear n0_ n1_ n2_; (try clear hb); (try clear hb2); (try clear hk); (try clear hi); have hcz59_0 : w58.cell? ⟨gb205, 0, none⟩ = some (.int .i64 0) := (q_c BK205.out 0).trans rfl; have hcz59_1 : w58.cell? ⟨gb205, 1, none⟩ = some (.int .i64 0) := (q_c BK205.out 1).trans rfl; have hcz59_2 : w58.cell? ⟨gb205, 2, none⟩ = some (.int .i64 0) := (q_c BK205.out 2).trans rfl; have hfz59_0 := q_f BK205.out 0; have hfz59_1 := q_f BK205.out 1; have hfz59_2 := q_f BK205.out 2))
  refine bodyPost_ret (results_ct rfl _ _ gb205 44 #[.int .i64 0, .int .i64 0, .int .i64 0] (0, 0) _ rfl (by (with_reducible repeat (first | refine q_n ?_ _ | refine q_d ?_ | refine q_a ?_ _)); refine blk_put (cs := #[.int .i64 0, .int .i64 0, .int .i64 0]) ?_ 2 _ rfl; (with_reducible repeat (first | refine q_n ?_ _ | refine q_d ?_ | refine q_a ?_ _)); refine blk_put (cs := #[.int .i64 0, .int .i64 0, .int .i64 0]) ?_ 1 _ rfl; (with_reducible repeat (first | refine q_n ?_ _ | refine q_d ?_ | refine q_a ?_ _)); refine blk_put (cs := #[.int .i64 0, .int .i64 0, .int .i64 0]) ?_ 0 _ rfl; (with_reducible repeat (first | refine q_n ?_ _ | refine q_d ?_ | refine q_a ?_ _)); exact BK205.out) Try.underlying44 rfl (by kernel_rfl)) rfl ?_
  exact ⟨by first | rfl | (simp [errW_none, errW_some] <;> rfl) | (simp [*, errW_none, errW_some] <;> rfl), by repeat (first | (with_reducible first | exact HB.out | apply p_a | apply p_n | apply p_1 | refine p_s ?_ GE204.out | refine p_s ?_ GE205.out) | exact HB.out)⟩

end Go.Proofs.Ytidjaahpabppaaa.QObservedSame
