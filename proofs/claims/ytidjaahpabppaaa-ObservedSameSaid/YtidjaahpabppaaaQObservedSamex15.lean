import Derived.Test.YtidjaahpabppaaaFar
import Derived.Test.YtidjaahpabppaaaQObservedSamex0
import Derived.Test.YtidjaahpabppaaaQObservedSamex1
import Derived.Test.YtidjaahpabppaaaQObservedSamex8
import Derived.Test.YtidjaahpabppaaaQObservedSamex10
import Derived.Test.YtidjaahpabppaaaQObservedSamex14
namespace Go.Proofs.Ytidjaahpabppaaa.QObservedSame
open Go.RowKit Go.Proofs.YtidjaahpabppaaaW.PrintWords Go.Proofs.YtidjaahpabppaaaW.PrintLast Go.Proofs.YtidjaahpabppaaaW.PrintMore Go.Proofs.YtidjaahpabppaaaFar
attribute [local go_sem] max2_int min2_int max_two min_two max_three min_three max_four min_four
set_option linter.unusedVariables false
set_option linter.unusedSimpArgs false

/-! ### lunisolar_Begin: function 11 -/
def lunisolar_Begin.j0 : Nat → Int → Int → Bool → ByteArray → Int → Int → Int → Int → Int → Int → Int → Int → List Int → List Int → Option (Int × Int)
 | 0, _, _, _, _, _, _, _, _, _, _, _, _, _, _ => none
 | k + 1, x1, x2, x24, x150000, x150001, x150002, x150003, x150004, x150005, x150006, x150007, x150008, x150009, x150010 => if x24 = true then (some (0, 1)) else ((lunisolar_start.f k x150000 x150001 x150002 x150003 x150004 x150005 x150006 x150007 x150008 x150009 x150010 x1 x2).bind fun t152 => ((line_Check.f t152).bind fun t153 => (if t153 = 0 then (some (t152, 0)) else (some (0, 3)))))
def lunisolar_Begin.f (k : Nat) (a0_0 : ByteArray) (a0_1 : Int) (a0_2 : Int) (a0_3 : Int) (a0_4 : Int) (a0_5 : Int) (a0_6 : Int) (a0_7 : Int) (a0_8 : Int) (l0_9 : List Int) (l0_10 : List Int) (a1 : Int) (a2 : Int) : Option (Int × Int) := (lunisolar_begin.f k a0_0 a0_1 a0_2 a0_3 a0_4 a0_5 a0_6 a0_7 a0_8 l0_9 l0_10 a1).bind fun t150 => (if t150 = 0 then (if a2 < 1 then (lunisolar_Begin.j0 k a1 a2 true a0_0 a0_1 a0_2 a0_3 a0_4 a0_5 a0_6 a0_7 a0_8 l0_9 l0_10) else ((lunisolar_months.f a0_0 a0_1 a0_2 a0_3 a0_4 a0_5 a0_6 a0_7 a0_8 l0_9 l0_10 a1).bind fun t151 => (lunisolar_Begin.j0 k a1 a2 (decide (a2 > t151)) a0_0 a0_1 a0_2 a0_3 a0_4 a0_5 a0_6 a0_7 a0_8 l0_9 l0_10))) else (some (0, t150)))
theorem lunisolar_Begin.mono_l : ∀ k, (∀ y0 y1 y2 y3 y4 y5 y6 y7 y8 y9 y10 y11 y12 y13, LeO (lunisolar_Begin.j0 k y0 y1 y2 y3 y4 y5 y6 y7 y8 y9 y10 y11 y12 y13) (lunisolar_Begin.j0 (k + 1) y0 y1 y2 y3 y4 y5 y6 y7 y8 y9 y10 y11 y12 y13))
 | 0 => fun _ _ _ _ _ _ _ _ _ _ _ _ _ _ r h => by simp [lunisolar_Begin.j0] at h
 | k + 1 => by
  have ih0 := lunisolar_Begin.mono_l k
  ·intro y0 y1 y2 y3 y4 y5 y6 y7 y8 y9 y10 y11 y12 y13
   unfold lunisolar_Begin.j0
   repeat' first
   | (with_reducible exact ih0 _ _ _ _ _ _ _ _ _ _ _ _ _ _)
   | (with_reducible exact lunisolar_begin.mono _ _ _ _ _ _ _ _ _ _ _ _ _)
   | (with_reducible exact lunisolar_start.mono _ _ _ _ _ _ _ _ _ _ _ _ _ _)
   | (with_reducible exact LeO.refl _)
   | (with_reducible exact LeO.none _)
   | (with_reducible refine LeO.ite ?_ ?_)
   | (with_reducible refine LeO.bind ?_ (fun _ => ?_))
   | exact ih0 _ _ _ _ _ _ _ _ _ _ _ _ _ _
   | exact lunisolar_begin.mono _ _ _ _ _ _ _ _ _ _ _ _ _
   | exact lunisolar_start.mono _ _ _ _ _ _ _ _ _ _ _ _ _ _
   | exact LeO.none _
   | refine LeO.ite ?_ ?_
   | refine LeO.bind ?_ (fun _ => ?_)
theorem lunisolar_Begin.mono : ∀ a0 a1 a2 a3 a4 a5 a6 a7 a8 a9 a10 a11 a12 k, LeO (lunisolar_Begin.f k a0 a1 a2 a3 a4 a5 a6 a7 a8 a9 a10 a11 a12) (lunisolar_Begin.f (k + 1) a0 a1 a2 a3 a4 a5 a6 a7 a8 a9 a10 a11 a12) := by
 intro a0 a1 a2 a3 a4 a5 a6 a7 a8 a9 a10 a11 a12 k
 have ih0 := lunisolar_Begin.mono_l k
 unfold lunisolar_Begin.f
 repeat' first
   | (with_reducible exact ih0 _ _ _ _ _ _ _ _ _ _ _ _ _ _)
   | (with_reducible exact lunisolar_begin.mono _ _ _ _ _ _ _ _ _ _ _ _ _)
   | (with_reducible exact lunisolar_start.mono _ _ _ _ _ _ _ _ _ _ _ _ _ _)
   | (with_reducible exact LeO.refl _)
   | (with_reducible exact LeO.none _)
   | (with_reducible refine LeO.ite ?_ ?_)
   | (with_reducible refine LeO.bind ?_ (fun _ => ?_))
   | exact ih0 _ _ _ _ _ _ _ _ _ _ _ _ _ _
   | exact lunisolar_begin.mono _ _ _ _ _ _ _ _ _ _ _ _ _
   | exact lunisolar_start.mono _ _ _ _ _ _ _ _ _ _ _ _ _ _
   | exact LeO.none _
   | refine LeO.ite ?_ ?_
   | refine LeO.bind ?_ (fun _ => ?_)
set_option maxHeartbeats 8000000 in
set_option maxRecDepth 100000 in
theorem lunisolar_Begin.calls (k : Nat) (a0_0 : ByteArray) (a0_1 : Int) (a0_2 : Int) (a0_3 : Int) (a0_4 : Int) (a0_5 : Int) (a0_6 : Int) (a0_7 : Int) (a0_8 : Int) (A0_9 : Option Addr) (c0_9 : Nat) (l0_9 : List Int) (A0_10 : Option Addr) (c0_10 : Nat) (l0_10 : List Int) (a1 : Int) (a2 : Int) (r1 : Int) (r2 : Int) (w : World) (hr0_9 : Kd.C (Kd.int .i64) w A0_9 l0_9.length l0_9) (hc0_9 : l0_9.length ≤ c0_9) (hr0_10 : Kd.C (Kd.int .i64) w A0_10 l0_10.length l0_10) (hc0_10 : l0_10.length ≤ c0_10) (h : lunisolar_Begin.f k a0_0 a0_1 a0_2 a0_3 a0_4 a0_5 a0_6 a0_7 a0_8 l0_9 l0_10 a1 a2 = some (r1, r2)) :
  Calls Try.prog 11 #[.agg #[.string a0_0, .int .i64 a0_1, .int .i64 a0_2, .int .i64 a0_3, .int .i64 a0_4, .int .i64 a0_5, .int .i64 a0_6, .int .i64 a0_7, .int .i64 a0_8, .slice A0_9 l0_9.length c0_9, .slice A0_10 l0_10.length c0_10], .int .i64 a1, .int .i64 a2] w fun e w' => e = .returned (.tuple #[.int .i64 r1, .int .i64 r2]) ∧ Below w.heap.size w w' := by
 have hu26 := Try.underlying26
 have HR0_9 := Aside0.mk hr0_9
 have HC0_9 := Aside0.mk hc0_9
 clear hr0_9 hc0_9
 have HR0_10 := Aside0.mk hr0_10
 have HC0_10 := Aside0.mk hc0_10
 clear hr0_10 hc0_10
 have HB := Aside0.mk (Below.refl w.heap.size w)
 have H : ((lunisolar_begin.f k a0_0 a0_1 a0_2 a0_3 a0_4 a0_5 a0_6 a0_7 a0_8 l0_9 l0_10 a1).bind fun t150 => (if t150 = 0 then (if a2 < 1 then (lunisolar_Begin.j0 k a1 a2 true a0_0 a0_1 a0_2 a0_3 a0_4 a0_5 a0_6 a0_7 a0_8 l0_9 l0_10) else ((lunisolar_months.f a0_0 a0_1 a0_2 a0_3 a0_4 a0_5 a0_6 a0_7 a0_8 l0_9 l0_10 a1).bind fun t151 => (lunisolar_Begin.j0 k a1 a2 (decide (a2 > t151)) a0_0 a0_1 a0_2 a0_3 a0_4 a0_5 a0_6 a0_7 a0_8 l0_9 l0_10))) else (some (0, t150)))) = some (r1, r2) := h
 clear h
 replace H := o_s H
 obtain ⟨t150, A40, H⟩ := H
 replace H : (if t150 = 0 then (if a2 < 1 then (lunisolar_Begin.j0 k a1 a2 true a0_0 a0_1 a0_2 a0_3 a0_4 a0_5 a0_6 a0_7 a0_8 l0_9 l0_10) else ((lunisolar_months.f a0_0 a0_1 a0_2 a0_3 a0_4 a0_5 a0_6 a0_7 a0_8 l0_9 l0_10 a1).bind fun t151 => (lunisolar_Begin.j0 k a1 a2 (decide (a2 > t151)) a0_0 a0_1 a0_2 a0_3 a0_4 a0_5 a0_6 a0_7 a0_8 l0_9 l0_10))) else (some (0, t150))) = some (r1, r2) := H
 have A4 := Aside0.mk A40
 clear A40
 by_cases c5 : t150 = 0
 ·rw [if_pos c5] at H
  have c5b0 : (t150 == 0) = true := beq_iff_eq.mpr c5
  have c5b1 : (t150 != 0) = false := bne_eq_false_iff_eq.mpr c5
  clear c5
  have HC6 := Aside0.mk H
  clear H
  go_enter Try.func11, Try.ntmps11
  go_upto_region 4 with (first | ((with_reducible refine gate_dst (N := 3) rfl ?_); refine box_event ?hg (N := 3) ?hd (cs := #[.string a0_0, .int .i64 a0_1, .int .i64 a0_2, .int .i64 a0_3, .int .i64 a0_4, .int .i64 a0_5, .int .i64 a0_6, .int .i64 a0_7, .int .i64 a0_8, .slice A0_9 l0_9.length c0_9, .slice A0_10 l0_10.length c0_10]) (t := 26) ?hr ?_; (case hd => rfl); (case hg => rfl); (case hr => first | (go_simp; done) | (go_simp; rfl)); intro gb149 hg w7 hbox hb; have n0_ := Aside0.mk (below_step (by repeat (first | (with_reducible first | exact HB.out | apply p_a | apply p_n | apply p_1) | exact HB.out)) hb); have n1_ := Aside0.mk (hbox); have n2_ := Aside0.mk ((by rw [hg]; exact (below_size (by repeat (first | (with_reducible first | exact HB.out | apply p_a | apply p_n | apply p_1) | exact HB.out))) : w.heap.size ≤ gb149)); have n3_ := n2_; clear HB; have HB := n0_; have BK149 := n1_; have GW149 := n2_; have GE149 := n3_; clear n0_ n1_ n2_ n3_; clear hb hbox hg; have hcz8_0 : w7.cell? ⟨gb149, 0, none⟩ = some (.string a0_0) := (q_c BK149.out 0).trans rfl; have hcz8_1 : w7.cell? ⟨gb149, 1, none⟩ = some (.int .i64 a0_1) := (q_c BK149.out 1).trans rfl; have hcz8_2 : w7.cell? ⟨gb149, 2, none⟩ = some (.int .i64 a0_2) := (q_c BK149.out 2).trans rfl; have hcz8_3 : w7.cell? ⟨gb149, 3, none⟩ = some (.int .i64 a0_3) := (q_c BK149.out 3).trans rfl; have hcz8_4 : w7.cell? ⟨gb149, 4, none⟩ = some (.int .i64 a0_4) := (q_c BK149.out 4).trans rfl; have hcz8_5 : w7.cell? ⟨gb149, 5, none⟩ = some (.int .i64 a0_5) := (q_c BK149.out 5).trans rfl; have hcz8_6 : w7.cell? ⟨gb149, 6, none⟩ = some (.int .i64 a0_6) := (q_c BK149.out 6).trans rfl; have hcz8_7 : w7.cell? ⟨gb149, 7, none⟩ = some (.int .i64 a0_7) := (q_c BK149.out 7).trans rfl; have hcz8_8 : w7.cell? ⟨gb149, 8, none⟩ = some (.int .i64 a0_8) := (q_c BK149.out 8).trans rfl; have hcz8_9 : w7.cell? ⟨gb149, 9, none⟩ = some (.slice A0_9 l0_9.length c0_9) := (q_c BK149.out 9).trans rfl; have hcz8_10 : w7.cell? ⟨gb149, 10, none⟩ = some (.slice A0_10 l0_10.length c0_10) := (q_c BK149.out 10).trans rfl; have hfz8_0 := q_f BK149.out 0; have hfz8_1 := q_f BK149.out 1; have hfz8_2 := q_f BK149.out 2; have hfz8_3 := q_f BK149.out 3; have hfz8_4 := q_f BK149.out 4; have hfz8_5 := q_f BK149.out 5; have hfz8_6 := q_f BK149.out 6; have hfz8_7 := q_f BK149.out 7; have hfz8_8 := q_f BK149.out 8; have hfz8_9 := q_f BK149.out 9; have hfz8_10 := q_f BK149.out 10) | ((with_reducible refine gate_callee (f := 35) rfl ?_); refine goesL_ (some 12) rfl rfl Try.func35 (by kernel_rfl) rfl #[.agg #[.string a0_0, .int .i64 a0_1, .int .i64 a0_2, .int .i64 a0_3, .int .i64 a0_4, .int .i64 a0_5, .int .i64 a0_6, .int .i64 a0_7, .int .i64 a0_8, .slice A0_9 l0_9.length c0_9, .slice A0_10 l0_10.length c0_10], .int .i64 a1] rfl (by (try simp only [List.map_toArray, List.map_cons, List.map_nil]); first | done | rfl) ?_; (with_reducible refine (lunisolar_begin.calls k a0_0 a0_1 a0_2 a0_3 a0_4 a0_5 a0_6 a0_7 a0_8 _ _ l0_9 _ _ l0_10 a1 t150 _ ?side1 ?side2 ?side3 ?side4 A4.out).mono ?_); (case side1 => repeat (first | exact (Kd.C_below HR0_9.out HB.out) | (with_reducible first | refine c_a ?_ _ | refine c_n ?_ _ | refine c_d ?_))); (case side2 => exact HC0_9.out); (case side3 => repeat (first | exact (Kd.C_below HR0_10.out HB.out) | (with_reducible first | refine c_a ?_ _ | refine c_n ?_ _ | refine c_d ?_))); (case side4 => exact HC0_10.out); rintro e w9 ⟨rfl, hb⟩; refine ⟨_, rfl, ?_⟩; have n0_ := bb_ BK149 hb; have n1_ := Aside0.mk (below_step (by repeat (first | (with_reducible first | exact HB.out | apply p_a | apply p_n | apply p_1 | refine p_s ?_ GE149.out) | exact HB.out)) hb); clear BK149; clear HB; have BK149 := n0_; have HB := n1_; clear n0_ n1_; (try clear hb); (try clear hb2); (try clear hk); (try clear hi)))
  (try simp only [Act.put, List.setIfInBounds_toArray, List.set_cons_zero, List.set_cons_succ])
  go_cut [24] (fun v24 wc => ∃ (kq : Nat) (x24_5 : Bool), v24 = .bool x24_5 ∧ Aside0 (lunisolar_Begin.j0 kq a1 a2 x24_5 a0_0 a0_1 a0_2 a0_3 a0_4 a0_5 a0_6 a0_7 a0_8 l0_9 l0_10 = some (r1, r2)) ∧ Aside0 (kq ≤ k) ∧ Aside0 (wc.heap[gb149]? = some (.cells #[.string a0_0, .int .i64 a0_1, .int .i64 a0_2, .int .i64 a0_3, .int .i64 a0_4, .int .i64 a0_5, .int .i64 a0_6, .int .i64 a0_7, .int .i64 a0_8, (.slice A0_9 l0_9.length c0_9), (.slice A0_10 l0_10.length c0_10)] 26 (0, 0))) ∧ Aside0 (Below w.heap.size w wc))
  case first =>
   have H := HC6.out
   clear HC6
   by_cases c10 : a2 < 1
   ·rw [if_pos c10] at H
    have c10b0 : decide (a2 < 1) = true := decide_eq_true c10
    clear c10
    (first | rw [c10b0] | (simp only [i64_w, i32_w]; rw [c10b0]) | skip)
    have H' := Aside0.mk H
    clear H
    go_wp2
    go_meet
    case rel => exact ⟨_, (true), (by first | rfl | (simp; done) | (simp [*]; done) | (simp [bne]; done) | (simp [i64_w, i32_w]; done)), H', ⟨by first | omega | exact Nat.le_refl _⟩, ⟨by (with_reducible repeat (first | refine q_n ?_ _ | refine q_d ?_ | refine q_a ?_ _)); exact BK149.out⟩, ⟨by repeat (first | (with_reducible first | exact HB.out | apply p_a | apply p_n | apply p_1 | refine p_s ?_ GE149.out) | exact HB.out)⟩⟩
   ·rw [if_neg c10] at H
    have c10b0 : decide (a2 < 1) = false := decide_eq_false c10
    clear c10
    (first | rw [c10b0] | (simp only [i64_w, i32_w]; rw [c10b0]) | skip)
    replace H := o_s H
    obtain ⟨t151, A110, H⟩ := H
    replace H : (lunisolar_Begin.j0 k a1 a2 (decide (a2 > t151)) a0_0 a0_1 a0_2 a0_3 a0_4 a0_5 a0_6 a0_7 a0_8 l0_9 l0_10) = some (r1, r2) := H
    have A11 := Aside0.mk A110
    clear A110
    have H' := Aside0.mk H
    clear H
    have hcz12_0 : w9.cell? ⟨gb149, 0, none⟩ = some (.string a0_0) := (q_c BK149.out 0).trans rfl
    have hcz12_1 : w9.cell? ⟨gb149, 1, none⟩ = some (.int .i64 a0_1) := (q_c BK149.out 1).trans rfl
    have hcz12_2 : w9.cell? ⟨gb149, 2, none⟩ = some (.int .i64 a0_2) := (q_c BK149.out 2).trans rfl
    have hcz12_3 : w9.cell? ⟨gb149, 3, none⟩ = some (.int .i64 a0_3) := (q_c BK149.out 3).trans rfl
    have hcz12_4 : w9.cell? ⟨gb149, 4, none⟩ = some (.int .i64 a0_4) := (q_c BK149.out 4).trans rfl
    have hcz12_5 : w9.cell? ⟨gb149, 5, none⟩ = some (.int .i64 a0_5) := (q_c BK149.out 5).trans rfl
    have hcz12_6 : w9.cell? ⟨gb149, 6, none⟩ = some (.int .i64 a0_6) := (q_c BK149.out 6).trans rfl
    have hcz12_7 : w9.cell? ⟨gb149, 7, none⟩ = some (.int .i64 a0_7) := (q_c BK149.out 7).trans rfl
    have hcz12_8 : w9.cell? ⟨gb149, 8, none⟩ = some (.int .i64 a0_8) := (q_c BK149.out 8).trans rfl
    have hcz12_9 : w9.cell? ⟨gb149, 9, none⟩ = some (.slice A0_9 l0_9.length c0_9) := (q_c BK149.out 9).trans rfl
    have hcz12_10 : w9.cell? ⟨gb149, 10, none⟩ = some (.slice A0_10 l0_10.length c0_10) := (q_c BK149.out 10).trans rfl
    have hfz12_0 := q_f BK149.out 0
    have hfz12_1 := q_f BK149.out 1
    have hfz12_2 := q_f BK149.out 2
    have hfz12_3 := q_f BK149.out 3
    have hfz12_4 := q_f BK149.out 4
    have hfz12_5 := q_f BK149.out 5
    have hfz12_6 := q_f BK149.out 6
    have hfz12_7 := q_f BK149.out 7
    have hfz12_8 := q_f BK149.out 8
    have hfz12_9 := q_f BK149.out 9
    have hfz12_10 := q_f BK149.out 10
    go_wp2_with (first | (go_at_call 36; (with_reducible refine (lunisolar_months.calls a0_0 a0_1 a0_2 a0_3 a0_4 a0_5 a0_6 a0_7 a0_8 _ _ l0_9 _ _ l0_10 a1 t151 _ ?side1 ?side2 ?side3 ?side4 A11.out).mono ?_); (case side1 => repeat (first | exact (Kd.C_below HR0_9.out HB.out) | (with_reducible first | refine c_a ?_ _ | refine c_n ?_ _ | refine c_d ?_))); (case side2 => exact HC0_9.out); (case side3 => repeat (first | exact (Kd.C_below HR0_10.out HB.out) | (with_reducible first | refine c_a ?_ _ | refine c_n ?_ _ | refine c_d ?_))); (case side4 => exact HC0_10.out); rintro e w13 ⟨rfl, hb⟩; have n0_ := bb_ BK149 hb; have n1_ := Aside0.mk (below_step (by repeat (first | (with_reducible first | exact HB.out | apply p_a | apply p_n | apply p_1 | refine p_s ?_ GE149.out) | exact HB.out)) hb); clear BK149; clear HB; have BK149 := n0_; have HB := n1_; clear n0_ n1_; (try clear hb); (try clear hb2); (try clear hk); (try clear hi)))
    go_meet
    case rel => exact ⟨_, (decide (a2 > t151)), (by first | rfl | (simp; done) | (simp [*]; done) | (simp [bne]; done) | (simp [i64_w, i32_w]; done)), H', ⟨by first | omega | exact Nat.le_refl _⟩, ⟨by (with_reducible repeat (first | refine q_n ?_ _ | refine q_d ?_ | refine q_a ?_ _)); exact BK149.out⟩, ⟨by repeat (first | (with_reducible first | exact HB.out | apply p_a | apply p_n | apply p_1 | refine p_s ?_ GE149.out) | exact HB.out)⟩⟩
  case rest =>
   clear HC6
   try clear c1
   try clear p2
   try clear c3
   try clear c5
   try clear c5b0
   try clear c5b1
   try clear c10
   try clear c10b0
   try clear c11
   try clear hcz12_0
   try clear hcz12_1
   try clear hcz12_10
   try clear hcz12_2
   try clear hcz12_3
   try clear hcz12_4
   try clear hcz12_5
   try clear hcz12_6
   try clear hcz12_7
   try clear hcz12_8
   try clear hcz12_9
   try clear hcz8_0
   try clear hcz8_1
   try clear hcz8_10
   try clear hcz8_2
   try clear hcz8_3
   try clear hcz8_4
   try clear hcz8_5
   try clear hcz8_6
   try clear hcz8_7
   try clear hcz8_8
   try clear hcz8_9
   try clear hfz12_0
   try clear hfz12_1
   try clear hfz12_10
   try clear hfz12_2
   try clear hfz12_3
   try clear hfz12_4
   try clear hfz12_5
   try clear hfz12_6
   try clear hfz12_7
   try clear hfz12_8
   try clear hfz12_9
   try clear hfz8_0
   try clear hfz8_1
   try clear hfz8_10
   try clear hfz8_2
   try clear hfz8_3
   try clear hfz8_4
   try clear hfz8_5
   try clear hfz8_6
   try clear hfz8_7
   try clear hfz8_8
   try clear hfz8_9
   obtain ⟨kq, x24_5, rfl, HA, HJ5, BK149, HB⟩ := hcut
   cases kq with
   | zero => exact absurd HA.out (by simp [lunisolar_Begin.j0])
   | succ kj5 =>
    have H := HA.out
    clear HA
    simp only [lunisolar_Begin.j0] at H
    by_cases c14 : x24_5 = true
    ·subst c14
     have H1 : (some (0, 1)) = some (r1, r2) := by rw [if_pos rfl] at H; exact H
     clear H
     have H := H1
     clear H1
     simp only [Option.some.injEq, Prod.mk.injEq] at H
     obtain ⟨rfl, rfl⟩ := H
     go_wp2
     go_ret2
     exact ⟨by first | rfl | (simp [errW_none, errW_some] <;> rfl) | (simp [*, errW_none, errW_some] <;> rfl), by repeat (first | (with_reducible first | exact HB.out | apply p_a | apply p_n | apply p_1 | refine p_s ?_ GE149.out) | exact HB.out)⟩
    ·replace c14 := Bool.eq_false_iff.mpr c14
     subst c14
     have H1 : ((lunisolar_start.f kj5 a0_0 a0_1 a0_2 a0_3 a0_4 a0_5 a0_6 a0_7 a0_8 l0_9 l0_10 a1 a2).bind fun t152 => ((line_Check.f t152).bind fun t153 => (if t153 = 0 then (some (t152, 0)) else (some (0, 3))))) = some (r1, r2) := by rw [if_neg (show ¬ (false = true) by decide)] at H; exact H
     clear H
     have H := H1
     clear H1
     replace H := o_s H
     obtain ⟨t152, A150, H⟩ := H
     replace H : ((line_Check.f t152).bind fun t153 => (if t153 = 0 then (some (t152, 0)) else (some (0, 3)))) = some (r1, r2) := H
     have A15 := Aside0.mk A150
     clear A150
     replace H := o_s H
     obtain ⟨t153, A160, H⟩ := H
     replace H : (if t153 = 0 then (some (t152, 0)) else (some (0, 3))) = some (r1, r2) := H
     have A16 := Aside0.mk A160
     clear A160
     by_cases c17 : t153 = 0
     ·rw [if_pos c17] at H
      have c17b0 : (t153 == 0) = true := beq_iff_eq.mpr c17
      have c17b1 : (t153 != 0) = false := bne_eq_false_iff_eq.mpr c17
      clear c17
      simp only [Option.some.injEq, Prod.mk.injEq] at H
      obtain ⟨rfl, rfl⟩ := H
      have hcz18_0 : wc.cell? ⟨gb149, 0, none⟩ = some (.string a0_0) := (q_c BK149.out 0).trans rfl
      have hcz18_1 : wc.cell? ⟨gb149, 1, none⟩ = some (.int .i64 a0_1) := (q_c BK149.out 1).trans rfl
      have hcz18_2 : wc.cell? ⟨gb149, 2, none⟩ = some (.int .i64 a0_2) := (q_c BK149.out 2).trans rfl
      have hcz18_3 : wc.cell? ⟨gb149, 3, none⟩ = some (.int .i64 a0_3) := (q_c BK149.out 3).trans rfl
      have hcz18_4 : wc.cell? ⟨gb149, 4, none⟩ = some (.int .i64 a0_4) := (q_c BK149.out 4).trans rfl
      have hcz18_5 : wc.cell? ⟨gb149, 5, none⟩ = some (.int .i64 a0_5) := (q_c BK149.out 5).trans rfl
      have hcz18_6 : wc.cell? ⟨gb149, 6, none⟩ = some (.int .i64 a0_6) := (q_c BK149.out 6).trans rfl
      have hcz18_7 : wc.cell? ⟨gb149, 7, none⟩ = some (.int .i64 a0_7) := (q_c BK149.out 7).trans rfl
      have hcz18_8 : wc.cell? ⟨gb149, 8, none⟩ = some (.int .i64 a0_8) := (q_c BK149.out 8).trans rfl
      have hcz18_9 : wc.cell? ⟨gb149, 9, none⟩ = some (.slice A0_9 l0_9.length c0_9) := (q_c BK149.out 9).trans rfl
      have hcz18_10 : wc.cell? ⟨gb149, 10, none⟩ = some (.slice A0_10 l0_10.length c0_10) := (q_c BK149.out 10).trans rfl
      have hfz18_0 := q_f BK149.out 0
      have hfz18_1 := q_f BK149.out 1
      have hfz18_2 := q_f BK149.out 2
      have hfz18_3 := q_f BK149.out 3
      have hfz18_4 := q_f BK149.out 4
      have hfz18_5 := q_f BK149.out 5
      have hfz18_6 := q_f BK149.out 6
      have hfz18_7 := q_f BK149.out 7
      have hfz18_8 := q_f BK149.out 8
      have hfz18_9 := q_f BK149.out 9
      have hfz18_10 := q_f BK149.out 10
      go_wp2_with (first | ((with_reducible refine gate_callee (f := 37) rfl ?_); refine goesL_ (some 28) rfl rfl Try.func37 (by kernel_rfl) rfl #[.agg #[.string a0_0, .int .i64 a0_1, .int .i64 a0_2, .int .i64 a0_3, .int .i64 a0_4, .int .i64 a0_5, .int .i64 a0_6, .int .i64 a0_7, .int .i64 a0_8, .slice A0_9 l0_9.length c0_9, .slice A0_10 l0_10.length c0_10], .int .i64 a1, .int .i64 a2] rfl (by (try simp only [List.map_toArray, List.map_cons, List.map_nil]); first | done | rfl) ?_; (with_reducible refine (lunisolar_start.calls kj5 a0_0 a0_1 a0_2 a0_3 a0_4 a0_5 a0_6 a0_7 a0_8 _ _ l0_9 _ _ l0_10 a1 a2 t152 _ ?side1 ?side2 ?side3 ?side4 A15.out).mono ?_); (case side1 => repeat (first | exact (Kd.C_below HR0_9.out HB.out) | (with_reducible first | refine c_a ?_ _ | refine c_n ?_ _ | refine c_d ?_))); (case side2 => exact HC0_9.out); (case side3 => repeat (first | exact (Kd.C_below HR0_10.out HB.out) | (with_reducible first | refine c_a ?_ _ | refine c_n ?_ _ | refine c_d ?_))); (case side4 => exact HC0_10.out); rintro e w19 ⟨rfl, hb⟩; refine ⟨_, rfl, ?_⟩; have n0_ := bb_ BK149 hb; have n1_ := Aside0.mk (below_step (by repeat (first | (with_reducible first | exact HB.out | apply p_a | apply p_n | apply p_1 | refine p_s ?_ GE149.out) | exact HB.out)) hb); clear BK149; clear HB; have BK149 := n0_; have HB := n1_; clear n0_ n1_; (try clear hb); (try clear hb2); (try clear hk); (try clear hi)) | ((with_reducible refine gate_callee (f := 38) rfl ?_); refine goesL_ (some 30) rfl rfl Try.func38 (by kernel_rfl) rfl #[.int .i64 t152] rfl (by (try simp only [List.map_toArray, List.map_cons, List.map_nil]); first | done | rfl) ?_; (with_reducible refine (line_Check.calls t152 t153 _ A16.out).mono ?_); rintro e w' ⟨rfl, ⟨nd, rfl⟩⟩; refine ⟨_, rfl, ?_⟩))
      go_ret2
      exact ⟨by first | rfl | (simp [errW_none, errW_some] <;> rfl) | (simp [*, errW_none, errW_some] <;> rfl), by repeat (first | (with_reducible first | exact HB.out | apply p_a | apply p_n | apply p_1 | refine p_s ?_ GE149.out) | exact HB.out)⟩
     ·rw [if_neg c17] at H
      have c17b0 : (t153 == 0) = false := b_f c17
      have c17b1 : (t153 != 0) = true := b_t c17
      simp only [Option.some.injEq, Prod.mk.injEq] at H
      obtain ⟨rfl, rfl⟩ := H
      have hcz20_0 : wc.cell? ⟨gb149, 0, none⟩ = some (.string a0_0) := (q_c BK149.out 0).trans rfl
      have hcz20_1 : wc.cell? ⟨gb149, 1, none⟩ = some (.int .i64 a0_1) := (q_c BK149.out 1).trans rfl
      have hcz20_2 : wc.cell? ⟨gb149, 2, none⟩ = some (.int .i64 a0_2) := (q_c BK149.out 2).trans rfl
      have hcz20_3 : wc.cell? ⟨gb149, 3, none⟩ = some (.int .i64 a0_3) := (q_c BK149.out 3).trans rfl
      have hcz20_4 : wc.cell? ⟨gb149, 4, none⟩ = some (.int .i64 a0_4) := (q_c BK149.out 4).trans rfl
      have hcz20_5 : wc.cell? ⟨gb149, 5, none⟩ = some (.int .i64 a0_5) := (q_c BK149.out 5).trans rfl
      have hcz20_6 : wc.cell? ⟨gb149, 6, none⟩ = some (.int .i64 a0_6) := (q_c BK149.out 6).trans rfl
      have hcz20_7 : wc.cell? ⟨gb149, 7, none⟩ = some (.int .i64 a0_7) := (q_c BK149.out 7).trans rfl
      have hcz20_8 : wc.cell? ⟨gb149, 8, none⟩ = some (.int .i64 a0_8) := (q_c BK149.out 8).trans rfl
      have hcz20_9 : wc.cell? ⟨gb149, 9, none⟩ = some (.slice A0_9 l0_9.length c0_9) := (q_c BK149.out 9).trans rfl
      have hcz20_10 : wc.cell? ⟨gb149, 10, none⟩ = some (.slice A0_10 l0_10.length c0_10) := (q_c BK149.out 10).trans rfl
      have hfz20_0 := q_f BK149.out 0
      have hfz20_1 := q_f BK149.out 1
      have hfz20_2 := q_f BK149.out 2
      have hfz20_3 := q_f BK149.out 3
      have hfz20_4 := q_f BK149.out 4
      have hfz20_5 := q_f BK149.out 5
      have hfz20_6 := q_f BK149.out 6
      have hfz20_7 := q_f BK149.out 7
      have hfz20_8 := q_f BK149.out 8
      have hfz20_9 := q_f BK149.out 9
      have hfz20_10 := q_f BK149.out 10
      go_wp2_with (first | ((with_reducible refine gate_callee (f := 37) rfl ?_); refine goesL_ (some 28) rfl rfl Try.func37 (by kernel_rfl) rfl #[.agg #[.string a0_0, .int .i64 a0_1, .int .i64 a0_2, .int .i64 a0_3, .int .i64 a0_4, .int .i64 a0_5, .int .i64 a0_6, .int .i64 a0_7, .int .i64 a0_8, .slice A0_9 l0_9.length c0_9, .slice A0_10 l0_10.length c0_10], .int .i64 a1, .int .i64 a2] rfl (by (try simp only [List.map_toArray, List.map_cons, List.map_nil]); first | done | rfl) ?_; (with_reducible refine (lunisolar_start.calls kj5 a0_0 a0_1 a0_2 a0_3 a0_4 a0_5 a0_6 a0_7 a0_8 _ _ l0_9 _ _ l0_10 a1 a2 t152 _ ?side1 ?side2 ?side3 ?side4 A15.out).mono ?_); (case side1 => repeat (first | exact (Kd.C_below HR0_9.out HB.out) | (with_reducible first | refine c_a ?_ _ | refine c_n ?_ _ | refine c_d ?_))); (case side2 => exact HC0_9.out); (case side3 => repeat (first | exact (Kd.C_below HR0_10.out HB.out) | (with_reducible first | refine c_a ?_ _ | refine c_n ?_ _ | refine c_d ?_))); (case side4 => exact HC0_10.out); rintro e w21 ⟨rfl, hb⟩; refine ⟨_, rfl, ?_⟩; have n0_ := bb_ BK149 hb; have n1_ := Aside0.mk (below_step (by repeat (first | (with_reducible first | exact HB.out | apply p_a | apply p_n | apply p_1 | refine p_s ?_ GE149.out) | exact HB.out)) hb); clear BK149; clear HB; have BK149 := n0_; have HB := n1_; clear n0_ n1_; (try clear hb); (try clear hb2); (try clear hk); (try clear hi)) | ((with_reducible refine gate_callee (f := 38) rfl ?_); refine goesL_ (some 30) rfl rfl Try.func38 (by kernel_rfl) rfl #[.int .i64 t152] rfl (by (try simp only [List.map_toArray, List.map_cons, List.map_nil]); first | done | rfl) ?_; (with_reducible refine (line_Check.calls t152 t153 _ A16.out).mono ?_); rintro e w' ⟨rfl, ⟨nd, rfl⟩⟩; refine ⟨_, rfl, ?_⟩))
      go_ret2
      exact ⟨by first | rfl | (simp [errW_none, errW_some] <;> rfl) | (simp [*, errW_none, errW_some] <;> rfl), by repeat (first | (with_reducible first | exact HB.out | apply p_a | apply p_n | apply p_1 | refine p_s ?_ GE149.out) | exact HB.out)⟩
 ·rw [if_neg c5] at H
  have c5b0 : (t150 == 0) = false := b_f c5
  have c5b1 : (t150 != 0) = true := b_t c5
  simp only [Option.some.injEq, Prod.mk.injEq] at H
  obtain ⟨rfl, rfl⟩ := H
  go_enter Try.func11, Try.ntmps11
  go_wp2_with (first | ((with_reducible refine gate_dst (N := 3) rfl ?_); refine box_event ?hg (N := 3) ?hd (cs := #[.string a0_0, .int .i64 a0_1, .int .i64 a0_2, .int .i64 a0_3, .int .i64 a0_4, .int .i64 a0_5, .int .i64 a0_6, .int .i64 a0_7, .int .i64 a0_8, .slice A0_9 l0_9.length c0_9, .slice A0_10 l0_10.length c0_10]) (t := 26) ?hr ?_; (case hd => rfl); (case hg => rfl); (case hr => first | (go_simp; done) | (go_simp; rfl)); intro gb149 hg w22 hbox hb; have n0_ := Aside0.mk (below_step (by repeat (first | (with_reducible first | exact HB.out | apply p_a | apply p_n | apply p_1) | exact HB.out)) hb); have n1_ := Aside0.mk (hbox); have n2_ := Aside0.mk ((by rw [hg]; exact (below_size (by repeat (first | (with_reducible first | exact HB.out | apply p_a | apply p_n | apply p_1) | exact HB.out))) : w.heap.size ≤ gb149)); have n3_ := n2_; clear HB; have HB := n0_; have BK149 := n1_; have GW149 := n2_; have GE149 := n3_; clear n0_ n1_ n2_ n3_; clear hb hbox hg; have hcz23_0 : w22.cell? ⟨gb149, 0, none⟩ = some (.string a0_0) := (q_c BK149.out 0).trans rfl; have hcz23_1 : w22.cell? ⟨gb149, 1, none⟩ = some (.int .i64 a0_1) := (q_c BK149.out 1).trans rfl; have hcz23_2 : w22.cell? ⟨gb149, 2, none⟩ = some (.int .i64 a0_2) := (q_c BK149.out 2).trans rfl; have hcz23_3 : w22.cell? ⟨gb149, 3, none⟩ = some (.int .i64 a0_3) := (q_c BK149.out 3).trans rfl; have hcz23_4 : w22.cell? ⟨gb149, 4, none⟩ = some (.int .i64 a0_4) := (q_c BK149.out 4).trans rfl; have hcz23_5 : w22.cell? ⟨gb149, 5, none⟩ = some (.int .i64 a0_5) := (q_c BK149.out 5).trans rfl; have hcz23_6 : w22.cell? ⟨gb149, 6, none⟩ = some (.int .i64 a0_6) := (q_c BK149.out 6).trans rfl; have hcz23_7 : w22.cell? ⟨gb149, 7, none⟩ = some (.int .i64 a0_7) := (q_c BK149.out 7).trans rfl; have hcz23_8 : w22.cell? ⟨gb149, 8, none⟩ = some (.int .i64 a0_8) := (q_c BK149.out 8).trans rfl; have hcz23_9 : w22.cell? ⟨gb149, 9, none⟩ = some (.slice A0_9 l0_9.length c0_9) := (q_c BK149.out 9).trans rfl; have hcz23_10 : w22.cell? ⟨gb149, 10, none⟩ = some (.slice A0_10 l0_10.length c0_10) := (q_c BK149.out 10).trans rfl; have hfz23_0 := q_f BK149.out 0; have hfz23_1 := q_f BK149.out 1; have hfz23_2 := q_f BK149.out 2; have hfz23_3 := q_f BK149.out 3; have hfz23_4 := q_f BK149.out 4; have hfz23_5 := q_f BK149.out 5; have hfz23_6 := q_f BK149.out 6; have hfz23_7 := q_f BK149.out 7; have hfz23_8 := q_f BK149.out 8; have hfz23_9 := q_f BK149.out 9; have hfz23_10 := q_f BK149.out 10) | ((with_reducible refine gate_callee (f := 35) rfl ?_); refine goesL_ (some 12) rfl rfl Try.func35 (by kernel_rfl) rfl #[.agg #[.string a0_0, .int .i64 a0_1, .int .i64 a0_2, .int .i64 a0_3, .int .i64 a0_4, .int .i64 a0_5, .int .i64 a0_6, .int .i64 a0_7, .int .i64 a0_8, .slice A0_9 l0_9.length c0_9, .slice A0_10 l0_10.length c0_10], .int .i64 a1] rfl (by (try simp only [List.map_toArray, List.map_cons, List.map_nil]); first | done | rfl) ?_; (with_reducible refine (lunisolar_begin.calls k a0_0 a0_1 a0_2 a0_3 a0_4 a0_5 a0_6 a0_7 a0_8 _ _ l0_9 _ _ l0_10 a1 t150 _ ?side1 ?side2 ?side3 ?side4 A4.out).mono ?_); (case side1 => repeat (first | exact (Kd.C_below HR0_9.out HB.out) | (with_reducible first | refine c_a ?_ _ | refine c_n ?_ _ | refine c_d ?_))); (case side2 => exact HC0_9.out); (case side3 => repeat (first | exact (Kd.C_below HR0_10.out HB.out) | (with_reducible first | refine c_a ?_ _ | refine c_n ?_ _ | refine c_d ?_))); (case side4 => exact HC0_10.out); rintro e w24 ⟨rfl, hb⟩; refine ⟨_, rfl, ?_⟩; have n0_ := bb_ BK149 hb; have n1_ := Aside0.mk (below_step (by repeat (first | (with_reducible first | exact HB.out | apply p_a | apply p_n | apply p_1 | refine p_s ?_ GE149.out) | exact HB.out)) hb); clear BK149; clear HB; have BK149 := n0_; have HB := n1_; clear n0_ n1_; (try clear hb); (try clear hb2); (try clear hk); (try clear hi)))
  go_ret2
  exact ⟨by first | rfl | (simp [errW_none, errW_some] <;> rfl) | (simp [*, errW_none, errW_some] <;> rfl), by repeat (first | (with_reducible first | exact HB.out | apply p_a | apply p_n | apply p_1 | refine p_s ?_ GE149.out) | exact HB.out)⟩

end Go.Proofs.Ytidjaahpabppaaa.QObservedSame
