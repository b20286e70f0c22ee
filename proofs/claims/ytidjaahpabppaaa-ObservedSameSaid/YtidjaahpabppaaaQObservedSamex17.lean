import Derived.Test.YtidjaahpabppaaaFar
import Derived.Test.YtidjaahpabppaaaQObservedSamex0
import Derived.Test.YtidjaahpabppaaaQObservedSamex7
import Derived.Test.YtidjaahpabppaaaQObservedSamex15
import Derived.Test.YtidjaahpabppaaaQObservedSamex16
namespace Go.Proofs.Ytidjaahpabppaaa.QObservedSame
open Go.RowKit Go.Proofs.YtidjaahpabppaaaW.PrintWords Go.Proofs.YtidjaahpabppaaaW.PrintLast Go.Proofs.YtidjaahpabppaaaW.PrintMore Go.Proofs.YtidjaahpabppaaaFar
attribute [local go_sem] max2_int min2_int max_two min_two max_three min_three max_four min_four
set_option linter.unusedVariables false
set_option linter.unusedSimpArgs false

/-! ### observed_Of: function 28 -/
mutual
def observed_Of.j0 : Nat → Int → Int → Bool → ByteArray → Int → Int → Int → Int → Int → Int → Int → Int → List Int → List Int → Option (ByteArray × Int × List Int × List Int × Int)
 | 0, _, _, _, _, _, _, _, _, _, _, _, _, _, _ => none
 | k + 1, x1, x2, x29, x158000, x158001, x158002, x158003, x158004, x158005, x158006, x158007, x158008, x158009, x158010 => if x29 = true then (some ((⟨#[]⟩ : ByteArray), 0, ([] : List Int), ([] : List Int), 1)) else (if x1 < (-10000) then (observed_Of.j1 k x1 x2 true x158000 x158001 x158002 x158003 x158004 x158005 x158006 x158007 x158008 x158009 x158010) else (observed_Of.j1 k x1 x2 (decide (x1 > 9960)) x158000 x158001 x158002 x158003 x158004 x158005 x158006 x158007 x158008 x158009 x158010))
def observed_Of.j1 : Nat → Int → Int → Bool → ByteArray → Int → Int → Int → Int → Int → Int → Int → Int → List Int → List Int → Option (ByteArray × Int × List Int × List Int × Int)
 | 0, _, _, _, _, _, _, _, _, _, _, _, _, _, _ => none
 | k + 1, x1, x2, x36, x158000, x158001, x158002, x158003, x158004, x158005, x158006, x158007, x158008, x158009, x158010 => if x36 = true then (some ((⟨#[]⟩ : ByteArray), 0, ([] : List Int), ([] : List Int), 3)) else (observed_Of.l0 k x1 x2 x1 x158000 x158001 x158002 x158003 x158004 x158005 x158006 x158007 x158008 x158009 x158010 x158000 x1 ([] : List Int) ([] : List Int))
def observed_Of.l0 : Nat → Int → Int → Int → ByteArray → Int → Int → Int → Int → Int → Int → Int → Int → List Int → List Int → ByteArray → Int → List Int → List Int → Option (ByteArray × Int × List Int × List Int × Int)
 | 0, _, _, _, _, _, _, _, _, _, _, _, _, _, _, _, _, _, _ => none
 | k + 1, x1, x2, x10, x158000, x158001, x158002, x158003, x158004, x158005, x158006, x158007, x158008, x158009, x158010, x161000, x161001, x161002, x161003 => if x10 < (wrap64 (x1 + x2)) then ((lunisolar_Months.f k x158000 x158001 x158002 x158003 x158004 x158005 x158006 x158007 x158008 x158009 x158010 x10).bind fun bt166 => (if x161002.length < 17592186044416 then (observed_Of.l1 k x1 x2 x10 bt166.1 1 x158000 x158001 x158002 x158003 x158004 x158005 x158006 x158007 x158008 x158009 x158010 x161000 x161001 (x161002 ++ [bt166.1]) x161003) else (none))) else ((lunisolar_Begin.f k x158000 x158001 x158002 x158003 x158004 x158005 x158006 x158007 x158008 x158009 x158010 (wrap64 (x1 + x2)) 1).bind fun bt161 => (if bt161.2 = 0 then (if x161003.length < 17592186044416 then (some (x161000, x161001, x161002, (x161003 ++ [bt161.1]), 0)) else (none)) else (some ((⟨#[]⟩ : ByteArray), 0, ([] : List Int), ([] : List Int), bt161.2))))
def observed_Of.l1 : Nat → Int → Int → Int → Int → Int → ByteArray → Int → Int → Int → Int → Int → Int → Int → Int → List Int → List Int → ByteArray → Int → List Int → List Int → Option (ByteArray × Int × List Int × List Int × Int)
 | 0, _, _, _, _, _, _, _, _, _, _, _, _, _, _, _, _, _, _, _, _ => none
 | k + 1, x1, x2, x10, x11, x13, x158000, x158001, x158002, x158003, x158004, x158005, x158006, x158007, x158008, x158009, x158010, x161000, x161001, x161002, x161003 => if x13 ≤ x11 then ((lunisolar_Begin.f k x158000 x158001 x158002 x158003 x158004 x158005 x158006 x158007 x158008 x158009 x158010 x10 x13).bind fun bt171 => (if bt171.2 = 0 then (if x161003.length < 17592186044416 then (observed_Of.l1 k x1 x2 x10 x11 (wrap64 (x13 + 1)) x158000 x158001 x158002 x158003 x158004 x158005 x158006 x158007 x158008 x158009 x158010 x161000 x161001 x161002 (x161003 ++ [bt171.1])) else (none)) else (some ((⟨#[]⟩ : ByteArray), 0, ([] : List Int), ([] : List Int), bt171.2)))) else (observed_Of.l0 k x1 x2 (wrap64 (x10 + 1)) x158000 x158001 x158002 x158003 x158004 x158005 x158006 x158007 x158008 x158009 x158010 x161000 x161001 x161002 x161003)
end
def observed_Of.f (k : Nat) (a0_0 : ByteArray) (a0_1 : Int) (a0_2 : Int) (a0_3 : Int) (a0_4 : Int) (a0_5 : Int) (a0_6 : Int) (a0_7 : Int) (a0_8 : Int) (l0_9 : List Int) (l0_10 : List Int) (a1 : Int) (a2 : Int) : Option (ByteArray × Int × List Int × List Int × Int) := (lunisolar_Check.f k a0_0 a0_1 a0_2 a0_3 a0_4 a0_5 a0_6 a0_7 a0_8 l0_9 l0_10).bind fun t159 => (if t159 = 0 then (if a2 < 1 then (observed_Of.j0 k a1 a2 true a0_0 a0_1 a0_2 a0_3 a0_4 a0_5 a0_6 a0_7 a0_8 l0_9 l0_10) else (observed_Of.j0 k a1 a2 (decide (a2 > 40)) a0_0 a0_1 a0_2 a0_3 a0_4 a0_5 a0_6 a0_7 a0_8 l0_9 l0_10)) else (some ((⟨#[]⟩ : ByteArray), 0, ([] : List Int), ([] : List Int), t159)))
theorem observed_Of.mono_l : ∀ k, (∀ y0 y1 y2 y3 y4 y5 y6 y7 y8 y9 y10 y11 y12 y13, LeO (observed_Of.j0 k y0 y1 y2 y3 y4 y5 y6 y7 y8 y9 y10 y11 y12 y13) (observed_Of.j0 (k + 1) y0 y1 y2 y3 y4 y5 y6 y7 y8 y9 y10 y11 y12 y13)) ∧ (∀ y0 y1 y2 y3 y4 y5 y6 y7 y8 y9 y10 y11 y12 y13, LeO (observed_Of.j1 k y0 y1 y2 y3 y4 y5 y6 y7 y8 y9 y10 y11 y12 y13) (observed_Of.j1 (k + 1) y0 y1 y2 y3 y4 y5 y6 y7 y8 y9 y10 y11 y12 y13)) ∧ (∀ y0 y1 y2 y3 y4 y5 y6 y7 y8 y9 y10 y11 y12 y13 y14 y15 y16 y17, LeO (observed_Of.l0 k y0 y1 y2 y3 y4 y5 y6 y7 y8 y9 y10 y11 y12 y13 y14 y15 y16 y17) (observed_Of.l0 (k + 1) y0 y1 y2 y3 y4 y5 y6 y7 y8 y9 y10 y11 y12 y13 y14 y15 y16 y17)) ∧ (∀ y0 y1 y2 y3 y4 y5 y6 y7 y8 y9 y10 y11 y12 y13 y14 y15 y16 y17 y18 y19, LeO (observed_Of.l1 k y0 y1 y2 y3 y4 y5 y6 y7 y8 y9 y10 y11 y12 y13 y14 y15 y16 y17 y18 y19) (observed_Of.l1 (k + 1) y0 y1 y2 y3 y4 y5 y6 y7 y8 y9 y10 y11 y12 y13 y14 y15 y16 y17 y18 y19))
 | 0 => ⟨fun _ _ _ _ _ _ _ _ _ _ _ _ _ _ r h => by simp [observed_Of.j0] at h, fun _ _ _ _ _ _ _ _ _ _ _ _ _ _ r h => by simp [observed_Of.j1] at h, fun _ _ _ _ _ _ _ _ _ _ _ _ _ _ _ _ _ _ r h => by simp [observed_Of.l0] at h, fun _ _ _ _ _ _ _ _ _ _ _ _ _ _ _ _ _ _ _ _ r h => by simp [observed_Of.l1] at h⟩
 | k + 1 => by
  obtain ⟨ih0, ih1, ih2, ih3⟩ := observed_Of.mono_l k
  refine ⟨?_, ?_, ?_, ?_⟩
  ·intro y0 y1 y2 y3 y4 y5 y6 y7 y8 y9 y10 y11 y12 y13
   unfold observed_Of.j0
   repeat' first
   | (with_reducible exact ih0 _ _ _ _ _ _ _ _ _ _ _ _ _ _)
   | (with_reducible exact ih1 _ _ _ _ _ _ _ _ _ _ _ _ _ _)
   | (with_reducible exact ih2 _ _ _ _ _ _ _ _ _ _ _ _ _ _ _ _ _ _)
   | (with_reducible exact ih3 _ _ _ _ _ _ _ _ _ _ _ _ _ _ _ _ _ _ _ _)
   | (with_reducible exact lunisolar_Begin.mono _ _ _ _ _ _ _ _ _ _ _ _ _ _)
   | (with_reducible exact lunisolar_Check.mono _ _ _ _ _ _ _ _ _ _ _ _)
   | (with_reducible exact lunisolar_Months.mono _ _ _ _ _ _ _ _ _ _ _ _ _)
   | (with_reducible exact LeO.refl _)
   | (with_reducible exact LeO.none _)
   | (with_reducible refine LeO.ite ?_ ?_)
   | (with_reducible refine LeO.bind ?_ (fun _ => ?_))
   | exact ih0 _ _ _ _ _ _ _ _ _ _ _ _ _ _
   | exact ih1 _ _ _ _ _ _ _ _ _ _ _ _ _ _
   | exact ih2 _ _ _ _ _ _ _ _ _ _ _ _ _ _ _ _ _ _
   | exact ih3 _ _ _ _ _ _ _ _ _ _ _ _ _ _ _ _ _ _ _ _
   | exact lunisolar_Begin.mono _ _ _ _ _ _ _ _ _ _ _ _ _ _
   | exact lunisolar_Check.mono _ _ _ _ _ _ _ _ _ _ _ _
   | exact lunisolar_Months.mono _ _ _ _ _ _ _ _ _ _ _ _ _
   | exact LeO.none _
   | refine LeO.ite ?_ ?_
   | refine LeO.bind ?_ (fun _ => ?_)
  ·intro y0 y1 y2 y3 y4 y5 y6 y7 y8 y9 y10 y11 y12 y13
   unfold observed_Of.j1
   repeat' first
   | (with_reducible exact ih0 _ _ _ _ _ _ _ _ _ _ _ _ _ _)
   | (with_reducible exact ih1 _ _ _ _ _ _ _ _ _ _ _ _ _ _)
   | (with_reducible exact ih2 _ _ _ _ _ _ _ _ _ _ _ _ _ _ _ _ _ _)
   | (with_reducible exact ih3 _ _ _ _ _ _ _ _ _ _ _ _ _ _ _ _ _ _ _ _)
   | (with_reducible exact lunisolar_Begin.mono _ _ _ _ _ _ _ _ _ _ _ _ _ _)
   | (with_reducible exact lunisolar_Check.mono _ _ _ _ _ _ _ _ _ _ _ _)
   | (with_reducible exact lunisolar_Months.mono _ _ _ _ _ _ _ _ _ _ _ _ _)
   | (with_reducible exact LeO.refl _)
   | (with_reducible exact LeO.none _)
   | (with_reducible refine LeO.ite ?_ ?_)
   | (with_reducible refine LeO.bind ?_ (fun _ => ?_))
   | exact ih0 _ _ _ _ _ _ _ _ _ _ _ _ _ _
   | exact ih1 _ _ _ _ _ _ _ _ _ _ _ _ _ _
   | exact ih2 _ _ _ _ _ _ _ _ _ _ _ _ _ _ _ _ _ _
   | exact ih3 _ _ _ _ _ _ _ _ _ _ _ _ _ _ _ _ _ _ _ _
   | exact lunisolar_Begin.mono _ _ _ _ _ _ _ _ _ _ _ _ _ _
   | exact lunisolar_Check.mono _ _ _ _ _ _ _ _ _ _ _ _
   | exact lunisolar_Months.mono _ _ _ _ _ _ _ _ _ _ _ _ _
   | exact LeO.none _
   | refine LeO.ite ?_ ?_
   | refine LeO.bind ?_ (fun _ => ?_)
  ·intro y0 y1 y2 y3 y4 y5 y6 y7 y8 y9 y10 y11 y12 y13 y14 y15 y16 y17
   unfold observed_Of.l0
   repeat' first
   | (with_reducible exact ih0 _ _ _ _ _ _ _ _ _ _ _ _ _ _)
   | (with_reducible exact ih1 _ _ _ _ _ _ _ _ _ _ _ _ _ _)
   | (with_reducible exact ih2 _ _ _ _ _ _ _ _ _ _ _ _ _ _ _ _ _ _)
   | (with_reducible exact ih3 _ _ _ _ _ _ _ _ _ _ _ _ _ _ _ _ _ _ _ _)
   | (with_reducible exact lunisolar_Begin.mono _ _ _ _ _ _ _ _ _ _ _ _ _ _)
   | (with_reducible exact lunisolar_Check.mono _ _ _ _ _ _ _ _ _ _ _ _)
   | (with_reducible exact lunisolar_Months.mono _ _ _ _ _ _ _ _ _ _ _ _ _)
   | (with_reducible exact LeO.refl _)
   | (with_reducible exact LeO.none _)
   | (with_reducible refine LeO.ite ?_ ?_)
   | (with_reducible refine LeO.bind ?_ (fun _ => ?_))
   | exact ih0 _ _ _ _ _ _ _ _ _ _ _ _ _ _
   | exact ih1 _ _ _ _ _ _ _ _ _ _ _ _ _ _
   | exact ih2 _ _ _ _ _ _ _ _ _ _ _ _ _ _ _ _ _ _
   | exact ih3 _ _ _ _ _ _ _ _ _ _ _ _ _ _ _ _ _ _ _ _
   | exact lunisolar_Begin.mono _ _ _ _ _ _ _ _ _ _ _ _ _ _
   | exact lunisolar_Check.mono _ _ _ _ _ _ _ _ _ _ _ _
   | exact lunisolar_Months.mono _ _ _ _ _ _ _ _ _ _ _ _ _
   | exact LeO.none _
   | refine LeO.ite ?_ ?_
   | refine LeO.bind ?_ (fun _ => ?_)
  ·intro y0 y1 y2 y3 y4 y5 y6 y7 y8 y9 y10 y11 y12 y13 y14 y15 y16 y17 y18 y19
   unfold observed_Of.l1
   repeat' first
   | (with_reducible exact ih0 _ _ _ _ _ _ _ _ _ _ _ _ _ _)
   | (with_reducible exact ih1 _ _ _ _ _ _ _ _ _ _ _ _ _ _)
   | (with_reducible exact ih2 _ _ _ _ _ _ _ _ _ _ _ _ _ _ _ _ _ _)
   | (with_reducible exact ih3 _ _ _ _ _ _ _ _ _ _ _ _ _ _ _ _ _ _ _ _)
   | (with_reducible exact lunisolar_Begin.mono _ _ _ _ _ _ _ _ _ _ _ _ _ _)
   | (with_reducible exact lunisolar_Check.mono _ _ _ _ _ _ _ _ _ _ _ _)
   | (with_reducible exact lunisolar_Months.mono _ _ _ _ _ _ _ _ _ _ _ _ _)
   | (with_reducible exact LeO.refl _)
   | (with_reducible exact LeO.none _)
   | (with_reducible refine LeO.ite ?_ ?_)
   | (with_reducible refine LeO.bind ?_ (fun _ => ?_))
   | exact ih0 _ _ _ _ _ _ _ _ _ _ _ _ _ _
   | exact ih1 _ _ _ _ _ _ _ _ _ _ _ _ _ _
   | exact ih2 _ _ _ _ _ _ _ _ _ _ _ _ _ _ _ _ _ _
   | exact ih3 _ _ _ _ _ _ _ _ _ _ _ _ _ _ _ _ _ _ _ _
   | exact lunisolar_Begin.mono _ _ _ _ _ _ _ _ _ _ _ _ _ _
   | exact lunisolar_Check.mono _ _ _ _ _ _ _ _ _ _ _ _
   | exact lunisolar_Months.mono _ _ _ _ _ _ _ _ _ _ _ _ _
   | exact LeO.none _
   | refine LeO.ite ?_ ?_
   | refine LeO.bind ?_ (fun _ => ?_)
theorem observed_Of.mono : ∀ a0 a1 a2 a3 a4 a5 a6 a7 a8 a9 a10 a11 a12 k, LeO (observed_Of.f k a0 a1 a2 a3 a4 a5 a6 a7 a8 a9 a10 a11 a12) (observed_Of.f (k + 1) a0 a1 a2 a3 a4 a5 a6 a7 a8 a9 a10 a11 a12) := by
 intro a0 a1 a2 a3 a4 a5 a6 a7 a8 a9 a10 a11 a12 k
 obtain ⟨ih0, ih1, ih2, ih3⟩ := observed_Of.mono_l k
 unfold observed_Of.f
 repeat' first
   | (with_reducible exact ih0 _ _ _ _ _ _ _ _ _ _ _ _ _ _)
   | (with_reducible exact ih1 _ _ _ _ _ _ _ _ _ _ _ _ _ _)
   | (with_reducible exact ih2 _ _ _ _ _ _ _ _ _ _ _ _ _ _ _ _ _ _)
   | (with_reducible exact ih3 _ _ _ _ _ _ _ _ _ _ _ _ _ _ _ _ _ _ _ _)
   | (with_reducible exact lunisolar_Begin.mono _ _ _ _ _ _ _ _ _ _ _ _ _ _)
   | (with_reducible exact lunisolar_Check.mono _ _ _ _ _ _ _ _ _ _ _ _)
   | (with_reducible exact lunisolar_Months.mono _ _ _ _ _ _ _ _ _ _ _ _ _)
   | (with_reducible exact LeO.refl _)
   | (with_reducible exact LeO.none _)
   | (with_reducible refine LeO.ite ?_ ?_)
   | (with_reducible refine LeO.bind ?_ (fun _ => ?_))
   | exact ih0 _ _ _ _ _ _ _ _ _ _ _ _ _ _
   | exact ih1 _ _ _ _ _ _ _ _ _ _ _ _ _ _
   | exact ih2 _ _ _ _ _ _ _ _ _ _ _ _ _ _ _ _ _ _
   | exact ih3 _ _ _ _ _ _ _ _ _ _ _ _ _ _ _ _ _ _ _ _
   | exact lunisolar_Begin.mono _ _ _ _ _ _ _ _ _ _ _ _ _ _
   | exact lunisolar_Check.mono _ _ _ _ _ _ _ _ _ _ _ _
   | exact lunisolar_Months.mono _ _ _ _ _ _ _ _ _ _ _ _ _
   | exact LeO.none _
   | refine LeO.ite ?_ ?_
   | refine LeO.bind ?_ (fun _ => ?_)
set_option maxHeartbeats 8000000 in
set_option maxRecDepth 100000 in
theorem observed_Of.calls (k : Nat) (a0_0 : ByteArray) (a0_1 : Int) (a0_2 : Int) (a0_3 : Int) (a0_4 : Int) (a0_5 : Int) (a0_6 : Int) (a0_7 : Int) (a0_8 : Int) (A0_9 : Option Addr) (c0_9 : Nat) (l0_9 : List Int) (A0_10 : Option Addr) (c0_10 : Nat) (l0_10 : List Int) (a1 : Int) (a2 : Int) (r1 : ByteArray) (r2 : Int) (r3 : List Int) (r4 : List Int) (r5 : Int) (w : World) (hr0_9 : Kd.C (Kd.int .i64) w A0_9 l0_9.length l0_9) (hc0_9 : l0_9.length ≤ c0_9) (hr0_10 : Kd.C (Kd.int .i64) w A0_10 l0_10.length l0_10) (hc0_10 : l0_10.length ≤ c0_10) (h : observed_Of.f k a0_0 a0_1 a0_2 a0_3 a0_4 a0_5 a0_6 a0_7 a0_8 l0_9 l0_10 a1 a2 = some (r1, r2, r3, r4, r5)) :
  Calls Try.prog 28 #[.agg #[.string a0_0, .int .i64 a0_1, .int .i64 a0_2, .int .i64 a0_3, .int .i64 a0_4, .int .i64 a0_5, .int .i64 a0_6, .int .i64 a0_7, .int .i64 a0_8, .slice A0_9 l0_9.length c0_9, .slice A0_10 l0_10.length c0_10], .int .i64 a1, .int .i64 a2] w fun e w' => ∃ v2_ v3_ : Value, e = .returned (.tuple #[.agg #[.string r1, .int .i64 r2, v2_, v3_], .int .i64 r5]) ∧ Kd.R (Kd.int .i64) 3 w' w.heap.size (fun k_ => some k_ ≠ (v3_ : Value).ownBlock) v2_ r3 ∧ Kd.R (Kd.int .i64) 3 w' w.heap.size (fun k_ => some k_ ≠ (v2_ : Value).ownBlock) v3_ r4 ∧ Below w.heap.size w w' := by
 have hu26 := Try.underlying26
 have hu67 := Try.underlying67
 have HR0_9 := Aside0.mk hr0_9
 have HC0_9 := Aside0.mk hc0_9
 clear hr0_9 hc0_9
 have HR0_10 := Aside0.mk hr0_10
 have HC0_10 := Aside0.mk hc0_10
 clear hr0_10 hc0_10
 have HB := Aside0.mk (Below.refl w.heap.size w)
 have H : ((lunisolar_Check.f k a0_0 a0_1 a0_2 a0_3 a0_4 a0_5 a0_6 a0_7 a0_8 l0_9 l0_10).bind fun t159 => (if t159 = 0 then (if a2 < 1 then (observed_Of.j0 k a1 a2 true a0_0 a0_1 a0_2 a0_3 a0_4 a0_5 a0_6 a0_7 a0_8 l0_9 l0_10) else (observed_Of.j0 k a1 a2 (decide (a2 > 40)) a0_0 a0_1 a0_2 a0_3 a0_4 a0_5 a0_6 a0_7 a0_8 l0_9 l0_10)) else (some ((⟨#[]⟩ : ByteArray), 0, ([] : List Int), ([] : List Int), t159)))) = some (r1, r2, r3, r4, r5) := h
 clear h
 replace H := o_s H
 obtain ⟨t159, A40, H⟩ := H
 replace H : (if t159 = 0 then (if a2 < 1 then (observed_Of.j0 k a1 a2 true a0_0 a0_1 a0_2 a0_3 a0_4 a0_5 a0_6 a0_7 a0_8 l0_9 l0_10) else (observed_Of.j0 k a1 a2 (decide (a2 > 40)) a0_0 a0_1 a0_2 a0_3 a0_4 a0_5 a0_6 a0_7 a0_8 l0_9 l0_10)) else (some ((⟨#[]⟩ : ByteArray), 0, ([] : List Int), ([] : List Int), t159))) = some (r1, r2, r3, r4, r5) := H
 have A4 := Aside0.mk A40
 clear A40
 by_cases c5 : t159 = 0
 ·rw [if_pos c5] at H
  have c5b0 : (t159 == 0) = true := beq_iff_eq.mpr c5
  have c5b1 : (t159 != 0) = false := bne_eq_false_iff_eq.mpr c5
  clear c5
  have HC6 := Aside0.mk H
  clear H
  go_enter Try.func28, Try.ntmps28
  go_upto_region 4 with (first | ((with_reducible refine gate_dst (N := 3) rfl ?_); refine box_event ?hg (N := 3) ?hd (cs := #[.string a0_0, .int .i64 a0_1, .int .i64 a0_2, .int .i64 a0_3, .int .i64 a0_4, .int .i64 a0_5, .int .i64 a0_6, .int .i64 a0_7, .int .i64 a0_8, .slice A0_9 l0_9.length c0_9, .slice A0_10 l0_10.length c0_10]) (t := 26) ?hr ?_; (case hd => rfl); (case hg => rfl); (case hr => first | (go_simp; done) | (go_simp; rfl)); intro gb157 hg w7 hbox hb; have n0_ := Aside0.mk (below_step (by repeat (first | (with_reducible first | exact HB.out | apply p_a | apply p_n | apply p_1) | exact HB.out)) hb); have n1_ := Aside0.mk (hbox); have n2_ := Aside0.mk ((by rw [hg]; exact (below_size (by repeat (first | (with_reducible first | exact HB.out | apply p_a | apply p_n | apply p_1) | exact HB.out))) : w.heap.size ≤ gb157)); have n3_ := n2_; clear HB; have HB := n0_; have BK157 := n1_; have GW157 := n2_; have GE157 := n3_; clear n0_ n1_ n2_ n3_; clear hb hbox hg) | ((with_reducible refine gate_dst (N := 6) rfl ?_); refine box_event ?hg (N := 6) ?hd (cs := #[.string (⟨#[]⟩ : ByteArray), .int .i64 0, .slice none 0 0, .slice none 0 0]) (t := 67) ?hr ?_; (case hd => rfl); (case hg => rfl); (case hr => first | (go_simp; done) | (go_simp; rfl)); intro gb158 hg w8 hbox hb; have n0_ := bb_ BK157 hb; have n1_ := Aside0.mk (below_step (by repeat (first | (with_reducible first | exact HB.out | apply p_a | apply p_n | apply p_1 | refine p_s ?_ GE157.out) | exact HB.out)) hb); have n2_ := Aside0.mk (hbox); have n3_ := Aside0.mk ((by rw [hg]; exact (below_size (by repeat (first | (with_reducible first | exact HB.out | apply p_a | apply p_n | apply p_1 | refine p_s ?_ GE157.out) | exact HB.out))) : w.heap.size ≤ gb158)); have n4_ := n3_; have n5_ := bl_ BK157 hg; have n6_ := bg_ BK157 hg; clear BK157; clear HB; have BK157 := n0_; have HB := n1_; have BK158 := n2_; have GW158 := n3_; have GE158 := n4_; have NB157_158 := n5_; have NB158_157 := n6_; clear n0_ n1_ n2_ n3_ n4_ n5_ n6_; clear hb hbox hg; have hnb9 := NB157_158.out; have hnc9 := NB158_157.out; have hcz10_0 : w8.cell? ⟨gb157, 0, none⟩ = some (.string a0_0) := (q_c BK157.out 0).trans rfl; have hcz10_1 : w8.cell? ⟨gb157, 1, none⟩ = some (.int .i64 a0_1) := (q_c BK157.out 1).trans rfl; have hcz10_2 : w8.cell? ⟨gb157, 2, none⟩ = some (.int .i64 a0_2) := (q_c BK157.out 2).trans rfl; have hcz10_3 : w8.cell? ⟨gb157, 3, none⟩ = some (.int .i64 a0_3) := (q_c BK157.out 3).trans rfl; have hcz10_4 : w8.cell? ⟨gb157, 4, none⟩ = some (.int .i64 a0_4) := (q_c BK157.out 4).trans rfl; have hcz10_5 : w8.cell? ⟨gb157, 5, none⟩ = some (.int .i64 a0_5) := (q_c BK157.out 5).trans rfl; have hcz10_6 : w8.cell? ⟨gb157, 6, none⟩ = some (.int .i64 a0_6) := (q_c BK157.out 6).trans rfl; have hcz10_7 : w8.cell? ⟨gb157, 7, none⟩ = some (.int .i64 a0_7) := (q_c BK157.out 7).trans rfl; have hcz10_8 : w8.cell? ⟨gb157, 8, none⟩ = some (.int .i64 a0_8) := (q_c BK157.out 8).trans rfl; have hcz10_9 : w8.cell? ⟨gb157, 9, none⟩ = some (.slice A0_9 l0_9.length c0_9) := (q_c BK157.out 9).trans rfl; have hcz10_10 : w8.cell? ⟨gb157, 10, none⟩ = some (.slice A0_10 l0_10.length c0_10) := (q_c BK157.out 10).trans rfl; have hfz10_0 := q_f BK157.out 0; have hfz10_1 := q_f BK157.out 1; have hfz10_2 := q_f BK157.out 2; have hfz10_3 := q_f BK157.out 3; have hfz10_4 := q_f BK157.out 4; have hfz10_5 := q_f BK157.out 5; have hfz10_6 := q_f BK157.out 6; have hfz10_7 := q_f BK157.out 7; have hfz10_8 := q_f BK157.out 8; have hfz10_9 := q_f BK157.out 9; have hfz10_10 := q_f BK157.out 10) | ((with_reducible refine gate_callee (f := 12) rfl ?_); refine goesL_ (some 19) rfl rfl Try.func12 (by kernel_rfl) rfl #[.agg #[.string a0_0, .int .i64 a0_1, .int .i64 a0_2, .int .i64 a0_3, .int .i64 a0_4, .int .i64 a0_5, .int .i64 a0_6, .int .i64 a0_7, .int .i64 a0_8, .slice A0_9 l0_9.length c0_9, .slice A0_10 l0_10.length c0_10]] rfl (by (try simp only [List.map_toArray, List.map_cons, List.map_nil]); first | done | rfl) ?_; (with_reducible refine (lunisolar_Check.calls k a0_0 a0_1 a0_2 a0_3 a0_4 a0_5 a0_6 a0_7 a0_8 _ _ l0_9 _ _ l0_10 t159 _ ?side1 ?side2 ?side3 ?side4 A4.out).mono ?_); (case side1 => repeat (first | exact (Kd.C_below HR0_9.out HB.out) | (with_reducible first | refine c_a ?_ _ | refine c_n ?_ _ | refine c_d ?_))); (case side2 => exact HC0_9.out); (case side3 => repeat (first | exact (Kd.C_below HR0_10.out HB.out) | (with_reducible first | refine c_a ?_ _ | refine c_n ?_ _ | refine c_d ?_))); (case side4 => exact HC0_10.out); rintro e w11 ⟨rfl, hb⟩; refine ⟨_, rfl, ?_⟩; have n0_ := bb_ BK157 hb; have n1_ := bb_ BK158 hb; have n2_ := Aside0.mk (below_step (by repeat (first | (with_reducible first | exact HB.out | apply p_a | apply p_n | apply p_1 | refine p_s ?_ GE157.out | refine p_s ?_ GE158.out) | exact HB.out)) hb); clear BK157; clear BK158; clear HB; have BK157 := n0_; have BK158 := n1_; have HB := n2_; clear n0_ n1_ n2_; (try clear hb); (try clear hb2); (try clear hk); (try clear hi)))
  (try simp only [Act.put, List.setIfInBounds_toArray, List.set_cons_zero, List.set_cons_succ])
  go_cut [29] (fun v29 wc => ∃ (kq : Nat) (x29_5 : Bool), v29 = .bool x29_5 ∧ Aside0 (observed_Of.j0 kq a1 a2 x29_5 a0_0 a0_1 a0_2 a0_3 a0_4 a0_5 a0_6 a0_7 a0_8 l0_9 l0_10 = some (r1, r2, r3, r4, r5)) ∧ Aside0 (kq ≤ k) ∧ Aside0 (wc.heap[gb157]? = some (.cells #[.string a0_0, .int .i64 a0_1, .int .i64 a0_2, .int .i64 a0_3, .int .i64 a0_4, .int .i64 a0_5, .int .i64 a0_6, .int .i64 a0_7, .int .i64 a0_8, (.slice A0_9 l0_9.length c0_9), (.slice A0_10 l0_10.length c0_10)] 26 (0, 0))) ∧ Aside0 (wc.heap[gb158]? = some (.cells #[.string (⟨#[]⟩ : ByteArray), .int .i64 0, (.slice none 0 0), (.slice none 0 0)] 67 (0, 0))) ∧ Aside0 (Below w.heap.size w wc))
  case first =>
   have H := HC6.out
   clear HC6
   by_cases c12 : a2 < 1
   ·rw [if_pos c12] at H
    have c12b0 : decide (a2 < 1) = true := decide_eq_true c12
    clear c12
    (first | rw [c12b0] | (simp only [i64_w, i32_w]; rw [c12b0]) | skip)
    have H' := Aside0.mk H
    clear H
    go_wp2
    go_meet
    case rel => exact ⟨_, (true), (by first | rfl | (simp; done) | (simp [*]; done) | (simp [bne]; done) | (simp [i64_w, i32_w]; done)), H', ⟨by first | omega | exact Nat.le_refl _⟩, ⟨by (with_reducible repeat (first | refine q_n ?_ _ | refine q_d ?_ | refine q_a ?_ _)); exact BK157.out⟩, ⟨by (with_reducible repeat (first | refine q_n ?_ _ | refine q_d ?_ | refine q_a ?_ _)); exact BK158.out⟩, ⟨by repeat (first | (with_reducible first | exact HB.out | apply p_a | apply p_n | apply p_1 | refine p_s ?_ GE157.out | refine p_s ?_ GE158.out) | exact HB.out)⟩⟩
   ·rw [if_neg c12] at H
    have c12b0 : decide (a2 < 1) = false := decide_eq_false c12
    clear c12
    (first | rw [c12b0] | (simp only [i64_w, i32_w]; rw [c12b0]) | skip)
    have H' := Aside0.mk H
    clear H
    go_wp2
    go_meet
    case rel => exact ⟨_, (decide (a2 > 40)), (by first | rfl | (simp; done) | (simp [*]; done) | (simp [bne]; done) | (simp [i64_w, i32_w]; done)), H', ⟨by first | omega | exact Nat.le_refl _⟩, ⟨by (with_reducible repeat (first | refine q_n ?_ _ | refine q_d ?_ | refine q_a ?_ _)); exact BK157.out⟩, ⟨by (with_reducible repeat (first | refine q_n ?_ _ | refine q_d ?_ | refine q_a ?_ _)); exact BK158.out⟩, ⟨by repeat (first | (with_reducible first | exact HB.out | apply p_a | apply p_n | apply p_1 | refine p_s ?_ GE157.out | refine p_s ?_ GE158.out) | exact HB.out)⟩⟩
  case rest =>
   clear HC6
   try clear c1
   try clear c2
   try clear p2
   try clear c5
   try clear c5b0
   try clear c5b1
   try clear c9
   try clear c12
   try clear c12b0
   try clear hcz10_0
   try clear hcz10_1
   try clear hcz10_10
   try clear hcz10_2
   try clear hcz10_3
   try clear hcz10_4
   try clear hcz10_5
   try clear hcz10_6
   try clear hcz10_7
   try clear hcz10_8
   try clear hcz10_9
   try clear hfz10_0
   try clear hfz10_1
   try clear hfz10_10
   try clear hfz10_2
   try clear hfz10_3
   try clear hfz10_4
   try clear hfz10_5
   try clear hfz10_6
   try clear hfz10_7
   try clear hfz10_8
   try clear hfz10_9
   obtain ⟨kq, x29_5, rfl, HA, HJ5, BK157, BK158, HB⟩ := hcut
   cases kq with
   | zero => exact absurd HA.out (by simp [observed_Of.j0])
   | succ kj5 =>
    have H := HA.out
    clear HA
    simp only [observed_Of.j0] at H
    by_cases c13 : x29_5 = true
    ·subst c13
     have H1 : (some ((⟨#[]⟩ : ByteArray), 0, ([] : List Int), ([] : List Int), 1)) = some (r1, r2, r3, r4, r5) := by rw [if_pos rfl] at H; exact H
     clear H
     have H := H1
     clear H1
     simp only [Option.some.injEq, Prod.mk.injEq] at H
     obtain ⟨rfl, rfl, rfl, rfl, rfl⟩ := H
     have hnb14 := NB158_157.out
     have hnc14 := NB157_158.out
     have hcz15_0 : wc.cell? ⟨gb158, 0, none⟩ = some (.string (⟨#[]⟩ : ByteArray)) := (q_c BK158.out 0).trans rfl
     have hcz15_1 : wc.cell? ⟨gb158, 1, none⟩ = some (.int .i64 0) := (q_c BK158.out 1).trans rfl
     have hcz15_2 : wc.cell? ⟨gb158, 2, none⟩ = some (.slice none 0 0) := (q_c BK158.out 2).trans rfl
     have hcz15_3 : wc.cell? ⟨gb158, 3, none⟩ = some (.slice none 0 0) := (q_c BK158.out 3).trans rfl
     have hfz15_0 := q_f BK158.out 0
     have hfz15_1 := q_f BK158.out 1
     have hfz15_2 := q_f BK158.out 2
     have hfz15_3 := q_f BK158.out 3
     go_wp2
     refine bodyPost_ret (results_ct rfl _ _ gb158 67 #[.string (⟨#[]⟩ : ByteArray), .int .i64 0, .slice none 0 0, .slice none 0 0] (0, 0) _ rfl (by (with_reducible repeat (first | refine q_n ?_ _ | refine q_d ?_ | refine q_a ?_ _)); refine blk_put (cs := #[.string (⟨#[]⟩ : ByteArray), .int .i64 0, .slice none 0 0, .slice none 0 0]) ?_ 3 _ rfl; (with_reducible repeat (first | refine q_n ?_ _ | refine q_d ?_ | refine q_a ?_ _)); refine blk_put (cs := #[.string (⟨#[]⟩ : ByteArray), .int .i64 0, .slice none 0 0, .slice none 0 0]) ?_ 2 _ rfl; (with_reducible repeat (first | refine q_n ?_ _ | refine q_d ?_ | refine q_a ?_ _)); refine blk_put (cs := #[.string (⟨#[]⟩ : ByteArray), .int .i64 0, .slice none 0 0, .slice none 0 0]) ?_ 1 _ rfl; (with_reducible repeat (first | refine q_n ?_ _ | refine q_d ?_ | refine q_a ?_ _)); refine blk_put (cs := #[.string (⟨#[]⟩ : ByteArray), .int .i64 0, .slice none 0 0, .slice none 0 0]) ?_ 0 _ rfl; (with_reducible repeat (first | refine q_n ?_ _ | refine q_d ?_ | refine q_a ?_ _)); exact BK158.out) Try.underlying67 rfl (by kernel_rfl)) rfl ?_
     exact ⟨_, _, by first | rfl | (simp [errW_none, errW_some] <;> rfl) | (simp [*, errW_none, errW_some] <;> rfl), by first | exact Kd.R_nil _ _ _ _ _ | exact Kd.N_nil _ _ _ _ _ | exact Kd.V_nil _ _ _ _ _ | exact Kd.Q_nil _ _ _ _ _ | exact Kd.S_nil _ _ _ _ _, by first | exact Kd.R_nil _ _ _ _ _ | exact Kd.N_nil _ _ _ _ _ | exact Kd.V_nil _ _ _ _ _ | exact Kd.Q_nil _ _ _ _ _ | exact Kd.S_nil _ _ _ _ _, by repeat (first | (with_reducible first | exact HB.out | apply p_a | apply p_n | apply p_1 | refine p_s ?_ GE157.out | refine p_s ?_ GE158.out) | exact HB.out)⟩
    ·replace c13 := Bool.eq_false_iff.mpr c13
     subst c13
     have H1 : (if a1 < (-10000) then (observed_Of.j1 kj5 a1 a2 true a0_0 a0_1 a0_2 a0_3 a0_4 a0_5 a0_6 a0_7 a0_8 l0_9 l0_10) else (observed_Of.j1 kj5 a1 a2 (decide (a1 > 9960)) a0_0 a0_1 a0_2 a0_3 a0_4 a0_5 a0_6 a0_7 a0_8 l0_9 l0_10)) = some (r1, r2, r3, r4, r5) := by rw [if_neg (show ¬ (false = true) by decide)] at H; exact H
     clear H
     have H := H1
     clear H1
     have HC16 := Aside0.mk H
     clear H
     go_upto_region 6 with (fail)
     go_cut [36] (fun v36 wc => ∃ (kq : Nat) (x36_15 : Bool), v36 = .bool x36_15 ∧ Aside0 (observed_Of.j1 kq a1 a2 x36_15 a0_0 a0_1 a0_2 a0_3 a0_4 a0_5 a0_6 a0_7 a0_8 l0_9 l0_10 = some (r1, r2, r3, r4, r5)) ∧ Aside0 (kq ≤ kj5) ∧ Aside0 (wc.heap[gb157]? = some (.cells #[.string a0_0, .int .i64 a0_1, .int .i64 a0_2, .int .i64 a0_3, .int .i64 a0_4, .int .i64 a0_5, .int .i64 a0_6, .int .i64 a0_7, .int .i64 a0_8, (.slice A0_9 l0_9.length c0_9), (.slice A0_10 l0_10.length c0_10)] 26 (0, 0))) ∧ Aside0 (wc.heap[gb158]? = some (.cells #[.string (⟨#[]⟩ : ByteArray), .int .i64 0, (.slice none 0 0), (.slice none 0 0)] 67 (0, 0))) ∧ Aside0 (Below w.heap.size w wc))
     case first =>
      have H := HC16.out
      clear HC16
      by_cases c17 : a1 < (-10000)
      ·rw [if_pos c17] at H
       have c17b0 : decide (a1 < (-10000)) = true := decide_eq_true c17
       clear c17
       (first | rw [c17b0] | (simp only [i64_w, i32_w]; rw [c17b0]) | skip)
       have H' := Aside0.mk H
       clear H
       go_wp2
       go_meet
       case rel => exact ⟨_, (true), (by first | rfl | (simp; done) | (simp [*]; done) | (simp [bne]; done) | (simp [i64_w, i32_w]; done)), H', ⟨by have := HJ5.out; first | omega | exact Nat.le_refl _⟩, ⟨by (with_reducible repeat (first | refine q_n ?_ _ | refine q_d ?_ | refine q_a ?_ _)); exact BK157.out⟩, ⟨by (with_reducible repeat (first | refine q_n ?_ _ | refine q_d ?_ | refine q_a ?_ _)); exact BK158.out⟩, ⟨by repeat (first | (with_reducible first | exact HB.out | apply p_a | apply p_n | apply p_1 | refine p_s ?_ GE157.out | refine p_s ?_ GE158.out) | exact HB.out)⟩⟩
      ·rw [if_neg c17] at H
       have c17b0 : decide (a1 < (-10000)) = false := decide_eq_false c17
       clear c17
       (first | rw [c17b0] | (simp only [i64_w, i32_w]; rw [c17b0]) | skip)
       have H' := Aside0.mk H
       clear H
       go_wp2
       go_meet
       case rel => exact ⟨_, (decide (a1 > 9960)), (by first | rfl | (simp; done) | (simp [*]; done) | (simp [bne]; done) | (simp [i64_w, i32_w]; done)), H', ⟨by have := HJ5.out; first | omega | exact Nat.le_refl _⟩, ⟨by (with_reducible repeat (first | refine q_n ?_ _ | refine q_d ?_ | refine q_a ?_ _)); exact BK157.out⟩, ⟨by (with_reducible repeat (first | refine q_n ?_ _ | refine q_d ?_ | refine q_a ?_ _)); exact BK158.out⟩, ⟨by repeat (first | (with_reducible first | exact HB.out | apply p_a | apply p_n | apply p_1 | refine p_s ?_ GE157.out | refine p_s ?_ GE158.out) | exact HB.out)⟩⟩
     case rest =>
      clear HC16
      try clear c1
      try clear c2
      try clear p2
      try clear c5
      try clear c5b0
      try clear c5b1
      try clear c9
      try clear c12
      try clear c12b0
      try clear c13
      try clear c14
      try clear c17
      try clear c17b0
      try clear hcz10_0
      try clear hcz10_1
      try clear hcz10_10
      try clear hcz10_2
      try clear hcz10_3
      try clear hcz10_4
      try clear hcz10_5
      try clear hcz10_6
      try clear hcz10_7
      try clear hcz10_8
      try clear hcz10_9
      try clear hcz15_0
      try clear hcz15_1
      try clear hcz15_2
      try clear hcz15_3
      try clear hfz10_0
      try clear hfz10_1
      try clear hfz10_10
      try clear hfz10_2
      try clear hfz10_3
      try clear hfz10_4
      try clear hfz10_5
      try clear hfz10_6
      try clear hfz10_7
      try clear hfz10_8
      try clear hfz10_9
      try clear hfz15_0
      try clear hfz15_1
      try clear hfz15_2
      try clear hfz15_3
      try clear p2
      obtain ⟨kq, x36_15, rfl, HA, HJ15, BK157, BK158, HB⟩ := hcut
      cases kq with
      | zero => exact absurd HA.out (by simp [observed_Of.j1])
      | succ kj15 =>
       have H := HA.out
       clear HA
       simp only [observed_Of.j1] at H
       by_cases c18 : x36_15 = true
       ·subst c18
        have H1 : (some ((⟨#[]⟩ : ByteArray), 0, ([] : List Int), ([] : List Int), 3)) = some (r1, r2, r3, r4, r5) := by rw [if_pos rfl] at H; exact H
        clear H
        have H := H1
        clear H1
        simp only [Option.some.injEq, Prod.mk.injEq] at H
        obtain ⟨rfl, rfl, rfl, rfl, rfl⟩ := H
        have hnb19 := NB158_157.out
        have hnc19 := NB157_158.out
        have hcz20_0 : wc.cell? ⟨gb158, 0, none⟩ = some (.string (⟨#[]⟩ : ByteArray)) := (q_c BK158.out 0).trans rfl
        have hcz20_1 : wc.cell? ⟨gb158, 1, none⟩ = some (.int .i64 0) := (q_c BK158.out 1).trans rfl
        have hcz20_2 : wc.cell? ⟨gb158, 2, none⟩ = some (.slice none 0 0) := (q_c BK158.out 2).trans rfl
        have hcz20_3 : wc.cell? ⟨gb158, 3, none⟩ = some (.slice none 0 0) := (q_c BK158.out 3).trans rfl
        have hfz20_0 := q_f BK158.out 0
        have hfz20_1 := q_f BK158.out 1
        have hfz20_2 := q_f BK158.out 2
        have hfz20_3 := q_f BK158.out 3
        go_wp2
        refine bodyPost_ret (results_ct rfl _ _ gb158 67 #[.string (⟨#[]⟩ : ByteArray), .int .i64 0, .slice none 0 0, .slice none 0 0] (0, 0) _ rfl (by (with_reducible repeat (first | refine q_n ?_ _ | refine q_d ?_ | refine q_a ?_ _)); refine blk_put (cs := #[.string (⟨#[]⟩ : ByteArray), .int .i64 0, .slice none 0 0, .slice none 0 0]) ?_ 3 _ rfl; (with_reducible repeat (first | refine q_n ?_ _ | refine q_d ?_ | refine q_a ?_ _)); refine blk_put (cs := #[.string (⟨#[]⟩ : ByteArray), .int .i64 0, .slice none 0 0, .slice none 0 0]) ?_ 2 _ rfl; (with_reducible repeat (first | refine q_n ?_ _ | refine q_d ?_ | refine q_a ?_ _)); refine blk_put (cs := #[.string (⟨#[]⟩ : ByteArray), .int .i64 0, .slice none 0 0, .slice none 0 0]) ?_ 1 _ rfl; (with_reducible repeat (first | refine q_n ?_ _ | refine q_d ?_ | refine q_a ?_ _)); refine blk_put (cs := #[.string (⟨#[]⟩ : ByteArray), .int .i64 0, .slice none 0 0, .slice none 0 0]) ?_ 0 _ rfl; (with_reducible repeat (first | refine q_n ?_ _ | refine q_d ?_ | refine q_a ?_ _)); exact BK158.out) Try.underlying67 rfl (by kernel_rfl)) rfl ?_
        exact ⟨_, _, by first | rfl | (simp [errW_none, errW_some] <;> rfl) | (simp [*, errW_none, errW_some] <;> rfl), by first | exact Kd.R_nil _ _ _ _ _ | exact Kd.N_nil _ _ _ _ _ | exact Kd.V_nil _ _ _ _ _ | exact Kd.Q_nil _ _ _ _ _ | exact Kd.S_nil _ _ _ _ _, by first | exact Kd.R_nil _ _ _ _ _ | exact Kd.N_nil _ _ _ _ _ | exact Kd.V_nil _ _ _ _ _ | exact Kd.Q_nil _ _ _ _ _ | exact Kd.S_nil _ _ _ _ _, by repeat (first | (with_reducible first | exact HB.out | apply p_a | apply p_n | apply p_1 | refine p_s ?_ GE157.out | refine p_s ?_ GE158.out) | exact HB.out)⟩
       ·replace c18 := Bool.eq_false_iff.mpr c18
        subst c18
        have H1 : (observed_Of.l0 kj15 a1 a2 a1 a0_0 a0_1 a0_2 a0_3 a0_4 a0_5 a0_6 a0_7 a0_8 l0_9 l0_10 a0_0 a1 ([] : List Int) ([] : List Int)) = some (r1, r2, r3, r4, r5) := by rw [if_neg (show ¬ (false = true) by decide)] at H; exact H
        clear H
        have H := H1
        clear H1
        have H' := Aside0.mk H
        clear H
        have hnb21 := NB157_158.out
        have hnc21 := NB158_157.out
        have hcz22_0 : wc.cell? ⟨gb157, 0, none⟩ = some (.string a0_0) := (q_c BK157.out 0).trans rfl
        have hcz22_1 : wc.cell? ⟨gb157, 1, none⟩ = some (.int .i64 a0_1) := (q_c BK157.out 1).trans rfl
        have hcz22_2 : wc.cell? ⟨gb157, 2, none⟩ = some (.int .i64 a0_2) := (q_c BK157.out 2).trans rfl
        have hcz22_3 : wc.cell? ⟨gb157, 3, none⟩ = some (.int .i64 a0_3) := (q_c BK157.out 3).trans rfl
        have hcz22_4 : wc.cell? ⟨gb157, 4, none⟩ = some (.int .i64 a0_4) := (q_c BK157.out 4).trans rfl
        have hcz22_5 : wc.cell? ⟨gb157, 5, none⟩ = some (.int .i64 a0_5) := (q_c BK157.out 5).trans rfl
        have hcz22_6 : wc.cell? ⟨gb157, 6, none⟩ = some (.int .i64 a0_6) := (q_c BK157.out 6).trans rfl
        have hcz22_7 : wc.cell? ⟨gb157, 7, none⟩ = some (.int .i64 a0_7) := (q_c BK157.out 7).trans rfl
        have hcz22_8 : wc.cell? ⟨gb157, 8, none⟩ = some (.int .i64 a0_8) := (q_c BK157.out 8).trans rfl
        have hcz22_9 : wc.cell? ⟨gb157, 9, none⟩ = some (.slice A0_9 l0_9.length c0_9) := (q_c BK157.out 9).trans rfl
        have hcz22_10 : wc.cell? ⟨gb157, 10, none⟩ = some (.slice A0_10 l0_10.length c0_10) := (q_c BK157.out 10).trans rfl
        have hfz22_0 := q_f BK157.out 0
        have hfz22_1 := q_f BK157.out 1
        have hfz22_2 := q_f BK157.out 2
        have hfz22_3 := q_f BK157.out 3
        have hfz22_4 := q_f BK157.out 4
        have hfz22_5 := q_f BK157.out 5
        have hfz22_6 := q_f BK157.out 6
        have hfz22_7 := q_f BK157.out 7
        have hfz22_8 := q_f BK157.out 8
        have hfz22_9 := q_f BK157.out 9
        have hfz22_10 := q_f BK157.out 10
        go_wp2_with (first | ((with_reducible refine gate_dst (N := 9) rfl ?_); refine box_event ?hg (N := 9) ?hd (cs := #[.string (⟨#[]⟩ : ByteArray), .int .i64 0, .slice none 0 0, .slice none 0 0]) (t := 67) ?hr ?_; (case hd => rfl); (case hg => rfl); (case hr => first | (go_simp; done) | (go_simp; rfl)); intro gb160 hg w23 hbox hb; have n0_ := bb_ BK157 hb; have n1_ := bb_ BK158 hb; have n2_ := Aside0.mk (below_step (by repeat (first | (with_reducible first | exact HB.out | apply p_a | apply p_n | apply p_1 | refine p_s ?_ GE157.out | refine p_s ?_ GE158.out) | exact HB.out)) hb); have n3_ := Aside0.mk (hbox); have n4_ := Aside0.mk ((by rw [hg]; exact (below_size (by repeat (first | (with_reducible first | exact HB.out | apply p_a | apply p_n | apply p_1 | refine p_s ?_ GE157.out | refine p_s ?_ GE158.out) | exact HB.out))) : w.heap.size ≤ gb160)); have n5_ := n4_; have n6_ := bl_ BK157 hg; have n7_ := bg_ BK157 hg; have n8_ := bl_ BK158 hg; have n9_ := bg_ BK158 hg; clear BK157; clear BK158; clear HB; have BK157 := n0_; have BK158 := n1_; have HB := n2_; have BK160 := n3_; have GW160 := n4_; have GE160 := n5_; have NB157_160 := n6_; have NB160_157 := n7_; have NB158_160 := n8_; have NB160_158 := n9_; clear n0_ n1_ n2_ n3_ n4_ n5_ n6_ n7_ n8_ n9_; clear hb hbox hg; have hnb24 := NB160_157.out; have hnc24 := NB157_160.out; have hnb25 := NB160_158.out; have hnc25 := NB158_160.out; have hcz26_0 : w23.cell? ⟨gb160, 0, none⟩ = some (.string (⟨#[]⟩ : ByteArray)) := (q_c BK160.out 0).trans rfl; have hcz26_1 : w23.cell? ⟨gb160, 1, none⟩ = some (.int .i64 0) := (q_c BK160.out 1).trans rfl; have hcz26_2 : w23.cell? ⟨gb160, 2, none⟩ = some (.slice none 0 0) := (q_c BK160.out 2).trans rfl; have hcz26_3 : w23.cell? ⟨gb160, 3, none⟩ = some (.slice none 0 0) := (q_c BK160.out 3).trans rfl; have hfz26_0 := q_f BK160.out 0; have hfz26_1 := q_f BK160.out 1; have hfz26_2 := q_f BK160.out 2; have hfz26_3 := q_f BK160.out 3))
        go_loopg [10] kj15 (fun kq v10 w' => ∃ (x10_3 : Int) (x159000_3 : ByteArray) (x159001_3 : Int) (x161002_3 : List Int) (x161003_3 : List Int) (u161002 : Value) (u161003 : Value), v10 = .int .i64 x10_3 ∧ Aside0 (observed_Of.l0 kq a1 a2 x10_3 a0_0 a0_1 a0_2 a0_3 a0_4 a0_5 a0_6 a0_7 a0_8 l0_9 l0_10 a0_0 a1 x161002_3 x161003_3 = some (r1, r2, r3, r4, r5)) ∧ Aside0 (kq ≤ kj15) ∧ Aside0 (Kd.R (Kd.int .i64) 3 w' w.heap.size (fun k_ => some k_ ≠ (u161003 : Value).ownBlock) u161002 x161002_3) ∧ Aside0 (Kd.R (Kd.int .i64) 3 w' w.heap.size (fun k_ => some k_ ≠ (u161002 : Value).ownBlock) u161003 x161003_3) ∧ Aside0 (w'.heap[gb157]? = some (.cells #[.string a0_0, .int .i64 a0_1, .int .i64 a0_2, .int .i64 a0_3, .int .i64 a0_4, .int .i64 a0_5, .int .i64 a0_6, .int .i64 a0_7, .int .i64 a0_8, (.slice A0_9 l0_9.length c0_9), (.slice A0_10 l0_10.length c0_10)] 26 (0, 0))) ∧ Aside0 (w'.heap[gb158]? = some (.cells #[.string x159000_3, .int .i64 x159001_3, (.slice none 0 0), (.slice none 0 0)] 67 (0, 0))) ∧ Aside0 (w'.heap[gb160]? = some (.cells #[.string a0_0, .int .i64 a1, u161002, u161003] 67 (0, 0))) ∧ Aside0 (Below w.heap.size w w'))
        case atStart => exact ⟨(a1), ((⟨#[]⟩ : ByteArray)), (0), (([] : List Int)), (([] : List Int)), (.slice none 0 0), (.slice none 0 0), (by first | rfl | (simp; done) | (simp [*]; done) | (simp [bne]; done) | (simp [i64_w, i32_w]; done)), H', ⟨Nat.le_refl _⟩, ⟨by first | exact Kd.R_nil _ _ _ _ _ | exact Kd.N_nil _ _ _ _ _ | exact Kd.V_nil _ _ _ _ _ | exact Kd.Q_nil _ _ _ _ _ | exact Kd.S_nil _ _ _ _ _⟩, ⟨by first | exact Kd.R_nil _ _ _ _ _ | exact Kd.N_nil _ _ _ _ _ | exact Kd.V_nil _ _ _ _ _ | exact Kd.Q_nil _ _ _ _ _ | exact Kd.S_nil _ _ _ _ _⟩, ⟨by (with_reducible repeat (first | refine q_n ?_ _ | refine q_d ?_ | refine q_a ?_ _)); refine blk_far ?_ NB157_160.out _; (with_reducible repeat (first | refine q_n ?_ _ | refine q_d ?_ | refine q_a ?_ _)); refine blk_far ?_ NB157_160.out _; (with_reducible repeat (first | refine q_n ?_ _ | refine q_d ?_ | refine q_a ?_ _)); refine blk_far ?_ NB157_160.out _; (with_reducible repeat (first | refine q_n ?_ _ | refine q_d ?_ | refine q_a ?_ _)); refine blk_far ?_ NB157_160.out _; (with_reducible repeat (first | refine q_n ?_ _ | refine q_d ?_ | refine q_a ?_ _)); exact BK157.out⟩, ⟨by (with_reducible repeat (first | refine q_n ?_ _ | refine q_d ?_ | refine q_a ?_ _)); refine blk_far ?_ NB158_160.out _; (with_reducible repeat (first | refine q_n ?_ _ | refine q_d ?_ | refine q_a ?_ _)); refine blk_far ?_ NB158_160.out _; (with_reducible repeat (first | refine q_n ?_ _ | refine q_d ?_ | refine q_a ?_ _)); refine blk_far ?_ NB158_160.out _; (with_reducible repeat (first | refine q_n ?_ _ | refine q_d ?_ | refine q_a ?_ _)); refine blk_far ?_ NB158_160.out _; (with_reducible repeat (first | refine q_n ?_ _ | refine q_d ?_ | refine q_a ?_ _)); exact BK158.out⟩, ⟨by (with_reducible repeat (first | refine q_n ?_ _ | refine q_d ?_ | refine q_a ?_ _)); refine blk_put (cs := #[.string a0_0, .int .i64 a1, .slice none 0 0, .slice none 0 0]) ?_ 3 _ rfl; (with_reducible repeat (first | refine q_n ?_ _ | refine q_d ?_ | refine q_a ?_ _)); refine blk_put (cs := #[.string a0_0, .int .i64 a1, .slice none 0 0, .slice none 0 0]) ?_ 2 _ rfl; (with_reducible repeat (first | refine q_n ?_ _ | refine q_d ?_ | refine q_a ?_ _)); refine blk_put (cs := #[.string a0_0, .int .i64 0, .slice none 0 0, .slice none 0 0]) ?_ 1 _ rfl; (with_reducible repeat (first | refine q_n ?_ _ | refine q_d ?_ | refine q_a ?_ _)); refine blk_put (cs := #[.string (⟨#[]⟩ : ByteArray), .int .i64 0, .slice none 0 0, .slice none 0 0]) ?_ 0 _ rfl; (with_reducible repeat (first | refine q_n ?_ _ | refine q_d ?_ | refine q_a ?_ _)); exact BK160.out⟩, ⟨by repeat (first | (with_reducible first | exact HB.out | apply p_a | apply p_n | apply p_1 | refine p_s ?_ GE157.out | refine p_s ?_ GE158.out | refine p_s ?_ GE160.out) | exact HB.out)⟩⟩
        case round =>
         clear H'
         try clear c1
         try clear c2
         try clear p2
         try clear c5
         try clear c5b0
         try clear c5b1
         try clear c9
         try clear c12
         try clear c12b0
         try clear c13
         try clear c14
         try clear c17
         try clear c17b0
         try clear c18
         try clear c19
         try clear c21
         try clear c24
         try clear c25
         try clear hcz10_0
         try clear hcz10_1
         try clear hcz10_10
         try clear hcz10_2
         try clear hcz10_3
         try clear hcz10_4
         try clear hcz10_5
         try clear hcz10_6
         try clear hcz10_7
         try clear hcz10_8
         try clear hcz10_9
         try clear hcz15_0
         try clear hcz15_1
         try clear hcz15_2
         try clear hcz15_3
         try clear hcz20_0
         try clear hcz20_1
         try clear hcz20_2
         try clear hcz20_3
         try clear hcz22_0
         try clear hcz22_1
         try clear hcz22_10
         try clear hcz22_2
         try clear hcz22_3
         try clear hcz22_4
         try clear hcz22_5
         try clear hcz22_6
         try clear hcz22_7
         try clear hcz22_8
         try clear hcz22_9
         try clear hcz26_0
         try clear hcz26_1
         try clear hcz26_2
         try clear hcz26_3
         try clear hfz10_0
         try clear hfz10_1
         try clear hfz10_10
         try clear hfz10_2
         try clear hfz10_3
         try clear hfz10_4
         try clear hfz10_5
         try clear hfz10_6
         try clear hfz10_7
         try clear hfz10_8
         try clear hfz10_9
         try clear hfz15_0
         try clear hfz15_1
         try clear hfz15_2
         try clear hfz15_3
         try clear hfz20_0
         try clear hfz20_1
         try clear hfz20_2
         try clear hfz20_3
         try clear hfz22_0
         try clear hfz22_1
         try clear hfz22_10
         try clear hfz22_2
         try clear hfz22_3
         try clear hfz22_4
         try clear hfz22_5
         try clear hfz22_6
         try clear hfz22_7
         try clear hfz22_8
         try clear hfz22_9
         try clear hfz26_0
         try clear hfz26_1
         try clear hfz26_2
         try clear hfz26_3
         try clear p2
         obtain ⟨x10_3, x159000_3, x159001_3, x161002_3, x161003_3, u161002, u161003, rfl, HA, HK3, HO_161002, HO_161003, BK157, BK158, BK160, HB⟩ := hrel
         cases gk with
         | zero => exact absurd HA.out (by simp [observed_Of.l0])
         | succ k3 =>
          have H := HA.out
          clear HA
          simp only [observed_Of.l0] at H
          by_cases c27 : x10_3 < (wrap64 (a1 + a2))
          ·rw [if_pos c27] at H
           have c27b0 : decide (x10_3 < (wrap64 (a1 + a2))) = true := decide_eq_true c27
           clear c27
           replace H := o_s H
           obtain ⟨⟨t166, t167⟩, A280, H⟩ := H
           replace H : (if x161002_3.length < 17592186044416 then (observed_Of.l1 k3 a1 a2 x10_3 t166 1 a0_0 a0_1 a0_2 a0_3 a0_4 a0_5 a0_6 a0_7 a0_8 l0_9 l0_10 a0_0 a1 (x161002_3 ++ [t166]) x161003_3) else (none)) = some (r1, r2, r3, r4, r5) := H
           have A28 := Aside0.mk A280
           clear A280
           by_cases c29 : x161002_3.length < 17592186044416
           ·rw [if_pos c29] at H
            have LMc29 := Aside0.mk c29
            clear c29
            obtain ⟨y168, hy168⟩ : ∃ y_ : List Int, y_ = (x161002_3 ++ [t166]) := ⟨_, rfl⟩
            replace H : (observed_Of.l1 k3 a1 a2 x10_3 t166 1 a0_0 a0_1 a0_2 a0_3 a0_4 a0_5 a0_6 a0_7 a0_8 l0_9 l0_10 a0_0 a1 y168 x161003_3) = some (r1, r2, r3, r4, r5) := by first | (rw [hy168]; with_reducible exact H) | (have H2_ := (Option.bind_some _ _).symm.trans H; rw [hy168]; with_reducible exact H2_) | (have H2_ := (Option.bind_some _ _).symm.trans H; with_reducible exact H2_) | with_reducible exact H | (rw [hy168]; exact H) | exact H
            have Ny168 := Aside0.mk hy168
            clear hy168
            have H' := Aside0.mk H
            clear H
            have hnb30 := NB157_158.out
            have hnc30 := NB158_157.out
            have hnb31 := NB157_160.out
            have hnc31 := NB160_157.out
            have hcz32_0 : wr.cell? ⟨gb157, 0, none⟩ = some (.string a0_0) := (q_c BK157.out 0).trans rfl
            have hcz32_1 : wr.cell? ⟨gb157, 1, none⟩ = some (.int .i64 a0_1) := (q_c BK157.out 1).trans rfl
            have hcz32_2 : wr.cell? ⟨gb157, 2, none⟩ = some (.int .i64 a0_2) := (q_c BK157.out 2).trans rfl
            have hcz32_3 : wr.cell? ⟨gb157, 3, none⟩ = some (.int .i64 a0_3) := (q_c BK157.out 3).trans rfl
            have hcz32_4 : wr.cell? ⟨gb157, 4, none⟩ = some (.int .i64 a0_4) := (q_c BK157.out 4).trans rfl
            have hcz32_5 : wr.cell? ⟨gb157, 5, none⟩ = some (.int .i64 a0_5) := (q_c BK157.out 5).trans rfl
            have hcz32_6 : wr.cell? ⟨gb157, 6, none⟩ = some (.int .i64 a0_6) := (q_c BK157.out 6).trans rfl
            have hcz32_7 : wr.cell? ⟨gb157, 7, none⟩ = some (.int .i64 a0_7) := (q_c BK157.out 7).trans rfl
            have hcz32_8 : wr.cell? ⟨gb157, 8, none⟩ = some (.int .i64 a0_8) := (q_c BK157.out 8).trans rfl
            have hcz32_9 : wr.cell? ⟨gb157, 9, none⟩ = some (.slice A0_9 l0_9.length c0_9) := (q_c BK157.out 9).trans rfl
            have hcz32_10 : wr.cell? ⟨gb157, 10, none⟩ = some (.slice A0_10 l0_10.length c0_10) := (q_c BK157.out 10).trans rfl
            have hfz32_0 := q_f BK157.out 0
            have hfz32_1 := q_f BK157.out 1
            have hfz32_2 := q_f BK157.out 2
            have hfz32_3 := q_f BK157.out 3
            have hfz32_4 := q_f BK157.out 4
            have hfz32_5 := q_f BK157.out 5
            have hfz32_6 := q_f BK157.out 6
            have hfz32_7 := q_f BK157.out 7
            have hfz32_8 := q_f BK157.out 8
            have hfz32_9 := q_f BK157.out 9
            have hfz32_10 := q_f BK157.out 10
            go_wp2_with (first | ((with_reducible refine gate_callee (f := 15) rfl ?_); refine goesL_ (some 53) rfl rfl Try.func15 (by kernel_rfl) rfl #[.agg #[.string a0_0, .int .i64 a0_1, .int .i64 a0_2, .int .i64 a0_3, .int .i64 a0_4, .int .i64 a0_5, .int .i64 a0_6, .int .i64 a0_7, .int .i64 a0_8, .slice A0_9 l0_9.length c0_9, .slice A0_10 l0_10.length c0_10], .int .i64 x10_3] rfl (by (try simp only [List.map_toArray, List.map_cons, List.map_nil]); first | done | rfl) ?_; (with_reducible refine (lunisolar_Months.calls k3 a0_0 a0_1 a0_2 a0_3 a0_4 a0_5 a0_6 a0_7 a0_8 _ _ l0_9 _ _ l0_10 x10_3 t166 t167 _ ?side1 ?side2 ?side3 ?side4 A28.out).mono ?_); (case side1 => repeat (first | exact (Kd.C_below HR0_9.out HB.out) | (with_reducible first | refine c_a ?_ _ | refine c_n ?_ _ | refine c_d ?_))); (case side2 => exact HC0_9.out); (case side3 => repeat (first | exact (Kd.C_below HR0_10.out HB.out) | (with_reducible first | refine c_a ?_ _ | refine c_n ?_ _ | refine c_d ?_))); (case side4 => exact HC0_10.out); rintro e w33 ⟨rfl, hb⟩; refine ⟨_, rfl, ?_⟩; have n0_ := rb_ HO_161002 hb; have n1_ := rb_ HO_161003 hb; have n2_ := bb_ BK157 hb; have n3_ := bb_ BK158 hb; have n4_ := bb_ BK160 hb; have n5_ := Aside0.mk (below_step (by repeat (first | (with_reducible first | exact HB.out | apply p_a | apply p_n | apply p_1 | refine p_s ?_ GE157.out | refine p_s ?_ GE158.out | refine p_s ?_ GE160.out) | exact HB.out)) hb); clear HO_161002; clear HO_161003; clear BK157; clear BK158; clear BK160; clear HB; have HO_161002 := n0_; have HO_161003 := n1_; have BK157 := n2_; have BK158 := n3_; have BK160 := n4_; have HB := n5_; clear n0_ n1_ n2_ n3_ n4_ n5_; (try clear hb); (try clear hb2); (try clear hk); (try clear hi); have hnb34 := NB160_158.out; have hnc34 := NB158_160.out; have hcz35_0 : w33.cell? ⟨gb160, 0, none⟩ = some (.string a0_0) := (q_c BK160.out 0).trans rfl; have hcz35_1 : w33.cell? ⟨gb160, 1, none⟩ = some (.int .i64 a1) := (q_c BK160.out 1).trans rfl; have hcz35_2 : w33.cell? ⟨gb160, 2, none⟩ = some (u161002) := (q_c BK160.out 2).trans rfl; have hcz35_3 : w33.cell? ⟨gb160, 3, none⟩ = some (u161003) := (q_c BK160.out 3).trans rfl; have hfz35_0 := q_f BK160.out 0; have hfz35_1 := q_f BK160.out 1; have hfz35_2 := q_f BK160.out 2; have hfz35_3 := q_f BK160.out 3) | ((with_reducible refine gate_builtin (b := .append) (xs := #[.tmp 57, .tmp 59]) rfl ?_); at_builtin; refine Kd.R_append (Kd.int .i64) (w0 := w) w.heap.size rfl (.tmp 57) (.tmp 59) 24 3 (.int .i64 0) 8 rfl Try.underlying24 info3 rfl (by decide) (by omega) u161002 x161002_3 t166 [.int .i64 t166] (fun k_ => some k_ ≠ (u161003 : Value).ownBlock) (fun _ => False) rfl rfl ?aP (fun _ hk => hk.elim) ?aF ?aO ?aB ?aS ?aL ?_; (case aP => exact rfl); (case aB => exact (by repeat (first | (with_reducible first | exact HB.out | apply p_a | apply p_n | apply p_1 | refine p_s ?_ GE157.out | refine p_s ?_ GE158.out | refine p_s ?_ GE160.out) | exact HB.out))); (case aF => exact (fun k_ hk => Kd.fresh' (Kd.R_lt (by (with_reducible repeat (first | apply Kd.R_alloc | apply Kd.R_drewN | apply Kd.R_drew)); exact HO_161003.out)) k_ hk)); (case aO => exact (by (with_reducible repeat (first | apply Kd.R_alloc | apply Kd.R_drewN | apply Kd.R_drew)); exact HO_161002.out)); (case aS => exact (below_size (by repeat (first | (with_reducible first | exact HB.out | apply p_a | apply p_n | apply p_1 | refine p_s ?_ GE157.out | refine p_s ?_ GE158.out | refine p_s ?_ GE160.out) | exact HB.out)))); (case aL => have := LMc29.out; omega); intro v169 w36 ho hb hg hat; rw [← Ny168.out] at ho; have n0_ := Aside0.mk (Kd.R_after (ok := (fun _ => True)) (by (with_reducible repeat (first | apply Kd.R_alloc | apply Kd.R_drewN | apply Kd.R_drew)); exact Kd.R_mono HO_161003.out (fun _ hk => ⟨trivial, hk⟩)) hg hat); have n1_ := Aside0.mk (blk_grown (g := gb157) (o := .cells #[.string a0_0, .int .i64 a0_1, .int .i64 a0_2, .int .i64 a0_3, .int .i64 a0_4, .int .i64 a0_5, .int .i64 a0_6, .int .i64 a0_7, .int .i64 a0_8, .slice A0_9 l0_9.length c0_9, .slice A0_10 l0_10.length c0_10] 26 (0, 0)) (by (with_reducible repeat (first | refine q_n ?_ _ | refine q_d ?_ | refine q_a ?_ _)); exact BK157.out) hg (Kd.R_ne HO_161002.out BK157.out (by decide))); have n2_ := Aside0.mk (blk_grown (g := gb158) (o := .cells #[.string x159000_3, .int .i64 x159001_3, .slice none 0 0, .slice none 0 0] 67 (0, 0)) (by (with_reducible repeat (first | refine q_n ?_ _ | refine q_d ?_ | refine q_a ?_ _)); exact BK158.out) hg (Kd.R_ne HO_161002.out BK158.out (by decide))); have n3_ := Aside0.mk (blk_grown (g := gb160) (o := .cells #[.string a0_0, .int .i64 a1, u161002, u161003] 67 (0, 0)) (by (with_reducible repeat (first | refine q_n ?_ _ | refine q_d ?_ | refine q_a ?_ _)); exact BK160.out) hg (Kd.R_ne HO_161002.out BK160.out (by decide))); have n4_ := Aside0.mk (hb); have n5_ := Aside0.mk (ho); clear HO_161003; clear BK157; clear BK158; clear BK160; clear HB; clear HO_161002; have HO_161003 := n0_; have BK157 := n1_; have BK158 := n2_; have BK160 := n3_; have HB := n4_; have HO170 := n5_; clear n0_ n1_ n2_ n3_ n4_ n5_; clear ho hb hg hat; obtain ⟨Ao37, co37, eo37⟩ := Kd.R_slice HO170.out; subst eo37; have hcz38_0 : w36.cell? ⟨gb160, 0, none⟩ = some (.string a0_0) := (q_c BK160.out 0).trans rfl; have hcz38_1 : w36.cell? ⟨gb160, 1, none⟩ = some (.int .i64 a1) := (q_c BK160.out 1).trans rfl; have hcz38_2 : w36.cell? ⟨gb160, 2, none⟩ = some (u161002) := (q_c BK160.out 2).trans rfl; have hcz38_3 : w36.cell? ⟨gb160, 3, none⟩ = some (u161003) := (q_c BK160.out 3).trans rfl; have hfz38_0 := q_f BK160.out 0; have hfz38_1 := q_f BK160.out 1; have hfz38_2 := q_f BK160.out 2; have hfz38_3 := q_f BK160.out 3))
            go_loopg [13] k3 (fun kq v13 w' => ∃ (x13_4 : Int) (x159000_4 : ByteArray) (x159001_4 : Int) (x161003_4 : List Int) (u161003 : Value), v13 = .int .i64 x13_4 ∧ Aside0 (observed_Of.l1 kq a1 a2 x10_3 t166 x13_4 a0_0 a0_1 a0_2 a0_3 a0_4 a0_5 a0_6 a0_7 a0_8 l0_9 l0_10 a0_0 a1 y168 x161003_4 = some (r1, r2, r3, r4, r5)) ∧ Aside0 (kq ≤ k3) ∧ Aside0 (Kd.R (Kd.int .i64) 3 w' w.heap.size (fun k_ => some k_ ≠ (u161003 : Value).ownBlock) (.slice Ao37 y168.length co37) y168) ∧ Aside0 (Kd.R (Kd.int .i64) 3 w' w.heap.size (fun k_ => some k_ ≠ ((.slice Ao37 y168.length co37) : Value).ownBlock) u161003 x161003_4) ∧ Aside0 (w'.heap[gb157]? = some (.cells #[.string a0_0, .int .i64 a0_1, .int .i64 a0_2, .int .i64 a0_3, .int .i64 a0_4, .int .i64 a0_5, .int .i64 a0_6, .int .i64 a0_7, .int .i64 a0_8, (.slice A0_9 l0_9.length c0_9), (.slice A0_10 l0_10.length c0_10)] 26 (0, 0))) ∧ Aside0 (w'.heap[gb158]? = some (.cells #[.string x159000_4, .int .i64 x159001_4, (.slice none 0 0), (.slice none 0 0)] 67 (0, 0))) ∧ Aside0 (w'.heap[gb160]? = some (.cells #[.string a0_0, .int .i64 a1, (.slice Ao37 y168.length co37), u161003] 67 (0, 0))) ∧ Aside0 (Below w.heap.size w w'))
            case atStart => exact ⟨(1), (x159000_3), (x159001_3), (x161003_3), (u161003), (by first | rfl | (simp; done) | (simp [*]; done) | (simp [bne]; done) | (simp [i64_w, i32_w]; done)), H', ⟨Nat.le_refl _⟩, ⟨by (with_reducible repeat (first | apply Kd.R_alloc | apply Kd.R_drewN | apply Kd.R_drew)); exact Kd.R_mono (Kd.R_far (p := ⟨gb160, 2, none⟩) (Kd.R_types HO170.out BK160.out (by decide)) (fun _ hk => hk.2) (.slice Ao37 y168.length co37)) (fun _ hk => hk.1)⟩, ⟨by (with_reducible repeat (first | apply Kd.R_alloc | apply Kd.R_drewN | apply Kd.R_drew)); exact Kd.R_mono (Kd.R_far (p := ⟨gb160, 2, none⟩) (Kd.R_types HO_161003.out BK160.out (by decide)) (fun _ hk => hk.2) (.slice Ao37 y168.length co37)) (fun _ hk => hk.1.2)⟩, ⟨by (with_reducible repeat (first | refine q_n ?_ _ | refine q_d ?_ | refine q_a ?_ _)); refine blk_far ?_ NB157_160.out _; (with_reducible repeat (first | refine q_n ?_ _ | refine q_d ?_ | refine q_a ?_ _)); exact BK157.out⟩, ⟨by (with_reducible repeat (first | refine q_n ?_ _ | refine q_d ?_ | refine q_a ?_ _)); refine blk_far ?_ NB158_160.out _; (with_reducible repeat (first | refine q_n ?_ _ | refine q_d ?_ | refine q_a ?_ _)); exact BK158.out⟩, ⟨by (with_reducible repeat (first | refine q_n ?_ _ | refine q_d ?_ | refine q_a ?_ _)); refine blk_put (cs := #[.string a0_0, .int .i64 a1, u161002, u161003]) ?_ 2 _ rfl; (with_reducible repeat (first | refine q_n ?_ _ | refine q_d ?_ | refine q_a ?_ _)); exact BK160.out⟩, ⟨by repeat (first | (with_reducible first | exact HB.out | apply p_a | apply p_n | apply p_1 | refine p_s ?_ GE157.out | refine p_s ?_ GE158.out | refine p_s ?_ GE160.out) | exact HB.out)⟩⟩
            case round =>
             clear H'
             try clear c1
             try clear c2
             try clear p2
             try clear c3
             try clear c5
             try clear c5b0
             try clear c5b1
             try clear p6
             try clear c9
             try clear c12
             try clear c12b0
             try clear c13
             try clear c14
             try clear c15
             try clear c17
             try clear c17b0
             try clear c18
             try clear c19
             try clear c21
             try clear c24
             try clear c25
             try clear c27
             try clear c27b0
             try clear c28
             try clear c29
             try clear c30
             try clear c31
             try clear c34
             try clear hcz10_0
             try clear hcz10_1
             try clear hcz10_10
             try clear hcz10_2
             try clear hcz10_3
             try clear hcz10_4
             try clear hcz10_5
             try clear hcz10_6
             try clear hcz10_7
             try clear hcz10_8
             try clear hcz10_9
             try clear hcz15_0
             try clear hcz15_1
             try clear hcz15_2
             try clear hcz15_3
             try clear hcz20_0
             try clear hcz20_1
             try clear hcz20_2
             try clear hcz20_3
             try clear hcz22_0
             try clear hcz22_1
             try clear hcz22_10
             try clear hcz22_2
             try clear hcz22_3
             try clear hcz22_4
             try clear hcz22_5
             try clear hcz22_6
             try clear hcz22_7
             try clear hcz22_8
             try clear hcz22_9
             try clear hcz26_0
             try clear hcz26_1
             try clear hcz26_2
             try clear hcz26_3
             try clear hcz32_0
             try clear hcz32_1
             try clear hcz32_10
             try clear hcz32_2
             try clear hcz32_3
             try clear hcz32_4
             try clear hcz32_5
             try clear hcz32_6
             try clear hcz32_7
             try clear hcz32_8
             try clear hcz32_9
             try clear hcz35_0
             try clear hcz35_1
             try clear hcz35_2
             try clear hcz35_3
             try clear hcz38_0
             try clear hcz38_1
             try clear hcz38_2
             try clear hcz38_3
             try clear hfz10_0
             try clear hfz10_1
             try clear hfz10_10
             try clear hfz10_2
             try clear hfz10_3
             try clear hfz10_4
             try clear hfz10_5
             try clear hfz10_6
             try clear hfz10_7
             try clear hfz10_8
             try clear hfz10_9
             try clear hfz15_0
             try clear hfz15_1
             try clear hfz15_2
             try clear hfz15_3
             try clear hfz20_0
             try clear hfz20_1
             try clear hfz20_2
             try clear hfz20_3
             try clear hfz22_0
             try clear hfz22_1
             try clear hfz22_10
             try clear hfz22_2
             try clear hfz22_3
             try clear hfz22_4
             try clear hfz22_5
             try clear hfz22_6
             try clear hfz22_7
             try clear hfz22_8
             try clear hfz22_9
             try clear hfz26_0
             try clear hfz26_1
             try clear hfz26_2
             try clear hfz26_3
             try clear hfz32_0
             try clear hfz32_1
             try clear hfz32_10
             try clear hfz32_2
             try clear hfz32_3
             try clear hfz32_4
             try clear hfz32_5
             try clear hfz32_6
             try clear hfz32_7
             try clear hfz32_8
             try clear hfz32_9
             try clear hfz35_0
             try clear hfz35_1
             try clear hfz35_2
             try clear hfz35_3
             try clear hfz38_0
             try clear hfz38_1
             try clear hfz38_2
             try clear hfz38_3
             try clear p2
             obtain ⟨x13_4, x159000_4, x159001_4, x161003_4, u161003, rfl, HA, HK4, HO_161002, HO_161003, BK157, BK158, BK160, HB⟩ := hrel
             cases gk with
             | zero => exact absurd HA.out (by simp [observed_Of.l1])
             | succ k4 =>
              have H := HA.out
              clear HA
              simp only [observed_Of.l1] at H
              by_cases c39 : x13_4 ≤ t166
              ·rw [if_pos c39] at H
               have c39b0 : decide (x13_4 ≤ t166) = true := decide_eq_true c39
               clear c39
               replace H := o_s H
               obtain ⟨⟨t171, t172⟩, A400, H⟩ := H
               replace H : (if t172 = 0 then (if x161003_4.length < 17592186044416 then (observed_Of.l1 k4 a1 a2 x10_3 t166 (wrap64 (x13_4 + 1)) a0_0 a0_1 a0_2 a0_3 a0_4 a0_5 a0_6 a0_7 a0_8 l0_9 l0_10 a0_0 a1 y168 (x161003_4 ++ [t171])) else (none)) else (some ((⟨#[]⟩ : ByteArray), 0, ([] : List Int), ([] : List Int), t172))) = some (r1, r2, r3, r4, r5) := H
               have A40 := Aside0.mk A400
               clear A400
               by_cases c41 : t172 = 0
               ·rw [if_pos c41] at H
                have c41b0 : (t172 == 0) = true := beq_iff_eq.mpr c41
                have c41b1 : (t172 != 0) = false := bne_eq_false_iff_eq.mpr c41
                clear c41
                by_cases c42 : x161003_4.length < 17592186044416
                ·rw [if_pos c42] at H
                 have LMc42 := Aside0.mk c42
                 clear c42
                 obtain ⟨y173, hy173⟩ : ∃ y_ : List Int, y_ = (x161003_4 ++ [t171]) := ⟨_, rfl⟩
                 replace H : (observed_Of.l1 k4 a1 a2 x10_3 t166 (wrap64 (x13_4 + 1)) a0_0 a0_1 a0_2 a0_3 a0_4 a0_5 a0_6 a0_7 a0_8 l0_9 l0_10 a0_0 a1 y168 y173) = some (r1, r2, r3, r4, r5) := by first | (rw [hy173]; with_reducible exact H) | (have H2_ := (Option.bind_some _ _).symm.trans H; rw [hy173]; with_reducible exact H2_) | (have H2_ := (Option.bind_some _ _).symm.trans H; with_reducible exact H2_) | with_reducible exact H | (rw [hy173]; exact H) | exact H
                 have Ny173 := Aside0.mk hy173
                 clear hy173
                 have H' := Aside0.mk H
                 clear H
                 have hnb43 := NB157_158.out
                 have hnc43 := NB158_157.out
                 have hnb44 := NB157_160.out
                 have hnc44 := NB160_157.out
                 have hcz45_0 : wr.cell? ⟨gb157, 0, none⟩ = some (.string a0_0) := (q_c BK157.out 0).trans rfl
                 have hcz45_1 : wr.cell? ⟨gb157, 1, none⟩ = some (.int .i64 a0_1) := (q_c BK157.out 1).trans rfl
                 have hcz45_2 : wr.cell? ⟨gb157, 2, none⟩ = some (.int .i64 a0_2) := (q_c BK157.out 2).trans rfl
                 have hcz45_3 : wr.cell? ⟨gb157, 3, none⟩ = some (.int .i64 a0_3) := (q_c BK157.out 3).trans rfl
                 have hcz45_4 : wr.cell? ⟨gb157, 4, none⟩ = some (.int .i64 a0_4) := (q_c BK157.out 4).trans rfl
                 have hcz45_5 : wr.cell? ⟨gb157, 5, none⟩ = some (.int .i64 a0_5) := (q_c BK157.out 5).trans rfl
                 have hcz45_6 : wr.cell? ⟨gb157, 6, none⟩ = some (.int .i64 a0_6) := (q_c BK157.out 6).trans rfl
                 have hcz45_7 : wr.cell? ⟨gb157, 7, none⟩ = some (.int .i64 a0_7) := (q_c BK157.out 7).trans rfl
                 have hcz45_8 : wr.cell? ⟨gb157, 8, none⟩ = some (.int .i64 a0_8) := (q_c BK157.out 8).trans rfl
                 have hcz45_9 : wr.cell? ⟨gb157, 9, none⟩ = some (.slice A0_9 l0_9.length c0_9) := (q_c BK157.out 9).trans rfl
                 have hcz45_10 : wr.cell? ⟨gb157, 10, none⟩ = some (.slice A0_10 l0_10.length c0_10) := (q_c BK157.out 10).trans rfl
                 have hfz45_0 := q_f BK157.out 0
                 have hfz45_1 := q_f BK157.out 1
                 have hfz45_2 := q_f BK157.out 2
                 have hfz45_3 := q_f BK157.out 3
                 have hfz45_4 := q_f BK157.out 4
                 have hfz45_5 := q_f BK157.out 5
                 have hfz45_6 := q_f BK157.out 6
                 have hfz45_7 := q_f BK157.out 7
                 have hfz45_8 := q_f BK157.out 8
                 have hfz45_9 := q_f BK157.out 9
                 have hfz45_10 := q_f BK157.out 10
                 go_wp2_with (first | ((with_reducible refine gate_callee (f := 11) rfl ?_); refine goesL_ (some 71) rfl rfl Try.func11 (by kernel_rfl) rfl #[.agg #[.string a0_0, .int .i64 a0_1, .int .i64 a0_2, .int .i64 a0_3, .int .i64 a0_4, .int .i64 a0_5, .int .i64 a0_6, .int .i64 a0_7, .int .i64 a0_8, .slice A0_9 l0_9.length c0_9, .slice A0_10 l0_10.length c0_10], .int .i64 x10_3, .int .i64 x13_4] rfl (by (try simp only [List.map_toArray, List.map_cons, List.map_nil]); first | done | rfl) ?_; (with_reducible refine (lunisolar_Begin.calls k4 a0_0 a0_1 a0_2 a0_3 a0_4 a0_5 a0_6 a0_7 a0_8 _ _ l0_9 _ _ l0_10 x10_3 x13_4 t171 t172 _ ?side1 ?side2 ?side3 ?side4 A40.out).mono ?_); (case side1 => repeat (first | exact (Kd.C_below HR0_9.out HB.out) | (with_reducible first | refine c_a ?_ _ | refine c_n ?_ _ | refine c_d ?_))); (case side2 => exact HC0_9.out); (case side3 => repeat (first | exact (Kd.C_below HR0_10.out HB.out) | (with_reducible first | refine c_a ?_ _ | refine c_n ?_ _ | refine c_d ?_))); (case side4 => exact HC0_10.out); rintro e w46 ⟨rfl, hb⟩; refine ⟨_, rfl, ?_⟩; have n0_ := rb_ HO_161002 hb; have n1_ := rb_ HO_161003 hb; have n2_ := bb_ BK157 hb; have n3_ := bb_ BK158 hb; have n4_ := bb_ BK160 hb; have n5_ := Aside0.mk (below_step (by repeat (first | (with_reducible first | exact HB.out | apply p_a | apply p_n | apply p_1 | refine p_s ?_ GE157.out | refine p_s ?_ GE158.out | refine p_s ?_ GE160.out) | exact HB.out)) hb); clear HO_161002; clear HO_161003; clear BK157; clear BK158; clear BK160; clear HB; have HO_161002 := n0_; have HO_161003 := n1_; have BK157 := n2_; have BK158 := n3_; have BK160 := n4_; have HB := n5_; clear n0_ n1_ n2_ n3_ n4_ n5_; (try clear hb); (try clear hb2); (try clear hk); (try clear hi); have hnb47 := NB160_158.out; have hnc47 := NB158_160.out; have hcz48_0 : w46.cell? ⟨gb160, 0, none⟩ = some (.string a0_0) := (q_c BK160.out 0).trans rfl; have hcz48_1 : w46.cell? ⟨gb160, 1, none⟩ = some (.int .i64 a1) := (q_c BK160.out 1).trans rfl; have hcz48_2 : w46.cell? ⟨gb160, 2, none⟩ = some (.slice Ao37 y168.length co37) := (q_c BK160.out 2).trans rfl; have hcz48_3 : w46.cell? ⟨gb160, 3, none⟩ = some (u161003) := (q_c BK160.out 3).trans rfl; have hfz48_0 := q_f BK160.out 0; have hfz48_1 := q_f BK160.out 1; have hfz48_2 := q_f BK160.out 2; have hfz48_3 := q_f BK160.out 3) | ((with_reducible refine gate_builtin (b := .append) (xs := #[.tmp 79, .tmp 81]) rfl ?_); at_builtin; refine Kd.R_append (Kd.int .i64) (w0 := w) w.heap.size rfl (.tmp 79) (.tmp 81) 24 3 (.int .i64 0) 8 rfl Try.underlying24 info3 rfl (by decide) (by omega) u161003 x161003_4 t171 [.int .i64 t171] (fun k_ => some k_ ≠ (.slice Ao37 y168.length co37 : Value).ownBlock) (fun _ => False) rfl rfl ?aP (fun _ hk => hk.elim) ?aF ?aO ?aB ?aS ?aL ?_; (case aP => exact rfl); (case aB => exact (by repeat (first | (with_reducible first | exact HB.out | apply p_a | apply p_n | apply p_1 | refine p_s ?_ GE157.out | refine p_s ?_ GE158.out | refine p_s ?_ GE160.out) | exact HB.out))); (case aF => exact (fun k_ hk => Kd.fresh' (Kd.R_lt (by (with_reducible repeat (first | apply Kd.R_alloc | apply Kd.R_drewN | apply Kd.R_drew)); exact HO_161002.out)) k_ hk)); (case aO => exact (by (with_reducible repeat (first | apply Kd.R_alloc | apply Kd.R_drewN | apply Kd.R_drew)); exact HO_161003.out)); (case aS => exact (below_size (by repeat (first | (with_reducible first | exact HB.out | apply p_a | apply p_n | apply p_1 | refine p_s ?_ GE157.out | refine p_s ?_ GE158.out | refine p_s ?_ GE160.out) | exact HB.out)))); (case aL => have := LMc42.out; omega); intro v174 w49 ho hb hg hat; rw [← Ny173.out] at ho; have n0_ := Aside0.mk (Kd.R_after (ok := (fun _ => True)) (by (with_reducible repeat (first | apply Kd.R_alloc | apply Kd.R_drewN | apply Kd.R_drew)); exact Kd.R_mono HO_161002.out (fun _ hk => ⟨trivial, hk⟩)) hg hat); have n1_ := Aside0.mk (blk_grown (g := gb157) (o := .cells #[.string a0_0, .int .i64 a0_1, .int .i64 a0_2, .int .i64 a0_3, .int .i64 a0_4, .int .i64 a0_5, .int .i64 a0_6, .int .i64 a0_7, .int .i64 a0_8, .slice A0_9 l0_9.length c0_9, .slice A0_10 l0_10.length c0_10] 26 (0, 0)) (by (with_reducible repeat (first | refine q_n ?_ _ | refine q_d ?_ | refine q_a ?_ _)); exact BK157.out) hg (Kd.R_ne HO_161003.out BK157.out (by decide))); have n2_ := Aside0.mk (blk_grown (g := gb158) (o := .cells #[.string x159000_4, .int .i64 x159001_4, .slice none 0 0, .slice none 0 0] 67 (0, 0)) (by (with_reducible repeat (first | refine q_n ?_ _ | refine q_d ?_ | refine q_a ?_ _)); exact BK158.out) hg (Kd.R_ne HO_161003.out BK158.out (by decide))); have n3_ := Aside0.mk (blk_grown (g := gb160) (o := .cells #[.string a0_0, .int .i64 a1, .slice Ao37 y168.length co37, u161003] 67 (0, 0)) (by (with_reducible repeat (first | refine q_n ?_ _ | refine q_d ?_ | refine q_a ?_ _)); exact BK160.out) hg (Kd.R_ne HO_161003.out BK160.out (by decide))); have n4_ := Aside0.mk (hb); have n5_ := Aside0.mk (ho); clear HO_161002; clear BK157; clear BK158; clear BK160; clear HB; clear HO_161003; have HO_161002 := n0_; have BK157 := n1_; have BK158 := n2_; have BK160 := n3_; have HB := n4_; have HO175 := n5_; clear n0_ n1_ n2_ n3_ n4_ n5_; clear ho hb hg hat; obtain ⟨Ao50, co50, eo50⟩ := Kd.R_slice HO175.out; subst eo50; have hcz51_0 : w49.cell? ⟨gb160, 0, none⟩ = some (.string a0_0) := (q_c BK160.out 0).trans rfl; have hcz51_1 : w49.cell? ⟨gb160, 1, none⟩ = some (.int .i64 a1) := (q_c BK160.out 1).trans rfl; have hcz51_2 : w49.cell? ⟨gb160, 2, none⟩ = some (.slice Ao37 y168.length co37) := (q_c BK160.out 2).trans rfl; have hcz51_3 : w49.cell? ⟨gb160, 3, none⟩ = some (u161003) := (q_c BK160.out 3).trans rfl; have hfz51_0 := q_f BK160.out 0; have hfz51_1 := q_f BK160.out 1; have hfz51_2 := q_f BK160.out 2; have hfz51_3 := q_f BK160.out 3))
                 go_roundg k4
                 case measure => have := HJ5.out; have := HJ15.out; have := HK3.out; have := HK4.out; omega
                 case rel => exact ⟨(wrap64 (x13_4 + 1)), (x159000_4), (x159001_4), (y173), (.slice Ao50 y173.length co50), (by first | rfl | (simp; done) | (simp [*]; done) | (simp [bne]; done) | (simp [i64_w, i32_w]; done)), H', ⟨by have := HJ5.out; have := HJ15.out; have := HK3.out; have := HK4.out; omega⟩, ⟨by (with_reducible repeat (first | apply Kd.R_alloc | apply Kd.R_drewN | apply Kd.R_drew)); exact Kd.R_mono (Kd.R_far (p := ⟨gb160, 3, none⟩) (Kd.R_types HO_161002.out BK160.out (by decide)) (fun _ hk => hk.2) (.slice Ao50 y173.length co50)) (fun _ hk => hk.1.2)⟩, ⟨by (with_reducible repeat (first | apply Kd.R_alloc | apply Kd.R_drewN | apply Kd.R_drew)); exact Kd.R_mono (Kd.R_far (p := ⟨gb160, 3, none⟩) (Kd.R_types HO175.out BK160.out (by decide)) (fun _ hk => hk.2) (.slice Ao50 y173.length co50)) (fun _ hk => hk.1)⟩, ⟨by (with_reducible repeat (first | refine q_n ?_ _ | refine q_d ?_ | refine q_a ?_ _)); refine blk_far ?_ NB157_160.out _; (with_reducible repeat (first | refine q_n ?_ _ | refine q_d ?_ | refine q_a ?_ _)); exact BK157.out⟩, ⟨by (with_reducible repeat (first | refine q_n ?_ _ | refine q_d ?_ | refine q_a ?_ _)); refine blk_far ?_ NB158_160.out _; (with_reducible repeat (first | refine q_n ?_ _ | refine q_d ?_ | refine q_a ?_ _)); exact BK158.out⟩, ⟨by (with_reducible repeat (first | refine q_n ?_ _ | refine q_d ?_ | refine q_a ?_ _)); refine blk_put (cs := #[.string a0_0, .int .i64 a1, .slice Ao37 y168.length co37, u161003]) ?_ 3 _ rfl; (with_reducible repeat (first | refine q_n ?_ _ | refine q_d ?_ | refine q_a ?_ _)); exact BK160.out⟩, ⟨by repeat (first | (with_reducible first | exact HB.out | apply p_a | apply p_n | apply p_1 | refine p_s ?_ GE157.out | refine p_s ?_ GE158.out | refine p_s ?_ GE160.out) | exact HB.out)⟩⟩
                ·rw [if_neg c42] at H
                 exact absurd H (by simp)
               ·rw [if_neg c41] at H
                have c41b0 : (t172 == 0) = false := b_f c41
                have c41b1 : (t172 != 0) = true := b_t c41
                simp only [Option.some.injEq, Prod.mk.injEq] at H
                obtain ⟨rfl, rfl, rfl, rfl, rfl⟩ := H
                have hnb52 := NB157_158.out
                have hnc52 := NB158_157.out
                have hnb53 := NB157_160.out
                have hnc53 := NB160_157.out
                have hcz54_0 : wr.cell? ⟨gb157, 0, none⟩ = some (.string a0_0) := (q_c BK157.out 0).trans rfl
                have hcz54_1 : wr.cell? ⟨gb157, 1, none⟩ = some (.int .i64 a0_1) := (q_c BK157.out 1).trans rfl
                have hcz54_2 : wr.cell? ⟨gb157, 2, none⟩ = some (.int .i64 a0_2) := (q_c BK157.out 2).trans rfl
                have hcz54_3 : wr.cell? ⟨gb157, 3, none⟩ = some (.int .i64 a0_3) := (q_c BK157.out 3).trans rfl
                have hcz54_4 : wr.cell? ⟨gb157, 4, none⟩ = some (.int .i64 a0_4) := (q_c BK157.out 4).trans rfl
                have hcz54_5 : wr.cell? ⟨gb157, 5, none⟩ = some (.int .i64 a0_5) := (q_c BK157.out 5).trans rfl
                have hcz54_6 : wr.cell? ⟨gb157, 6, none⟩ = some (.int .i64 a0_6) := (q_c BK157.out 6).trans rfl
                have hcz54_7 : wr.cell? ⟨gb157, 7, none⟩ = some (.int .i64 a0_7) := (q_c BK157.out 7).trans rfl
                have hcz54_8 : wr.cell? ⟨gb157, 8, none⟩ = some (.int .i64 a0_8) := (q_c BK157.out 8).trans rfl
                have hcz54_9 : wr.cell? ⟨gb157, 9, none⟩ = some (.slice A0_9 l0_9.length c0_9) := (q_c BK157.out 9).trans rfl
                have hcz54_10 : wr.cell? ⟨gb157, 10, none⟩ = some (.slice A0_10 l0_10.length c0_10) := (q_c BK157.out 10).trans rfl
                have hfz54_0 := q_f BK157.out 0
                have hfz54_1 := q_f BK157.out 1
                have hfz54_2 := q_f BK157.out 2
                have hfz54_3 := q_f BK157.out 3
                have hfz54_4 := q_f BK157.out 4
                have hfz54_5 := q_f BK157.out 5
                have hfz54_6 := q_f BK157.out 6
                have hfz54_7 := q_f BK157.out 7
                have hfz54_8 := q_f BK157.out 8
                have hfz54_9 := q_f BK157.out 9
                have hfz54_10 := q_f BK157.out 10
                go_wp2_with (first | ((with_reducible refine gate_callee (f := 11) rfl ?_); refine goesL_ (some 71) rfl rfl Try.func11 (by kernel_rfl) rfl #[.agg #[.string a0_0, .int .i64 a0_1, .int .i64 a0_2, .int .i64 a0_3, .int .i64 a0_4, .int .i64 a0_5, .int .i64 a0_6, .int .i64 a0_7, .int .i64 a0_8, .slice A0_9 l0_9.length c0_9, .slice A0_10 l0_10.length c0_10], .int .i64 x10_3, .int .i64 x13_4] rfl (by (try simp only [List.map_toArray, List.map_cons, List.map_nil]); first | done | rfl) ?_; (with_reducible refine (lunisolar_Begin.calls k4 a0_0 a0_1 a0_2 a0_3 a0_4 a0_5 a0_6 a0_7 a0_8 _ _ l0_9 _ _ l0_10 x10_3 x13_4 t171 t172 _ ?side1 ?side2 ?side3 ?side4 A40.out).mono ?_); (case side1 => repeat (first | exact (Kd.C_below HR0_9.out HB.out) | (with_reducible first | refine c_a ?_ _ | refine c_n ?_ _ | refine c_d ?_))); (case side2 => exact HC0_9.out); (case side3 => repeat (first | exact (Kd.C_below HR0_10.out HB.out) | (with_reducible first | refine c_a ?_ _ | refine c_n ?_ _ | refine c_d ?_))); (case side4 => exact HC0_10.out); rintro e w55 ⟨rfl, hb⟩; refine ⟨_, rfl, ?_⟩; have n0_ := rb_ HO_161002 hb; have n1_ := rb_ HO_161003 hb; have n2_ := bb_ BK157 hb; have n3_ := bb_ BK158 hb; have n4_ := bb_ BK160 hb; have n5_ := Aside0.mk (below_step (by repeat (first | (with_reducible first | exact HB.out | apply p_a | apply p_n | apply p_1 | refine p_s ?_ GE157.out | refine p_s ?_ GE158.out | refine p_s ?_ GE160.out) | exact HB.out)) hb); clear HO_161002; clear HO_161003; clear BK157; clear BK158; clear BK160; clear HB; have HO_161002 := n0_; have HO_161003 := n1_; have BK157 := n2_; have BK158 := n3_; have BK160 := n4_; have HB := n5_; clear n0_ n1_ n2_ n3_ n4_ n5_; (try clear hb); (try clear hb2); (try clear hk); (try clear hi); have hnb56 := NB158_160.out; have hnc56 := NB160_158.out; have hcz57_0 : w55.cell? ⟨gb158, 0, none⟩ = some (.string x159000_4) := (q_c BK158.out 0).trans rfl; have hcz57_1 : w55.cell? ⟨gb158, 1, none⟩ = some (.int .i64 x159001_4) := (q_c BK158.out 1).trans rfl; have hcz57_2 : w55.cell? ⟨gb158, 2, none⟩ = some (.slice none 0 0) := (q_c BK158.out 2).trans rfl; have hcz57_3 : w55.cell? ⟨gb158, 3, none⟩ = some (.slice none 0 0) := (q_c BK158.out 3).trans rfl; have hfz57_0 := q_f BK158.out 0; have hfz57_1 := q_f BK158.out 1; have hfz57_2 := q_f BK158.out 2; have hfz57_3 := q_f BK158.out 3))
                refine bodyPost_ret (results_ct rfl _ _ gb158 67 #[.string (⟨#[]⟩ : ByteArray), .int .i64 0, .slice none 0 0, .slice none 0 0] (0, 0) _ rfl (by (with_reducible repeat (first | refine q_n ?_ _ | refine q_d ?_ | refine q_a ?_ _)); refine blk_put (cs := #[.string (⟨#[]⟩ : ByteArray), .int .i64 0, .slice none 0 0, .slice none 0 0]) ?_ 3 _ rfl; (with_reducible repeat (first | refine q_n ?_ _ | refine q_d ?_ | refine q_a ?_ _)); refine blk_put (cs := #[.string (⟨#[]⟩ : ByteArray), .int .i64 0, .slice none 0 0, .slice none 0 0]) ?_ 2 _ rfl; (with_reducible repeat (first | refine q_n ?_ _ | refine q_d ?_ | refine q_a ?_ _)); refine blk_put (cs := #[.string (⟨#[]⟩ : ByteArray), .int .i64 x159001_4, .slice none 0 0, .slice none 0 0]) ?_ 1 _ rfl; (with_reducible repeat (first | refine q_n ?_ _ | refine q_d ?_ | refine q_a ?_ _)); refine blk_put (cs := #[.string x159000_4, .int .i64 x159001_4, .slice none 0 0, .slice none 0 0]) ?_ 0 _ rfl; (with_reducible repeat (first | refine q_n ?_ _ | refine q_d ?_ | refine q_a ?_ _)); exact BK158.out) Try.underlying67 rfl (by kernel_rfl)) rfl ?_
                exact ⟨_, _, by first | rfl | (simp [errW_none, errW_some] <;> rfl) | (simp [*, errW_none, errW_some] <;> rfl), by first | exact Kd.R_nil _ _ _ _ _ | exact Kd.N_nil _ _ _ _ _ | exact Kd.V_nil _ _ _ _ _ | exact Kd.Q_nil _ _ _ _ _ | exact Kd.S_nil _ _ _ _ _, by first | exact Kd.R_nil _ _ _ _ _ | exact Kd.N_nil _ _ _ _ _ | exact Kd.V_nil _ _ _ _ _ | exact Kd.Q_nil _ _ _ _ _ | exact Kd.S_nil _ _ _ _ _, by repeat (first | (with_reducible first | exact HB.out | apply p_a | apply p_n | apply p_1 | refine p_s ?_ GE157.out | refine p_s ?_ GE158.out | refine p_s ?_ GE160.out) | exact HB.out)⟩
              ·rw [if_neg c39] at H
               have c39b0 : decide (x13_4 ≤ t166) = false := decide_eq_false c39
               clear c39
               have H' := Aside0.mk H
               clear H
               go_wp2
               go_roundg k4
               case measure => have := HJ5.out; have := HJ15.out; have := HK3.out; have := HK4.out; omega
               case rel => exact ⟨(wrap64 (x10_3 + 1)), (x159000_4), (x159001_4), (y168), (x161003_4), (.slice Ao37 y168.length co37), (u161003), (by first | rfl | (simp; done) | (simp [*]; done) | (simp [bne]; done) | (simp [i64_w, i32_w]; done)), H', ⟨by have := HJ5.out; have := HJ15.out; have := HK3.out; have := HK4.out; omega⟩, ⟨by (with_reducible repeat (first | apply Kd.R_alloc | apply Kd.R_drewN | apply Kd.R_drew)); exact HO_161002.out⟩, ⟨by (with_reducible repeat (first | apply Kd.R_alloc | apply Kd.R_drewN | apply Kd.R_drew)); exact HO_161003.out⟩, ⟨by (with_reducible repeat (first | refine q_n ?_ _ | refine q_d ?_ | refine q_a ?_ _)); exact BK157.out⟩, ⟨by (with_reducible repeat (first | refine q_n ?_ _ | refine q_d ?_ | refine q_a ?_ _)); exact BK158.out⟩, ⟨by (with_reducible repeat (first | refine q_n ?_ _ | refine q_d ?_ | refine q_a ?_ _)); exact BK160.out⟩, ⟨by repeat (first | (with_reducible first | exact HB.out | apply p_a | apply p_n | apply p_1 | refine p_s ?_ GE157.out | refine p_s ?_ GE158.out | refine p_s ?_ GE160.out) | exact HB.out)⟩⟩
           ·rw [if_neg c29] at H
            exact absurd H (by simp)
          ·rw [if_neg c27] at H
           have c27b0 : decide (x10_3 < (wrap64 (a1 + a2))) = false := decide_eq_false c27
           clear c27
           replace H := o_s H
           obtain ⟨⟨t161, t162⟩, A580, H⟩ := H
           replace H : (if t162 = 0 then (if x161003_3.length < 17592186044416 then (some (a0_0, a1, x161002_3, (x161003_3 ++ [t161]), 0)) else (none)) else (some ((⟨#[]⟩ : ByteArray), 0, ([] : List Int), ([] : List Int), t162))) = some (r1, r2, r3, r4, r5) := H
           have A58 := Aside0.mk A580
           clear A580
           by_cases c59 : t162 = 0
           ·rw [if_pos c59] at H
            have c59b0 : (t162 == 0) = true := beq_iff_eq.mpr c59
            have c59b1 : (t162 != 0) = false := bne_eq_false_iff_eq.mpr c59
            clear c59
            by_cases c60 : x161003_3.length < 17592186044416
            ·rw [if_pos c60] at H
             have LMc60 := Aside0.mk c60
             clear c60
             obtain ⟨y163, hy163⟩ : ∃ y_ : List Int, y_ = (x161003_3 ++ [t161]) := ⟨_, rfl⟩
             replace H : (some (a0_0, a1, x161002_3, y163, 0)) = some (r1, r2, r3, r4, r5) := by first | (rw [hy163]; with_reducible exact H) | (have H2_ := (Option.bind_some _ _).symm.trans H; rw [hy163]; with_reducible exact H2_) | (have H2_ := (Option.bind_some _ _).symm.trans H; with_reducible exact H2_) | with_reducible exact H | (rw [hy163]; exact H) | exact H
             have Ny163 := Aside0.mk hy163
             clear hy163
             simp only [Option.some.injEq, Prod.mk.injEq] at H
             obtain ⟨rfl, rfl, rfl, rfl, rfl⟩ := H
             have hnb61 := NB157_158.out
             have hnc61 := NB158_157.out
             have hnb62 := NB157_160.out
             have hnc62 := NB160_157.out
             have hcz63_0 : wr.cell? ⟨gb157, 0, none⟩ = some (.string a0_0) := (q_c BK157.out 0).trans rfl
             have hcz63_1 : wr.cell? ⟨gb157, 1, none⟩ = some (.int .i64 a0_1) := (q_c BK157.out 1).trans rfl
             have hcz63_2 : wr.cell? ⟨gb157, 2, none⟩ = some (.int .i64 a0_2) := (q_c BK157.out 2).trans rfl
             have hcz63_3 : wr.cell? ⟨gb157, 3, none⟩ = some (.int .i64 a0_3) := (q_c BK157.out 3).trans rfl
             have hcz63_4 : wr.cell? ⟨gb157, 4, none⟩ = some (.int .i64 a0_4) := (q_c BK157.out 4).trans rfl
             have hcz63_5 : wr.cell? ⟨gb157, 5, none⟩ = some (.int .i64 a0_5) := (q_c BK157.out 5).trans rfl
             have hcz63_6 : wr.cell? ⟨gb157, 6, none⟩ = some (.int .i64 a0_6) := (q_c BK157.out 6).trans rfl
             have hcz63_7 : wr.cell? ⟨gb157, 7, none⟩ = some (.int .i64 a0_7) := (q_c BK157.out 7).trans rfl
             have hcz63_8 : wr.cell? ⟨gb157, 8, none⟩ = some (.int .i64 a0_8) := (q_c BK157.out 8).trans rfl
             have hcz63_9 : wr.cell? ⟨gb157, 9, none⟩ = some (.slice A0_9 l0_9.length c0_9) := (q_c BK157.out 9).trans rfl
             have hcz63_10 : wr.cell? ⟨gb157, 10, none⟩ = some (.slice A0_10 l0_10.length c0_10) := (q_c BK157.out 10).trans rfl
             have hfz63_0 := q_f BK157.out 0
             have hfz63_1 := q_f BK157.out 1
             have hfz63_2 := q_f BK157.out 2
             have hfz63_3 := q_f BK157.out 3
             have hfz63_4 := q_f BK157.out 4
             have hfz63_5 := q_f BK157.out 5
             have hfz63_6 := q_f BK157.out 6
             have hfz63_7 := q_f BK157.out 7
             have hfz63_8 := q_f BK157.out 8
             have hfz63_9 := q_f BK157.out 9
             have hfz63_10 := q_f BK157.out 10
             go_wp2_with (first | ((with_reducible refine gate_callee (f := 11) rfl ?_); refine goesL_ (some 89) rfl rfl Try.func11 (by kernel_rfl) rfl #[.agg #[.string a0_0, .int .i64 a0_1, .int .i64 a0_2, .int .i64 a0_3, .int .i64 a0_4, .int .i64 a0_5, .int .i64 a0_6, .int .i64 a0_7, .int .i64 a0_8, .slice A0_9 l0_9.length c0_9, .slice A0_10 l0_10.length c0_10], .int .i64 (wrap64 (a1 + a2)), .int .i64 1] rfl (by (try simp only [List.map_toArray, List.map_cons, List.map_nil]); first | done | rfl) ?_; (with_reducible refine (lunisolar_Begin.calls k3 a0_0 a0_1 a0_2 a0_3 a0_4 a0_5 a0_6 a0_7 a0_8 _ _ l0_9 _ _ l0_10 (wrap64 (a1 + a2)) 1 t161 t162 _ ?side1 ?side2 ?side3 ?side4 A58.out).mono ?_); (case side1 => repeat (first | exact (Kd.C_below HR0_9.out HB.out) | (with_reducible first | refine c_a ?_ _ | refine c_n ?_ _ | refine c_d ?_))); (case side2 => exact HC0_9.out); (case side3 => repeat (first | exact (Kd.C_below HR0_10.out HB.out) | (with_reducible first | refine c_a ?_ _ | refine c_n ?_ _ | refine c_d ?_))); (case side4 => exact HC0_10.out); rintro e w64 ⟨rfl, hb⟩; refine ⟨_, rfl, ?_⟩; have n0_ := rb_ HO_161002 hb; have n1_ := rb_ HO_161003 hb; have n2_ := bb_ BK157 hb; have n3_ := bb_ BK158 hb; have n4_ := bb_ BK160 hb; have n5_ := Aside0.mk (below_step (by repeat (first | (with_reducible first | exact HB.out | apply p_a | apply p_n | apply p_1 | refine p_s ?_ GE157.out | refine p_s ?_ GE158.out | refine p_s ?_ GE160.out) | exact HB.out)) hb); clear HO_161002; clear HO_161003; clear BK157; clear BK158; clear BK160; clear HB; have HO_161002 := n0_; have HO_161003 := n1_; have BK157 := n2_; have BK158 := n3_; have BK160 := n4_; have HB := n5_; clear n0_ n1_ n2_ n3_ n4_ n5_; (try clear hb); (try clear hb2); (try clear hk); (try clear hi); have hnb65 := NB160_158.out; have hnc65 := NB158_160.out; have hcz66_0 : w64.cell? ⟨gb160, 0, none⟩ = some (.string a0_0) := (q_c BK160.out 0).trans rfl; have hcz66_1 : w64.cell? ⟨gb160, 1, none⟩ = some (.int .i64 a1) := (q_c BK160.out 1).trans rfl; have hcz66_2 : w64.cell? ⟨gb160, 2, none⟩ = some (u161002) := (q_c BK160.out 2).trans rfl; have hcz66_3 : w64.cell? ⟨gb160, 3, none⟩ = some (u161003) := (q_c BK160.out 3).trans rfl; have hfz66_0 := q_f BK160.out 0; have hfz66_1 := q_f BK160.out 1; have hfz66_2 := q_f BK160.out 2; have hfz66_3 := q_f BK160.out 3) | ((with_reducible refine gate_builtin (b := .append) (xs := #[.tmp 97, .tmp 99]) rfl ?_); at_builtin; refine Kd.R_append (Kd.int .i64) (w0 := w) w.heap.size rfl (.tmp 97) (.tmp 99) 24 3 (.int .i64 0) 8 rfl Try.underlying24 info3 rfl (by decide) (by omega) u161003 x161003_3 t161 [.int .i64 t161] (fun k_ => some k_ ≠ (u161002 : Value).ownBlock) (fun _ => False) rfl rfl ?aP (fun _ hk => hk.elim) ?aF ?aO ?aB ?aS ?aL ?_; (case aP => exact rfl); (case aB => exact (by repeat (first | (with_reducible first | exact HB.out | apply p_a | apply p_n | apply p_1 | refine p_s ?_ GE157.out | refine p_s ?_ GE158.out | refine p_s ?_ GE160.out) | exact HB.out))); (case aF => exact (fun k_ hk => Kd.fresh' (Kd.R_lt (by (with_reducible repeat (first | apply Kd.R_alloc | apply Kd.R_drewN | apply Kd.R_drew)); exact HO_161002.out)) k_ hk)); (case aO => exact (by (with_reducible repeat (first | apply Kd.R_alloc | apply Kd.R_drewN | apply Kd.R_drew)); exact HO_161003.out)); (case aS => exact (below_size (by repeat (first | (with_reducible first | exact HB.out | apply p_a | apply p_n | apply p_1 | refine p_s ?_ GE157.out | refine p_s ?_ GE158.out | refine p_s ?_ GE160.out) | exact HB.out)))); (case aL => have := LMc60.out; omega); intro v164 w67 ho hb hg hat; rw [← Ny163.out] at ho; have n0_ := Aside0.mk (Kd.R_after (ok := (fun _ => True)) (by (with_reducible repeat (first | apply Kd.R_alloc | apply Kd.R_drewN | apply Kd.R_drew)); exact Kd.R_mono HO_161002.out (fun _ hk => ⟨trivial, hk⟩)) hg hat); have n1_ := Aside0.mk (blk_grown (g := gb157) (o := .cells #[.string a0_0, .int .i64 a0_1, .int .i64 a0_2, .int .i64 a0_3, .int .i64 a0_4, .int .i64 a0_5, .int .i64 a0_6, .int .i64 a0_7, .int .i64 a0_8, .slice A0_9 l0_9.length c0_9, .slice A0_10 l0_10.length c0_10] 26 (0, 0)) (by (with_reducible repeat (first | refine q_n ?_ _ | refine q_d ?_ | refine q_a ?_ _)); exact BK157.out) hg (Kd.R_ne HO_161003.out BK157.out (by decide))); have n2_ := Aside0.mk (blk_grown (g := gb158) (o := .cells #[.string x159000_3, .int .i64 x159001_3, .slice none 0 0, .slice none 0 0] 67 (0, 0)) (by (with_reducible repeat (first | refine q_n ?_ _ | refine q_d ?_ | refine q_a ?_ _)); exact BK158.out) hg (Kd.R_ne HO_161003.out BK158.out (by decide))); have n3_ := Aside0.mk (blk_grown (g := gb160) (o := .cells #[.string a0_0, .int .i64 a1, u161002, u161003] 67 (0, 0)) (by (with_reducible repeat (first | refine q_n ?_ _ | refine q_d ?_ | refine q_a ?_ _)); exact BK160.out) hg (Kd.R_ne HO_161003.out BK160.out (by decide))); have n4_ := Aside0.mk (hb); have n5_ := Aside0.mk (ho); clear HO_161002; clear BK157; clear BK158; clear BK160; clear HB; clear HO_161003; have HO_161002 := n0_; have BK157 := n1_; have BK158 := n2_; have BK160 := n3_; have HB := n4_; have HO165 := n5_; clear n0_ n1_ n2_ n3_ n4_ n5_; clear ho hb hg hat; obtain ⟨Ao68, co68, eo68⟩ := Kd.R_slice HO165.out; subst eo68; have hcz69_0 : w67.cell? ⟨gb160, 0, none⟩ = some (.string a0_0) := (q_c BK160.out 0).trans rfl; have hcz69_1 : w67.cell? ⟨gb160, 1, none⟩ = some (.int .i64 a1) := (q_c BK160.out 1).trans rfl; have hcz69_2 : w67.cell? ⟨gb160, 2, none⟩ = some (u161002) := (q_c BK160.out 2).trans rfl; have hcz69_3 : w67.cell? ⟨gb160, 3, none⟩ = some (u161003) := (q_c BK160.out 3).trans rfl; have hfz69_0 := q_f BK160.out 0; have hfz69_1 := q_f BK160.out 1; have hfz69_2 := q_f BK160.out 2; have hfz69_3 := q_f BK160.out 3; have hcz70_0 : w67.cell? ⟨gb158, 0, none⟩ = some (.string x159000_3) := (q_c BK158.out 0).trans rfl; have hcz70_1 : w67.cell? ⟨gb158, 1, none⟩ = some (.int .i64 x159001_3) := (q_c BK158.out 1).trans rfl; have hcz70_2 : w67.cell? ⟨gb158, 2, none⟩ = some (.slice none 0 0) := (q_c BK158.out 2).trans rfl; have hcz70_3 : w67.cell? ⟨gb158, 3, none⟩ = some (.slice none 0 0) := (q_c BK158.out 3).trans rfl; have hfz70_0 := q_f BK158.out 0; have hfz70_1 := q_f BK158.out 1; have hfz70_2 := q_f BK158.out 2; have hfz70_3 := q_f BK158.out 3; obtain ⟨Ao71, co71, eo71⟩ := Kd.R_slice HO_161002.out; subst eo71))
             refine bodyPost_ret (results_ct rfl _ _ gb158 67 #[.string a0_0, .int .i64 a1, .slice Ao71 x161002_3.length co71, .slice Ao68 y163.length co68] (0, 0) _ rfl (by (with_reducible repeat (first | refine q_n ?_ _ | refine q_d ?_ | refine q_a ?_ _)); refine blk_put (cs := #[.string a0_0, .int .i64 a1, .slice Ao71 x161002_3.length co71, .slice none 0 0]) ?_ 3 _ rfl; (with_reducible repeat (first | refine q_n ?_ _ | refine q_d ?_ | refine q_a ?_ _)); refine blk_put (cs := #[.string a0_0, .int .i64 a1, .slice none 0 0, .slice none 0 0]) ?_ 2 _ rfl; (with_reducible repeat (first | refine q_n ?_ _ | refine q_d ?_ | refine q_a ?_ _)); refine blk_put (cs := #[.string a0_0, .int .i64 x159001_3, .slice none 0 0, .slice none 0 0]) ?_ 1 _ rfl; (with_reducible repeat (first | refine q_n ?_ _ | refine q_d ?_ | refine q_a ?_ _)); refine blk_put (cs := #[.string x159000_3, .int .i64 x159001_3, .slice none 0 0, .slice none 0 0]) ?_ 0 _ rfl; (with_reducible repeat (first | refine q_n ?_ _ | refine q_d ?_ | refine q_a ?_ _)); refine blk_far ?_ NB158_160.out _; (with_reducible repeat (first | refine q_n ?_ _ | refine q_d ?_ | refine q_a ?_ _)); exact BK158.out) Try.underlying67 rfl (by kernel_rfl)) rfl ?_
             exact ⟨_, _, by first | rfl | (simp [errW_none, errW_some] <;> rfl) | (simp [*, errW_none, errW_some] <;> rfl), by (with_reducible repeat (first | apply Kd.R_alloc | apply Kd.R_drewN | apply Kd.R_drew)); exact Kd.R_mono (Kd.R_far (p := ⟨gb158, 3, none⟩) (Kd.R_far (p := ⟨gb158, 2, none⟩) (Kd.R_far (p := ⟨gb158, 1, none⟩) (Kd.R_far (p := ⟨gb158, 0, none⟩) (Kd.R_far (p := ⟨gb160, 3, none⟩) (Kd.R_types (Kd.R_types HO_161002.out BK160.out (by decide)) BK158.out (by decide)) (fun _ hk => hk.1.2) (.slice Ao68 y163.length co68)) (fun _ hk => hk.2) (.string a0_0)) (fun _ hk => hk.2) (.int .i64 a1)) (fun _ hk => hk.2) (.slice Ao71 x161002_3.length co71)) (fun _ hk => hk.2) (.slice Ao68 y163.length co68)) (fun _ hk => hk.1.1.2), by (with_reducible repeat (first | apply Kd.R_alloc | apply Kd.R_drewN | apply Kd.R_drew)); exact Kd.R_mono (Kd.R_far (p := ⟨gb158, 3, none⟩) (Kd.R_far (p := ⟨gb158, 2, none⟩) (Kd.R_far (p := ⟨gb158, 1, none⟩) (Kd.R_far (p := ⟨gb158, 0, none⟩) (Kd.R_far (p := ⟨gb160, 3, none⟩) (Kd.R_types (Kd.R_types HO165.out BK160.out (by decide)) BK158.out (by decide)) (fun _ hk => hk.1.2) (.slice Ao68 y163.length co68)) (fun _ hk => hk.2) (.string a0_0)) (fun _ hk => hk.2) (.int .i64 a1)) (fun _ hk => hk.2) (.slice Ao71 x161002_3.length co71)) (fun _ hk => hk.2) (.slice Ao68 y163.length co68)) (fun _ hk => hk.1.1), by repeat (first | (with_reducible first | exact HB.out | apply p_a | apply p_n | apply p_1 | refine p_s ?_ GE157.out | refine p_s ?_ GE158.out | refine p_s ?_ GE160.out) | exact HB.out)⟩
            ·rw [if_neg c60] at H
             exact absurd H (by simp)
           ·rw [if_neg c59] at H
            have c59b0 : (t162 == 0) = false := b_f c59
            have c59b1 : (t162 != 0) = true := b_t c59
            simp only [Option.some.injEq, Prod.mk.injEq] at H
            obtain ⟨rfl, rfl, rfl, rfl, rfl⟩ := H
            have hnb72 := NB157_158.out
            have hnc72 := NB158_157.out
            have hnb73 := NB157_160.out
            have hnc73 := NB160_157.out
            have hcz74_0 : wr.cell? ⟨gb157, 0, none⟩ = some (.string a0_0) := (q_c BK157.out 0).trans rfl
            have hcz74_1 : wr.cell? ⟨gb157, 1, none⟩ = some (.int .i64 a0_1) := (q_c BK157.out 1).trans rfl
            have hcz74_2 : wr.cell? ⟨gb157, 2, none⟩ = some (.int .i64 a0_2) := (q_c BK157.out 2).trans rfl
            have hcz74_3 : wr.cell? ⟨gb157, 3, none⟩ = some (.int .i64 a0_3) := (q_c BK157.out 3).trans rfl
            have hcz74_4 : wr.cell? ⟨gb157, 4, none⟩ = some (.int .i64 a0_4) := (q_c BK157.out 4).trans rfl
            have hcz74_5 : wr.cell? ⟨gb157, 5, none⟩ = some (.int .i64 a0_5) := (q_c BK157.out 5).trans rfl
            have hcz74_6 : wr.cell? ⟨gb157, 6, none⟩ = some (.int .i64 a0_6) := (q_c BK157.out 6).trans rfl
            have hcz74_7 : wr.cell? ⟨gb157, 7, none⟩ = some (.int .i64 a0_7) := (q_c BK157.out 7).trans rfl
            have hcz74_8 : wr.cell? ⟨gb157, 8, none⟩ = some (.int .i64 a0_8) := (q_c BK157.out 8).trans rfl
            have hcz74_9 : wr.cell? ⟨gb157, 9, none⟩ = some (.slice A0_9 l0_9.length c0_9) := (q_c BK157.out 9).trans rfl
            have hcz74_10 : wr.cell? ⟨gb157, 10, none⟩ = some (.slice A0_10 l0_10.length c0_10) := (q_c BK157.out 10).trans rfl
            have hfz74_0 := q_f BK157.out 0
            have hfz74_1 := q_f BK157.out 1
            have hfz74_2 := q_f BK157.out 2
            have hfz74_3 := q_f BK157.out 3
            have hfz74_4 := q_f BK157.out 4
            have hfz74_5 := q_f BK157.out 5
            have hfz74_6 := q_f BK157.out 6
            have hfz74_7 := q_f BK157.out 7
            have hfz74_8 := q_f BK157.out 8
            have hfz74_9 := q_f BK157.out 9
            have hfz74_10 := q_f BK157.out 10
            go_wp2_with (first | ((with_reducible refine gate_callee (f := 11) rfl ?_); refine goesL_ (some 89) rfl rfl Try.func11 (by kernel_rfl) rfl #[.agg #[.string a0_0, .int .i64 a0_1, .int .i64 a0_2, .int .i64 a0_3, .int .i64 a0_4, .int .i64 a0_5, .int .i64 a0_6, .int .i64 a0_7, .int .i64 a0_8, .slice A0_9 l0_9.length c0_9, .slice A0_10 l0_10.length c0_10], .int .i64 (wrap64 (a1 + a2)), .int .i64 1] rfl (by (try simp only [List.map_toArray, List.map_cons, List.map_nil]); first | done | rfl) ?_; (with_reducible refine (lunisolar_Begin.calls k3 a0_0 a0_1 a0_2 a0_3 a0_4 a0_5 a0_6 a0_7 a0_8 _ _ l0_9 _ _ l0_10 (wrap64 (a1 + a2)) 1 t161 t162 _ ?side1 ?side2 ?side3 ?side4 A58.out).mono ?_); (case side1 => repeat (first | exact (Kd.C_below HR0_9.out HB.out) | (with_reducible first | refine c_a ?_ _ | refine c_n ?_ _ | refine c_d ?_))); (case side2 => exact HC0_9.out); (case side3 => repeat (first | exact (Kd.C_below HR0_10.out HB.out) | (with_reducible first | refine c_a ?_ _ | refine c_n ?_ _ | refine c_d ?_))); (case side4 => exact HC0_10.out); rintro e w75 ⟨rfl, hb⟩; refine ⟨_, rfl, ?_⟩; have n0_ := rb_ HO_161002 hb; have n1_ := rb_ HO_161003 hb; have n2_ := bb_ BK157 hb; have n3_ := bb_ BK158 hb; have n4_ := bb_ BK160 hb; have n5_ := Aside0.mk (below_step (by repeat (first | (with_reducible first | exact HB.out | apply p_a | apply p_n | apply p_1 | refine p_s ?_ GE157.out | refine p_s ?_ GE158.out | refine p_s ?_ GE160.out) | exact HB.out)) hb); clear HO_161002; clear HO_161003; clear BK157; clear BK158; clear BK160; clear HB; have HO_161002 := n0_; have HO_161003 := n1_; have BK157 := n2_; have BK158 := n3_; have BK160 := n4_; have HB := n5_; clear n0_ n1_ n2_ n3_ n4_ n5_; (try clear hb); (try clear hb2); (try clear hk); (try clear hi); have hnb76 := NB158_160.out; have hnc76 := NB160_158.out; have hcz77_0 : w75.cell? ⟨gb158, 0, none⟩ = some (.string x159000_3) := (q_c BK158.out 0).trans rfl; have hcz77_1 : w75.cell? ⟨gb158, 1, none⟩ = some (.int .i64 x159001_3) := (q_c BK158.out 1).trans rfl; have hcz77_2 : w75.cell? ⟨gb158, 2, none⟩ = some (.slice none 0 0) := (q_c BK158.out 2).trans rfl; have hcz77_3 : w75.cell? ⟨gb158, 3, none⟩ = some (.slice none 0 0) := (q_c BK158.out 3).trans rfl; have hfz77_0 := q_f BK158.out 0; have hfz77_1 := q_f BK158.out 1; have hfz77_2 := q_f BK158.out 2; have hfz77_3 := q_f BK158.out 3))
            refine bodyPost_ret (results_ct rfl _ _ gb158 67 #[.string (⟨#[]⟩ : ByteArray), .int .i64 0, .slice none 0 0, .slice none 0 0] (0, 0) _ rfl (by (with_reducible repeat (first | refine q_n ?_ _ | refine q_d ?_ | refine q_a ?_ _)); refine blk_put (cs := #[.string (⟨#[]⟩ : ByteArray), .int .i64 0, .slice none 0 0, .slice none 0 0]) ?_ 3 _ rfl; (with_reducible repeat (first | refine q_n ?_ _ | refine q_d ?_ | refine q_a ?_ _)); refine blk_put (cs := #[.string (⟨#[]⟩ : ByteArray), .int .i64 0, .slice none 0 0, .slice none 0 0]) ?_ 2 _ rfl; (with_reducible repeat (first | refine q_n ?_ _ | refine q_d ?_ | refine q_a ?_ _)); refine blk_put (cs := #[.string (⟨#[]⟩ : ByteArray), .int .i64 x159001_3, .slice none 0 0, .slice none 0 0]) ?_ 1 _ rfl; (with_reducible repeat (first | refine q_n ?_ _ | refine q_d ?_ | refine q_a ?_ _)); refine blk_put (cs := #[.string x159000_3, .int .i64 x159001_3, .slice none 0 0, .slice none 0 0]) ?_ 0 _ rfl; (with_reducible repeat (first | refine q_n ?_ _ | refine q_d ?_ | refine q_a ?_ _)); exact BK158.out) Try.underlying67 rfl (by kernel_rfl)) rfl ?_
            exact ⟨_, _, by first | rfl | (simp [errW_none, errW_some] <;> rfl) | (simp [*, errW_none, errW_some] <;> rfl), by first | exact Kd.R_nil _ _ _ _ _ | exact Kd.N_nil _ _ _ _ _ | exact Kd.V_nil _ _ _ _ _ | exact Kd.Q_nil _ _ _ _ _ | exact Kd.S_nil _ _ _ _ _, by first | exact Kd.R_nil _ _ _ _ _ | exact Kd.N_nil _ _ _ _ _ | exact Kd.V_nil _ _ _ _ _ | exact Kd.Q_nil _ _ _ _ _ | exact Kd.S_nil _ _ _ _ _, by repeat (first | (with_reducible first | exact HB.out | apply p_a | apply p_n | apply p_1 | refine p_s ?_ GE157.out | refine p_s ?_ GE158.out | refine p_s ?_ GE160.out) | exact HB.out)⟩
 ·rw [if_neg c5] at H
  have c5b0 : (t159 == 0) = false := b_f c5
  have c5b1 : (t159 != 0) = true := b_t c5
  simp only [Option.some.injEq, Prod.mk.injEq] at H
  obtain ⟨rfl, rfl, rfl, rfl, rfl⟩ := H
  go_enter Try.func28, Try.ntmps28
  go_wp2_with (first | ((with_reducible refine gate_dst (N := 3) rfl ?_); refine box_event ?hg (N := 3) ?hd (cs := #[.string a0_0, .int .i64 a0_1, .int .i64 a0_2, .int .i64 a0_3, .int .i64 a0_4, .int .i64 a0_5, .int .i64 a0_6, .int .i64 a0_7, .int .i64 a0_8, .slice A0_9 l0_9.length c0_9, .slice A0_10 l0_10.length c0_10]) (t := 26) ?hr ?_; (case hd => rfl); (case hg => rfl); (case hr => first | (go_simp; done) | (go_simp; rfl)); intro gb157 hg w78 hbox hb; have n0_ := Aside0.mk (below_step (by repeat (first | (with_reducible first | exact HB.out | apply p_a | apply p_n | apply p_1) | exact HB.out)) hb); have n1_ := Aside0.mk (hbox); have n2_ := Aside0.mk ((by rw [hg]; exact (below_size (by repeat (first | (with_reducible first | exact HB.out | apply p_a | apply p_n | apply p_1) | exact HB.out))) : w.heap.size ≤ gb157)); have n3_ := n2_; clear HB; have HB := n0_; have BK157 := n1_; have GW157 := n2_; have GE157 := n3_; clear n0_ n1_ n2_ n3_; clear hb hbox hg) | ((with_reducible refine gate_dst (N := 6) rfl ?_); refine box_event ?hg (N := 6) ?hd (cs := #[.string (⟨#[]⟩ : ByteArray), .int .i64 0, .slice none 0 0, .slice none 0 0]) (t := 67) ?hr ?_; (case hd => rfl); (case hg => rfl); (case hr => first | (go_simp; done) | (go_simp; rfl)); intro gb158 hg w79 hbox hb; have n0_ := bb_ BK157 hb; have n1_ := Aside0.mk (below_step (by repeat (first | (with_reducible first | exact HB.out | apply p_a | apply p_n | apply p_1 | refine p_s ?_ GE157.out) | exact HB.out)) hb); have n2_ := Aside0.mk (hbox); have n3_ := Aside0.mk ((by rw [hg]; exact (below_size (by repeat (first | (with_reducible first | exact HB.out | apply p_a | apply p_n | apply p_1 | refine p_s ?_ GE157.out) | exact HB.out))) : w.heap.size ≤ gb158)); have n4_ := n3_; have n5_ := bl_ BK157 hg; have n6_ := bg_ BK157 hg; clear BK157; clear HB; have BK157 := n0_; have HB := n1_; have BK158 := n2_; have GW158 := n3_; have GE158 := n4_; have NB157_158 := n5_; have NB158_157 := n6_; clear n0_ n1_ n2_ n3_ n4_ n5_ n6_; clear hb hbox hg; have hnb80 := NB157_158.out; have hnc80 := NB158_157.out; have hcz81_0 : w79.cell? ⟨gb157, 0, none⟩ = some (.string a0_0) := (q_c BK157.out 0).trans rfl; have hcz81_1 : w79.cell? ⟨gb157, 1, none⟩ = some (.int .i64 a0_1) := (q_c BK157.out 1).trans rfl; have hcz81_2 : w79.cell? ⟨gb157, 2, none⟩ = some (.int .i64 a0_2) := (q_c BK157.out 2).trans rfl; have hcz81_3 : w79.cell? ⟨gb157, 3, none⟩ = some (.int .i64 a0_3) := (q_c BK157.out 3).trans rfl; have hcz81_4 : w79.cell? ⟨gb157, 4, none⟩ = some (.int .i64 a0_4) := (q_c BK157.out 4).trans rfl; have hcz81_5 : w79.cell? ⟨gb157, 5, none⟩ = some (.int .i64 a0_5) := (q_c BK157.out 5).trans rfl; have hcz81_6 : w79.cell? ⟨gb157, 6, none⟩ = some (.int .i64 a0_6) := (q_c BK157.out 6).trans rfl; have hcz81_7 : w79.cell? ⟨gb157, 7, none⟩ = some (.int .i64 a0_7) := (q_c BK157.out 7).trans rfl; have hcz81_8 : w79.cell? ⟨gb157, 8, none⟩ = some (.int .i64 a0_8) := (q_c BK157.out 8).trans rfl; have hcz81_9 : w79.cell? ⟨gb157, 9, none⟩ = some (.slice A0_9 l0_9.length c0_9) := (q_c BK157.out 9).trans rfl; have hcz81_10 : w79.cell? ⟨gb157, 10, none⟩ = some (.slice A0_10 l0_10.length c0_10) := (q_c BK157.out 10).trans rfl; have hfz81_0 := q_f BK157.out 0; have hfz81_1 := q_f BK157.out 1; have hfz81_2 := q_f BK157.out 2; have hfz81_3 := q_f BK157.out 3; have hfz81_4 := q_f BK157.out 4; have hfz81_5 := q_f BK157.out 5; have hfz81_6 := q_f BK157.out 6; have hfz81_7 := q_f BK157.out 7; have hfz81_8 := q_f BK157.out 8; have hfz81_9 := q_f BK157.out 9; have hfz81_10 := q_f BK157.out 10) | ((with_reducible refine gate_callee (f := 12) rfl ?_); refine goesL_ (some 19) rfl rfl Try.func12 (by kernel_rfl) rfl #[.agg #[.string a0_0, .int .i64 a0_1, .int .i64 a0_2, .int .i64 a0_3, .int .i64 a0_4, .int .i64 a0_5, .int .i64 a0_6, .int .i64 a0_7, .int .i64 a0_8, .slice A0_9 l0_9.length c0_9, .slice A0_10 l0_10.length c0_10]] rfl (by (try simp only [List.map_toArray, List.map_cons, List.map_nil]); first | done | rfl) ?_; (with_reducible refine (lunisolar_Check.calls k a0_0 a0_1 a0_2 a0_3 a0_4 a0_5 a0_6 a0_7 a0_8 _ _ l0_9 _ _ l0_10 t159 _ ?side1 ?side2 ?side3 ?side4 A4.out).mono ?_); (case side1 => repeat (first | exact (Kd.C_below HR0_9.out HB.out) | (with_reducible first | refine c_a ?_ _ | refine c_n ?_ _ | refine c_d ?_))); (case side2 => exact HC0_9.out); (case side3 => repeat (first | exact (Kd.C_below HR0_10.out HB.out) | (with_reducible first | refine c_a ?_ _ | refine c_n ?_ _ | refine c_d ?_))); (case side4 => exact HC0_10.out); rintro e w82 ⟨rfl, hb⟩; refine ⟨_, rfl, ?_⟩; have n0_ := bb_ BK157 hb; have n1_ := bb_ BK158 hb; have n2_ := Aside0.mk (below_step (by repeat (first | (with_reducible first | exact HB.out | apply p_a | apply p_n | apply p_1 | refine p_s ?_ GE157.out | refine p_s ?_ GE158.out) | exact HB.out)) hb); clear BK157; clear BK158; clear HB; have BK157 := n0_; have BK158 := n1_; have HB := n2_; clear n0_ n1_ n2_; (try clear hb); (try clear hb2); (try clear hk); (try clear hi); have hcz83_0 : w82.cell? ⟨gb158, 0, none⟩ = some (.string (⟨#[]⟩ : ByteArray)) := (q_c BK158.out 0).trans rfl; have hcz83_1 : w82.cell? ⟨gb158, 1, none⟩ = some (.int .i64 0) := (q_c BK158.out 1).trans rfl; have hcz83_2 : w82.cell? ⟨gb158, 2, none⟩ = some (.slice none 0 0) := (q_c BK158.out 2).trans rfl; have hcz83_3 : w82.cell? ⟨gb158, 3, none⟩ = some (.slice none 0 0) := (q_c BK158.out 3).trans rfl; have hfz83_0 := q_f BK158.out 0; have hfz83_1 := q_f BK158.out 1; have hfz83_2 := q_f BK158.out 2; have hfz83_3 := q_f BK158.out 3))
  refine bodyPost_ret (results_ct rfl _ _ gb158 67 #[.string (⟨#[]⟩ : ByteArray), .int .i64 0, .slice none 0 0, .slice none 0 0] (0, 0) _ rfl (by (with_reducible repeat (first | refine q_n ?_ _ | refine q_d ?_ | refine q_a ?_ _)); refine blk_put (cs := #[.string (⟨#[]⟩ : ByteArray), .int .i64 0, .slice none 0 0, .slice none 0 0]) ?_ 3 _ rfl; (with_reducible repeat (first | refine q_n ?_ _ | refine q_d ?_ | refine q_a ?_ _)); refine blk_put (cs := #[.string (⟨#[]⟩ : ByteArray), .int .i64 0, .slice none 0 0, .slice none 0 0]) ?_ 2 _ rfl; (with_reducible repeat (first | refine q_n ?_ _ | refine q_d ?_ | refine q_a ?_ _)); refine blk_put (cs := #[.string (⟨#[]⟩ : ByteArray), .int .i64 0, .slice none 0 0, .slice none 0 0]) ?_ 1 _ rfl; (with_reducible repeat (first | refine q_n ?_ _ | refine q_d ?_ | refine q_a ?_ _)); refine blk_put (cs := #[.string (⟨#[]⟩ : ByteArray), .int .i64 0, .slice none 0 0, .slice none 0 0]) ?_ 0 _ rfl; (with_reducible repeat (first | refine q_n ?_ _ | refine q_d ?_ | refine q_a ?_ _)); exact BK158.out) Try.underlying67 rfl (by kernel_rfl)) rfl ?_
  exact ⟨_, _, by first | rfl | (simp [errW_none, errW_some] <;> rfl) | (simp [*, errW_none, errW_some] <;> rfl), by first | exact Kd.R_nil _ _ _ _ _ | exact Kd.N_nil _ _ _ _ _ | exact Kd.V_nil _ _ _ _ _ | exact Kd.Q_nil _ _ _ _ _ | exact Kd.S_nil _ _ _ _ _, by first | exact Kd.R_nil _ _ _ _ _ | exact Kd.N_nil _ _ _ _ _ | exact Kd.V_nil _ _ _ _ _ | exact Kd.Q_nil _ _ _ _ _ | exact Kd.S_nil _ _ _ _ _, by repeat (first | (with_reducible first | exact HB.out | apply p_a | apply p_n | apply p_1 | refine p_s ?_ GE157.out | refine p_s ?_ GE158.out) | exact HB.out)⟩

end Go.Proofs.Ytidjaahpabppaaa.QObservedSame
