-- Written by a program of ours over the translation of this seat. Not trusted: Lean checks it.
import Derived.Test.YtidjaahpabppaaaDoorFar
import Derived.Test.YtidjaahpabppaaaDoorRule
import Derived.Test.YtidjaahpabppaaaDoorQCompileLeastSamex0
namespace Go.Proofs.YtidjaahpabppaaaDoor.QCompileLeastSame
open Go.Proofs.YtidjaahpabppaaaDoor Go.RowKit Go.Proofs.YtidjaahpabppaaaDoorW.PrintWords Go.Proofs.YtidjaahpabppaaaDoorW.PrintLast Go.Proofs.YtidjaahpabppaaaDoorW.PrintMore Go.Proofs.YtidjaahpabppaaaDoorFar
attribute [local go_sem] max2_int min2_int max_two min_two max_three min_three max_four min_four   -- for this text's walks alone
set_option linter.unusedVariables false
set_option linter.unusedSimpArgs false

/-! ### compile_Compile: function 14 -/
def compile_Compile.l0 : Nat → Int → ByteArray → Int → Int → Int → Int → List (S41) → List (S46) → ByteArray → Int → Int → List (S46) → List Int → Option (ByteArray × Int × Int × (List (S46)) × List Int × Int)
 | 0, _, _, _, _, _, _, _, _, _, _, _, _, _ => none
 | k + 1, x6, x134000, x134001, x134002, x134003, x134004, x134005, x134006, x140000, x140001, x140002, x140003, x140004 => if x6 ≤ x134002 then ((rule_Eval.f k x134003 x134004 x134005 x6).bind fun bt140 => (if bt140.2 = 0 then (if bt140.1 = 0 then (compile_Compile.l0 k (wrap64 (x6 + 1)) x134000 x134001 x134002 x134003 x134004 x134005 x134006 x140000 x140001 x140002 x140003 x140004) else (if x140004.length < 17592186044416 then (compile_Compile.l0 k (wrap64 (x6 + 1)) x134000 x134001 x134002 x134003 x134004 x134005 x134006 x140000 x140001 x140002 x140003 (x140004 ++ [x6])) else (none))) else (some ((⟨#[]⟩ : ByteArray), 0, 0, ([] : List (S46)), ([] : List Int), bt140.2)))) else (some (x140000, x140001, x140002, x140003, x140004, 0))
def compile_Compile.f (k : Nat) (a0_0 : ByteArray) (a0_1 : Int) (a0_2 : Int) (a0_3 : Int) (a0_4 : Int) (l0_5 : List (S41)) (l0_6 : List (S46)) : Option (ByteArray × Int × Int × (List (S46)) × List Int × Int) := (rule_Check.f k a0_0 a0_1 a0_2 a0_3 a0_4 l0_5 l0_6).bind fun t135 => (if t135 = 0 then ((slices_Clone__M.f l0_6).bind fun t136 => (compile_Compile.l0 k 1 a0_0 a0_1 a0_2 a0_3 a0_4 l0_5 l0_6 a0_0 a0_1 a0_2 t136 ([] : List Int))) else (some ((⟨#[]⟩ : ByteArray), 0, 0, ([] : List (S46)), ([] : List Int), t135)))
theorem compile_Compile.mono_l : ∀ k, (∀ y0 y1 y2 y3 y4 y5 y6 y7 y8 y9 y10 y11 y12, LeO (compile_Compile.l0 k y0 y1 y2 y3 y4 y5 y6 y7 y8 y9 y10 y11 y12) (compile_Compile.l0 (k + 1) y0 y1 y2 y3 y4 y5 y6 y7 y8 y9 y10 y11 y12))
 | 0 => fun _ _ _ _ _ _ _ _ _ _ _ _ _ r h => by simp [compile_Compile.l0] at h
 | k + 1 => by
  have ih0 := compile_Compile.mono_l k
  ·intro y0 y1 y2 y3 y4 y5 y6 y7 y8 y9 y10 y11 y12
   unfold compile_Compile.l0
   repeat' first
   | (with_reducible exact ih0 _ _ _ _ _ _ _ _ _ _ _ _ _)
   | (with_reducible exact rule_Check.mono _ _ _ _ _ _ _ _)
   | (with_reducible exact rule_Eval.mono _ _ _ _ _)
   | (with_reducible exact LeO.refl _)
   | (with_reducible exact LeO.none _)
   | (with_reducible refine LeO.ite ?_ ?_)
   | (with_reducible refine LeO.bind ?_ (fun _ => ?_))
   | exact ih0 _ _ _ _ _ _ _ _ _ _ _ _ _
   | exact rule_Check.mono _ _ _ _ _ _ _ _
   | exact rule_Eval.mono _ _ _ _ _
   | exact LeO.none _
   | refine LeO.ite ?_ ?_
   | refine LeO.bind ?_ (fun _ => ?_)
theorem compile_Compile.mono : ∀ a0 a1 a2 a3 a4 a5 a6 k, LeO (compile_Compile.f k a0 a1 a2 a3 a4 a5 a6) (compile_Compile.f (k + 1) a0 a1 a2 a3 a4 a5 a6) := by
 intro a0 a1 a2 a3 a4 a5 a6 k
 have ih0 := compile_Compile.mono_l k
 unfold compile_Compile.f
 repeat' first
   | (with_reducible exact ih0 _ _ _ _ _ _ _ _ _ _ _ _ _)
   | (with_reducible exact rule_Check.mono _ _ _ _ _ _ _ _)
   | (with_reducible exact rule_Eval.mono _ _ _ _ _)
   | (with_reducible exact LeO.refl _)
   | (with_reducible exact LeO.none _)
   | (with_reducible refine LeO.ite ?_ ?_)
   | (with_reducible refine LeO.bind ?_ (fun _ => ?_))
   | exact ih0 _ _ _ _ _ _ _ _ _ _ _ _ _
   | exact rule_Check.mono _ _ _ _ _ _ _ _
   | exact rule_Eval.mono _ _ _ _ _
   | exact LeO.none _
   | refine LeO.ite ?_ ?_
   | refine LeO.bind ?_ (fun _ => ?_)
def compile_Compile.T4 : Bool × List (List Nat × List Nat) := (true, [([], []), ([0], [0]), ([], []), ([2], [2]), ([], []), ([4], [4]), ([], []), ([6], [6]), ([7], [7]), ([1, 3, 5, 8], [1, 3, 5, 8]), ([], []), ([10, 9, 8, 0, 1, 2, 3, 4, 5, 6, 7, 8, 9, 10], [9, 10])])
def compile_Compile.B4 : List Nat := [0, 1, 0, 4, 0, 16, 0, 64, 192, 511, 0, 2047]
theorem compile_Compile.tab4 : rtab .any (opsOf Tryd.f14 4) = compile_Compile.T4 := by kernel_rfl
theorem compile_Compile.bits4 : waitsOk compile_Compile.T4.2 compile_Compile.B4 = true := by kernel_rfl
set_option maxHeartbeats 8000000 in
set_option maxRecDepth 100000 in
theorem compile_Compile.calls (k : Nat) (a0_0 : ByteArray) (a0_1 : Int) (a0_2 : Int) (a0_3 : Int) (a0_4 : Int) (A0_5 : Option Addr) (c0_5 : Nat) (l0_5 : List (S41)) (A0_6 : Option Addr) (c0_6 : Nat) (l0_6 : List (S46)) (r1 : ByteArray) (r2 : Int) (r3 : Int) (r4 : List (S46)) (r5 : List Int) (r6 : Int) (w : World) {hG : Glob w} (hr0_5 : Kd.C k41 w A0_5 l0_5.length l0_5) (hc0_5 : l0_5.length ≤ c0_5) (hr0_6 : Kd.C k46 w A0_6 l0_6.length l0_6) (hc0_6 : l0_6.length ≤ c0_6) (h : compile_Compile.f k a0_0 a0_1 a0_2 a0_3 a0_4 l0_5 l0_6 = some (r1, r2, r3, r4, r5, r6)) :
  Calls Tryd.prog 14 #[.agg #[.string a0_0, .int .i64 a0_1, .int .i64 a0_2, .int .i64 a0_3, .int .i64 a0_4, .slice A0_5 l0_5.length c0_5, .slice A0_6 l0_6.length c0_6]] w fun e w' => ∃ v3_ v4_ : Value, e = .returned (.tuple #[.agg #[.string r1, .int .i64 r2, .int .i64 r3, v3_, v4_], .int .i64 r6]) ∧ Kd.R k46 46 w' w.heap.size (fun _ => True) v3_ r4 ∧ Kd.R (Kd.int .i64) 3 w' w.heap.size (fun _ => True) v4_ r5 ∧ Below w.heap.size w w' := by
 have HGL := Aside0.mk hG
 clear hG
 have hu44 := Tryd.underlying44
 have hu48 := Tryd.underlying48
 have hu41 := Tryd.underlying41
 have HR0_5 := Aside0.mk hr0_5
 have HC0_5 := Aside0.mk hc0_5
 clear hr0_5 hc0_5
 have HR0_6 := Aside0.mk hr0_6
 have HC0_6 := Aside0.mk hc0_6
 clear hr0_6 hc0_6
 have HB := Aside0.mk (Below.refl w.heap.size w)
 have H : ((rule_Check.f k a0_0 a0_1 a0_2 a0_3 a0_4 l0_5 l0_6).bind fun t135 => (if t135 = 0 then ((slices_Clone__M.f l0_6).bind fun t136 => (compile_Compile.l0 k 1 a0_0 a0_1 a0_2 a0_3 a0_4 l0_5 l0_6 a0_0 a0_1 a0_2 t136 ([] : List Int))) else (some ((⟨#[]⟩ : ByteArray), 0, 0, ([] : List (S46)), ([] : List Int), t135)))) = some (r1, r2, r3, r4, r5, r6) := h
 clear h
 replace H := o_s H
 obtain ⟨t135, A20, H⟩ := H
 replace H : (if t135 = 0 then ((slices_Clone__M.f l0_6).bind fun t136 => (compile_Compile.l0 k 1 a0_0 a0_1 a0_2 a0_3 a0_4 l0_5 l0_6 a0_0 a0_1 a0_2 t136 ([] : List Int))) else (some ((⟨#[]⟩ : ByteArray), 0, 0, ([] : List (S46)), ([] : List Int), t135))) = some (r1, r2, r3, r4, r5, r6) := H
 have A2 := Aside0.mk A20
 clear A20
 by_cases c3 : t135 = 0
 ·rw [if_pos c3] at H
  have c3b0 : (t135 == 0) = true := beq_iff_eq.mpr c3
  have c3b1 : (t135 != 0) = false := bne_eq_false_iff_eq.mpr c3
  clear c3
  replace H := o_s H
  obtain ⟨t136, A40, H⟩ := H
  replace H : (compile_Compile.l0 k 1 a0_0 a0_1 a0_2 a0_3 a0_4 l0_5 l0_6 a0_0 a0_1 a0_2 t136 ([] : List Int)) = some (r1, r2, r3, r4, r5, r6) := H
  have A4 := Aside0.mk A40
  clear A40
  have H' := Aside0.mk H
  clear H
  go_enter Tryd.func14, Tryd.ntmps14
  try go_wp2_with (first | ((with_reducible refine gate_dst (N := 1) rfl ?_); refine box_event ?hg (N := 1) ?hd (cs := #[.string a0_0, .int .i64 a0_1, .int .i64 a0_2, .int .i64 a0_3, .int .i64 a0_4, .slice A0_5 l0_5.length c0_5, .slice A0_6 l0_6.length c0_6]) (t := 44) ?hr ?_; (case hd => rfl); (case hg => rfl); (case hr => first | (go_simp; done) | (go_simp; rfl)); intro gb133 hg w5 hbox hb; have n0_ := Aside0.mk (below_step (by repeat (first | (with_reducible first | exact HB.out | apply p_a | apply p_n | apply p_1) | exact HB.out)) hb); have n1_ := Aside0.mk (hbox); have n2_ := Aside0.mk ((by rw [hg]; exact (below_size (by repeat (first | (with_reducible first | exact HB.out | apply p_a | apply p_n | apply p_1) | exact HB.out))) : w.heap.size ≤ gb133)); have n3_ := n2_; clear HB; have HB := n0_; have BK133 := n1_; have GW133 := n2_; have GE133 := n3_; clear n0_ n1_ n2_ n3_; clear hb hbox hg) | ((with_reducible refine gate_dst (N := 2) rfl ?_); refine box_event ?hg (N := 2) ?hd (cs := #[.string (⟨#[]⟩ : ByteArray), .int .i64 0, .int .i64 0, .slice none 0 0, .slice none 0 0]) (t := 48) ?hr ?_; (case hd => rfl); (case hg => rfl); (case hr => first | (go_simp; done) | (go_simp; rfl)); intro gb134 hg w6 hbox hb; have n0_ := bb_ BK133 hb; have n1_ := Aside0.mk (below_step (by repeat (first | (with_reducible first | exact HB.out | apply p_a | apply p_n | apply p_1 | refine p_s ?_ GE133.out) | exact HB.out)) hb); have n2_ := Aside0.mk (hbox); have n3_ := Aside0.mk ((by rw [hg]; exact (below_size (by repeat (first | (with_reducible first | exact HB.out | apply p_a | apply p_n | apply p_1 | refine p_s ?_ GE133.out) | exact HB.out))) : w.heap.size ≤ gb134)); have n4_ := n3_; have n5_ := bl_ BK133 hg; have n6_ := bg_ BK133 hg; clear BK133; clear HB; have BK133 := n0_; have HB := n1_; have BK134 := n2_; have GW134 := n3_; have GE134 := n4_; have NB133_134 := n5_; have NB134_133 := n6_; clear n0_ n1_ n2_ n3_ n4_ n5_ n6_; clear hb hbox hg; have hnb7 := NB133_134.out; have hnc7 := NB134_133.out; have hcz8_0 : w6.cell? ⟨gb133, 0, none⟩ = some (.string a0_0) := (q_c BK133.out 0).trans rfl; have hcz8_1 : w6.cell? ⟨gb133, 1, none⟩ = some (.int .i64 a0_1) := (q_c BK133.out 1).trans rfl; have hcz8_2 : w6.cell? ⟨gb133, 2, none⟩ = some (.int .i64 a0_2) := (q_c BK133.out 2).trans rfl; have hcz8_3 : w6.cell? ⟨gb133, 3, none⟩ = some (.int .i64 a0_3) := (q_c BK133.out 3).trans rfl; have hcz8_4 : w6.cell? ⟨gb133, 4, none⟩ = some (.int .i64 a0_4) := (q_c BK133.out 4).trans rfl; have hcz8_5 : w6.cell? ⟨gb133, 5, none⟩ = some (.slice A0_5 l0_5.length c0_5) := (q_c BK133.out 5).trans rfl; have hcz8_6 : w6.cell? ⟨gb133, 6, none⟩ = some (.slice A0_6 l0_6.length c0_6) := (q_c BK133.out 6).trans rfl; have hfz8_0 := q_f BK133.out 0; have hfz8_1 := q_f BK133.out 1; have hfz8_2 := q_f BK133.out 2; have hfz8_3 := q_f BK133.out 3; have hfz8_4 := q_f BK133.out 4; have hfz8_5 := q_f BK133.out 5; have hfz8_6 := q_f BK133.out 6) | ((with_reducible refine gate_callee (f := 38) rfl ?_); refine goesL_ (some 10) rfl rfl Tryd.func38 (by kernel_rfl) rfl #[.agg #[.string a0_0, .int .i64 a0_1, .int .i64 a0_2, .int .i64 a0_3, .int .i64 a0_4, .slice A0_5 l0_5.length c0_5, .slice A0_6 l0_6.length c0_6]] rfl (by (try simp only [List.map_toArray, List.map_cons, List.map_nil]); first | done | rfl | (simp only [List.length_drop, List.length_take]; rfl)) ?_; (with_reducible refine (rule_Check.calls (hG := ?sideG) k a0_0 a0_1 a0_2 a0_3 a0_4 _ _ l0_5 _ _ l0_6 t135 _ ?side1 ?side2 ?side3 ?side4 A2.out).mono ?_); (case sideG => repeat (first | exact (Glob.below HGL.out HB.out) | exact HGL.out | (with_reducible refine Glob.alloc ?_ _) | (with_reducible refine Glob.drewN ?_ _) | (with_reducible refine Glob.drew ?_))); (case side1 => repeat (first | exact (Kd.C_below HR0_5.out HB.out) | (with_reducible refine Kd.C_alloc ?_ _) | (with_reducible refine Kd.C_drewN ?_ _) | (with_reducible refine Kd.C_drew ?_))); (case side2 => exact HC0_5.out); (case side3 => repeat (first | exact (Kd.C_below HR0_6.out HB.out) | (with_reducible refine Kd.C_alloc ?_ _) | (with_reducible refine Kd.C_drewN ?_ _) | (with_reducible refine Kd.C_drew ?_))); (case side4 => exact HC0_6.out); rintro e w9 ⟨rfl, hb⟩; refine ⟨_, rfl, ?_⟩; have n0_ := bb_ BK133 hb; have n1_ := bb_ BK134 hb; have n2_ := Aside0.mk (below_step (by repeat (first | (with_reducible first | exact HB.out | apply p_a | apply p_n | apply p_1 | refine p_s ?_ GE133.out | refine p_s ?_ GE134.out) | exact HB.out)) hb); clear BK133; clear BK134; clear HB; have BK133 := n0_; have BK134 := n1_; have HB := n2_; clear n0_ n1_ n2_; (try clear hb); (try clear hb2); (try clear hk); (try clear hi)))
  have n0_ := Aside0.mk (q_d BK133.out)
  have n1_ := Aside0.mk (q_d BK134.out)
  have n2_ := Aside0.mk (p_1 HB.out)
  clear BK133
  clear BK134
  clear HB
  have BK133 := n0_
  have BK134 := n1_
  have HB := n2_
  clear n0_ n1_ n2_
  refine start_ (n := 12) (S := fun w' => w'.cell? ⟨gb133, 0, none⟩ = some (.string a0_0) ∧ w'.cell? ⟨gb133, 1, none⟩ = some (.int .i64 a0_1) ∧ w'.cell? ⟨gb133, 2, none⟩ = some (.int .i64 a0_2) ∧ w'.cell? ⟨gb133, 3, none⟩ = some (.int .i64 a0_3) ∧ w'.cell? ⟨gb133, 4, none⟩ = some (.int .i64 a0_4) ∧ w'.cell? ⟨gb133, 5, none⟩ = some (.slice A0_5 l0_5.length c0_5) ∧ w'.cell? ⟨gb133, 6, none⟩ = some (.slice A0_6 l0_6.length c0_6)) (ds := []) #[false, false, false, false, false, false, false, false, false, false, false, false] (by kernel_rfl) rfl rfl ⟨(q_c BK133.out 0).trans rfl, (q_c BK133.out 1).trans rfl, (q_c BK133.out 2).trans rfl, (q_c BK133.out 3).trans rfl, (q_c BK133.out 4).trans rfl, (q_c BK133.out 5).trans rfl, (q_c BK133.out 6).trans rfl⟩ (fun hHeld => ?_); refine with_tabW compile_Compile.tab4 compile_Compile.bits4 (fun HT_ HW_ => ?_)
  generalize w9.drew = w10 at BK133 BK134 HB hHeld ⊢
  refine pure_ (i := 0) (N := some 15) (v := ?_) (a' := ?_) #[true, false, false, false, false, false, false, false, false, false, false, false] rfl rfl (any_of HT_.out (by kernel_rfl)) (fun _ _ _ h => h) (Or.inl ⟨by rfl, ?_⟩) ?_ ?_
  rotate_left
  ·intro w'
   go_simp
   with_reducible rfl
  rotate_left
  ·simp only [Act.put, List.setIfInBounds_toArray, List.set_cons_zero, List.set_cons_succ, i64_w, i32_w]
   rfl
  refine pure_ (i := 2) (N := some 17) (v := ?_) (a' := ?_) #[true, false, true, false, false, false, false, false, false, false, false, false] rfl rfl (any_of HT_.out (by kernel_rfl)) (fun _ _ _ h => h) (Or.inl ⟨by rfl, ?_⟩) ?_ ?_
  rotate_left
  ·intro w'
   go_simp
   with_reducible rfl
  rotate_left
  ·simp only [Act.put, List.setIfInBounds_toArray, List.set_cons_zero, List.set_cons_succ, i64_w, i32_w]
   rfl
  refine pure_ (i := 4) (N := some 19) (v := ?_) (a' := ?_) #[true, false, true, false, true, false, false, false, false, false, false, false] rfl rfl (any_of HT_.out (by kernel_rfl)) (fun _ _ _ h => h) (Or.inl ⟨by rfl, ?_⟩) ?_ ?_
  rotate_left
  ·intro w'
   go_simp
   with_reducible rfl
  rotate_left
  ·simp only [Act.put, List.setIfInBounds_toArray, List.set_cons_zero, List.set_cons_succ, i64_w, i32_w]
   rfl
  refine pure_ (i := 6) (N := some 21) (v := ?_) (a' := ?_) #[true, false, true, false, true, false, true, false, false, false, false, false] rfl rfl (any_of HT_.out (by kernel_rfl)) (fun _ _ _ h => h) (Or.inl ⟨by rfl, ?_⟩) ?_ ?_
  rotate_left
  ·intro w'
   go_simp
   with_reducible rfl
  rotate_left
  ·simp only [Act.put, List.setIfInBounds_toArray, List.set_cons_zero, List.set_cons_succ, i64_w, i32_w]
   rfl
  refine take_ (i := 1) (N := some 16) (v := ?_) (a' := ?_) #[true, true, true, false, true, false, true, false, false, false, false, false] rfl rfl (take_ofW HT_.out HW_.out (by kernel_rfl)) (fun _ _ _ h => h) (Or.inl ⟨by rfl, ?_⟩) hHeld ?_ ?_
  rotate_left
  ·rintro w' ⟨s0, s1, s2, s3, s4, s5, s6⟩
   go_simp
   with_reducible rfl
  rotate_left
  ·simp only [Act.put, List.setIfInBounds_toArray, List.set_cons_zero, List.set_cons_succ, i64_w, i32_w]
   rfl
  refine take_ (i := 3) (N := some 18) (v := ?_) (a' := ?_) #[true, true, true, true, true, false, true, false, false, false, false, false] rfl rfl (take_ofW HT_.out HW_.out (by kernel_rfl)) (fun _ _ _ h => h) (Or.inl ⟨by rfl, ?_⟩) hHeld ?_ ?_
  rotate_left
  ·rintro w' ⟨s0, s1, s2, s3, s4, s5, s6⟩
   go_simp
   with_reducible rfl
  rotate_left
  ·simp only [Act.put, List.setIfInBounds_toArray, List.set_cons_zero, List.set_cons_succ, i64_w, i32_w]
   rfl
  refine take_ (i := 5) (N := some 20) (v := ?_) (a' := ?_) #[true, true, true, true, true, true, true, false, false, false, false, false] rfl rfl (take_ofW HT_.out HW_.out (by kernel_rfl)) (fun _ _ _ h => h) (Or.inl ⟨by rfl, ?_⟩) hHeld ?_ ?_
  rotate_left
  ·rintro w' ⟨s0, s1, s2, s3, s4, s5, s6⟩
   go_simp
   with_reducible rfl
  rotate_left
  ·simp only [Act.put, List.setIfInBounds_toArray, List.set_cons_zero, List.set_cons_succ, i64_w, i32_w]
   rfl
  refine take_ (i := 7) (N := some 22) (v := ?_) (a' := ?_) #[true, true, true, true, true, true, true, true, false, false, false, false] rfl rfl (take_ofW HT_.out HW_.out (by kernel_rfl)) (fun _ _ _ h => h) (Or.inl ⟨by rfl, ?_⟩) hHeld ?_ ?_
  rotate_left
  ·rintro w' ⟨s0, s1, s2, s3, s4, s5, s6⟩
   go_simp
   with_reducible rfl
  rotate_left
  ·simp only [Act.put, List.setIfInBounds_toArray, List.set_cons_zero, List.set_cons_succ, i64_w, i32_w]
   rfl
  refine join_ (σ := Value × Nat) 1 #[true, true, true, true, true, true, true, true, true, true, true, false] (fun s_ => [(23, s_.1), (5, .pointer (some ⟨s_.2, 0, none⟩)), (24, .agg #[.string a0_0, .int .i64 a0_1, .int .i64 a0_2, s_.1, .slice none 0 0])]) (fun s_ w' => (w'.cell? ⟨gb133, 0, none⟩ = some (.string a0_0) ∧ w'.cell? ⟨gb133, 1, none⟩ = some (.int .i64 a0_1) ∧ w'.cell? ⟨gb133, 2, none⟩ = some (.int .i64 a0_2) ∧ w'.cell? ⟨gb133, 3, none⟩ = some (.int .i64 a0_3) ∧ w'.cell? ⟨gb133, 4, none⟩ = some (.int .i64 a0_4) ∧ w'.cell? ⟨gb133, 5, none⟩ = some (.slice A0_5 l0_5.length c0_5) ∧ w'.cell? ⟨gb133, 6, none⟩ = some (.slice A0_6 l0_6.length c0_6)) ∧ (Kd.R k46 46 w' w.heap.size (fun _ => True) s_.1 t136) ∧ (w'.heap[gb133]? = some (.cells #[.string a0_0, .int .i64 a0_1, .int .i64 a0_2, .int .i64 a0_3, .int .i64 a0_4, .slice A0_5 l0_5.length c0_5, .slice A0_6 l0_6.length c0_6] 44 (0, 0))) ∧ (w'.heap[gb134]? = some (.cells #[.string (⟨#[]⟩ : ByteArray), .int .i64 0, .int .i64 0, .slice none 0 0, .slice none 0 0] 48 (0, 0))) ∧ (w'.heap[s_.2]? = some (.cells #[.string (⟨#[]⟩ : ByteArray), .int .i64 0, .int .i64 0, .slice none 0 0, .slice none 0 0] 48 (0, 0))) ∧ (w.heap.size ≤ s_.2) ∧ (w.heap.size ≤ s_.2) ∧ (gb133 ≠ s_.2) ∧ (s_.2 ≠ gb133) ∧ (gb134 ≠ s_.2) ∧ (s_.2 ≠ gb134) ∧ (Below w.heap.size w w')) ?_ ?_
  rotate_left
  ·intro hCont
   refine two_ (i := 8) (j := 10) (Ni := some 23) (Nj := some 5) #[true, true, true, true, true, true, true, true, true, false, false, false] #[true, true, true, true, true, true, true, true, false, false, true, false] rfl rfl rfl rfl (two_of HT_.out (by kernel_rfl)) (by decide) (by decide) (fun K hK => ?_) (fun K hK => ?_)
   ·skip
    refine goes_ Tryd.func37 (by kernel_rfl) rfl #[.slice A0_6 l0_6.length c0_6] (by rfl) rfl rfl (by (try simp only [List.map_toArray, List.map_cons, List.map_nil]); first | done | rfl | (simp only [List.length_drop, List.length_take]; rfl)) ?_
    with_reducible refine (slices_Clone__M.calls _ _ l0_6 t136 _ ?side1 ?side2 A4.out).mono ?_
    (case side1 => repeat (first | exact (Kd.C_below HR0_6.out HB.out) | (with_reducible refine Kd.C_alloc ?_ _) | (with_reducible refine Kd.C_drewN ?_ _) | (with_reducible refine Kd.C_drew ?_)))
    (case side2 => exact HC0_6.out)
    rintro e w11 ⟨v137, rfl, ho0, hb⟩
    refine ⟨_, rfl, ?_⟩
    have n0_ := Aside0.mk (Kd.R_lower ho0 (below_size (by repeat (first | (with_reducible first | exact HB.out | apply p_a | apply p_n | apply p_1 | refine p_s ?_ GE133.out | refine p_s ?_ GE134.out) | exact HB.out))))
    have n1_ := bb_ BK133 hb
    have n2_ := bb_ BK134 hb
    have n3_ := Aside0.mk (below_step (by repeat (first | (with_reducible first | exact HB.out | apply p_a | apply p_n | apply p_1 | refine p_s ?_ GE133.out | refine p_s ?_ GE134.out) | exact HB.out)) hb)
    clear BK133
    clear BK134
    clear HB
    have HO138 := n0_
    have BK133 := n1_
    have BK134 := n2_
    have HB := n3_
    clear n0_ n1_ n2_ n3_
    (try clear hb)
    (try clear hb2)
    (try clear hk)
    (try clear hi)
    (try clear ho0)
    obtain ⟨Ao12, co12, eo12⟩ := Kd.R_slice HO138.out
    (first | subst eo12 | (injection eo12 with f1_ f2_ f3_; have f4_ := f1_.symm; have f5_ := f3_.symm; clear f1_ f2_ f3_; subst f4_; subst f5_))
    refine hK.out _ _ ⟨(q_c BK133.out 0).trans rfl, (q_c BK133.out 1).trans rfl, (q_c BK133.out 2).trans rfl, (q_c BK133.out 3).trans rfl, (q_c BK133.out 4).trans rfl, (q_c BK133.out 5).trans rfl, (q_c BK133.out 6).trans rfl⟩ (fun hHeld => ?_)
    clear hK K
    refine norm_ (a' := ?_) ?_ ?_
    rotate_left
    ·show Act.put _ (some 23) _ = _
     simp only [Act.put, List.setIfInBounds_toArray, List.set_cons_zero, List.set_cons_succ, i64_w, i32_w]
     rfl
    refine pure_ (i := 9) (N := some 24) (v := ?_) (a' := ?_) #[true, true, true, true, true, true, true, true, true, true, false, false] rfl rfl (any_of HT_.out (by kernel_rfl)) (fun _ _ _ h => h) (Or.inl ⟨by rfl, ?_⟩) ?_ ?_
    rotate_left
    ·intro w'
     go_simp
     with_reducible rfl
    rotate_left
    ·simp only [Act.put, List.setIfInBounds_toArray, List.set_cons_zero, List.set_cons_succ, i64_w, i32_w]
     rfl
    refine one_ (i := 10) (N := some 5) #[true, true, true, true, true, true, true, true, true, true, true, false] rfl rfl (one_of HT_.out (by kernel_rfl)) (by decide) (fun K hK => ?_)
    refine box_step ?hg (N := 5) ?hd (cs := #[.string (⟨#[]⟩ : ByteArray), .int .i64 0, .int .i64 0, .slice none 0 0, .slice none 0 0]) (t := 48) ?hr ?_; (case hd => rfl); (case hg => rfl); (case hr => first | (go_simp; done) | (go_simp; rfl))
    intro gb139 hg w13 hbox hb
    have n0_ := rb_ HO138 hb
    have n1_ := bb_ BK133 hb
    have n2_ := bb_ BK134 hb
    have n3_ := Aside0.mk (below_step (by repeat (first | (with_reducible first | exact HB.out | apply p_a | apply p_n | apply p_1 | refine p_s ?_ GE133.out | refine p_s ?_ GE134.out) | exact HB.out)) hb)
    have n4_ := Aside0.mk (hbox)
    have n5_ := Aside0.mk ((by rw [hg]; exact (below_size (by repeat (first | (with_reducible first | exact HB.out | apply p_a | apply p_n | apply p_1 | refine p_s ?_ GE133.out | refine p_s ?_ GE134.out) | exact HB.out))) : w.heap.size ≤ gb139))
    have n6_ := Aside0.mk ((by rw [hg]; exact (below_size (by repeat (first | (with_reducible first | exact HB.out | apply p_a | apply p_n | apply p_1 | refine p_s ?_ GE133.out | refine p_s ?_ GE134.out) | exact HB.out))) : w.heap.size ≤ gb139))
    have n7_ := bl_ BK133 hg
    have n8_ := bg_ BK133 hg
    have n9_ := bl_ BK134 hg
    have n10_ := bg_ BK134 hg
    clear HO138
    clear BK133
    clear BK134
    clear HB
    have HO138 := n0_
    have BK133 := n1_
    have BK134 := n2_
    have HB := n3_
    have BK139 := n4_
    have GW139 := n5_
    have GE139 := n6_
    have NB133_139 := n7_
    have NB139_133 := n8_
    have NB134_139 := n9_
    have NB139_134 := n10_
    clear n0_ n1_ n2_ n3_ n4_ n5_ n6_ n7_ n8_ n9_ n10_
    clear hb hbox hg
    refine hK.out _ _ ⟨(q_c BK133.out 0).trans rfl, (q_c BK133.out 1).trans rfl, (q_c BK133.out 2).trans rfl, (q_c BK133.out 3).trans rfl, (q_c BK133.out 4).trans rfl, (q_c BK133.out 5).trans rfl, (q_c BK133.out 6).trans rfl⟩ (fun hHeld => ?_)
    clear hK K
    refine norm_ (a' := ?_) ?_ ?_
    rotate_left
    ·show Act.put _ (some 5) _ = _
     simp only [Act.put, List.setIfInBounds_toArray, List.set_cons_zero, List.set_cons_succ, i64_w, i32_w]
     rfl
    exact norm_ (by simp only [putAll, Act.put, List.setIfInBounds_toArray, List.set_cons_zero, List.set_cons_succ]) (hCont (.slice Ao12 t136.length co12, gb139) _ ⟨hHeld, (by (with_reducible repeat (first | apply Kd.R_alloc | apply Kd.R_drewN | apply Kd.R_drew)); exact HO138.out), (by (with_reducible repeat (first | refine q_n ?_ _ | refine q_d ?_ | refine q_a ?_ _)); exact BK133.out), (by (with_reducible repeat (first | refine q_n ?_ _ | refine q_d ?_ | refine q_a ?_ _)); exact BK134.out), (by (with_reducible repeat (first | refine q_n ?_ _ | refine q_d ?_ | refine q_a ?_ _)); exact BK139.out), GW139.out, GE139.out, NB133_139.out, NB139_133.out, NB134_139.out, NB139_134.out, (by repeat (first | (with_reducible first | exact HB.out | apply p_a | apply p_n | apply p_1 | refine p_s ?_ GE133.out | refine p_s ?_ GE134.out | refine p_s ?_ GE139.out) | exact HB.out))⟩)
   ·skip
    refine box_step ?hg (N := 5) ?hd (cs := #[.string (⟨#[]⟩ : ByteArray), .int .i64 0, .int .i64 0, .slice none 0 0, .slice none 0 0]) (t := 48) ?hr ?_; (case hd => rfl); (case hg => rfl); (case hr => first | (go_simp; done) | (go_simp; rfl))
    intro gb139 hg w11 hbox hb
    have n0_ := bb_ BK133 hb
    have n1_ := bb_ BK134 hb
    have n2_ := Aside0.mk (below_step (by repeat (first | (with_reducible first | exact HB.out | apply p_a | apply p_n | apply p_1 | refine p_s ?_ GE133.out | refine p_s ?_ GE134.out) | exact HB.out)) hb)
    have n3_ := Aside0.mk (hbox)
    have n4_ := Aside0.mk ((by rw [hg]; exact (below_size (by repeat (first | (with_reducible first | exact HB.out | apply p_a | apply p_n | apply p_1 | refine p_s ?_ GE133.out | refine p_s ?_ GE134.out) | exact HB.out))) : w.heap.size ≤ gb139))
    have n5_ := Aside0.mk ((by rw [hg]; exact (below_size (by repeat (first | (with_reducible first | exact HB.out | apply p_a | apply p_n | apply p_1 | refine p_s ?_ GE133.out | refine p_s ?_ GE134.out) | exact HB.out))) : w.heap.size ≤ gb139))
    have n6_ := bl_ BK133 hg
    have n7_ := bg_ BK133 hg
    have n8_ := bl_ BK134 hg
    have n9_ := bg_ BK134 hg
    clear BK133
    clear BK134
    clear HB
    have BK133 := n0_
    have BK134 := n1_
    have HB := n2_
    have BK139 := n3_
    have GW139 := n4_
    have GE139 := n5_
    have NB133_139 := n6_
    have NB139_133 := n7_
    have NB134_139 := n8_
    have NB139_134 := n9_
    clear n0_ n1_ n2_ n3_ n4_ n5_ n6_ n7_ n8_ n9_
    clear hb hbox hg
    refine hK.out _ _ ⟨(q_c BK133.out 0).trans rfl, (q_c BK133.out 1).trans rfl, (q_c BK133.out 2).trans rfl, (q_c BK133.out 3).trans rfl, (q_c BK133.out 4).trans rfl, (q_c BK133.out 5).trans rfl, (q_c BK133.out 6).trans rfl⟩ (fun hHeld => ?_)
    clear hK K
    refine norm_ (a' := ?_) ?_ ?_
    rotate_left
    ·show Act.put _ (some 5) _ = _
     simp only [Act.put, List.setIfInBounds_toArray, List.set_cons_zero, List.set_cons_succ, i64_w, i32_w]
     rfl
    refine one_ (i := 8) (N := some 23) #[true, true, true, true, true, true, true, true, true, false, true, false] rfl rfl (one_of HT_.out (by kernel_rfl)) (by decide) (fun K hK => ?_)
    refine goes_ Tryd.func37 (by kernel_rfl) rfl #[.slice A0_6 l0_6.length c0_6] (by rfl) rfl rfl (by (try simp only [List.map_toArray, List.map_cons, List.map_nil]); first | done | rfl | (simp only [List.length_drop, List.length_take]; rfl)) ?_
    with_reducible refine (slices_Clone__M.calls _ _ l0_6 t136 _ ?side1 ?side2 A4.out).mono ?_
    (case side1 => repeat (first | exact (Kd.C_below HR0_6.out HB.out) | (with_reducible refine Kd.C_alloc ?_ _) | (with_reducible refine Kd.C_drewN ?_ _) | (with_reducible refine Kd.C_drew ?_)))
    (case side2 => exact HC0_6.out)
    rintro e w12 ⟨v137, rfl, ho0, hb⟩
    refine ⟨_, rfl, ?_⟩
    have n0_ := Aside0.mk (Kd.R_lower ho0 (below_size (by repeat (first | (with_reducible first | exact HB.out | apply p_a | apply p_n | apply p_1 | refine p_s ?_ GE133.out | refine p_s ?_ GE134.out | refine p_s ?_ GE139.out) | exact HB.out))))
    have n1_ := bb_ BK133 hb
    have n2_ := bb_ BK134 hb
    have n3_ := bb_ BK139 hb
    have n4_ := Aside0.mk (below_step (by repeat (first | (with_reducible first | exact HB.out | apply p_a | apply p_n | apply p_1 | refine p_s ?_ GE133.out | refine p_s ?_ GE134.out | refine p_s ?_ GE139.out) | exact HB.out)) hb)
    clear BK133
    clear BK134
    clear BK139
    clear HB
    have HO138 := n0_
    have BK133 := n1_
    have BK134 := n2_
    have BK139 := n3_
    have HB := n4_
    clear n0_ n1_ n2_ n3_ n4_
    (try clear hb)
    (try clear hb2)
    (try clear hk)
    (try clear hi)
    (try clear ho0)
    obtain ⟨Ao13, co13, eo13⟩ := Kd.R_slice HO138.out
    (first | subst eo13 | (injection eo13 with f1_ f2_ f3_; have f4_ := f1_.symm; have f5_ := f3_.symm; clear f1_ f2_ f3_; subst f4_; subst f5_))
    refine hK.out _ _ ⟨(q_c BK133.out 0).trans rfl, (q_c BK133.out 1).trans rfl, (q_c BK133.out 2).trans rfl, (q_c BK133.out 3).trans rfl, (q_c BK133.out 4).trans rfl, (q_c BK133.out 5).trans rfl, (q_c BK133.out 6).trans rfl⟩ (fun hHeld => ?_)
    clear hK K
    refine norm_ (a' := ?_) ?_ ?_
    rotate_left
    ·show Act.put _ (some 23) _ = _
     simp only [Act.put, List.setIfInBounds_toArray, List.set_cons_zero, List.set_cons_succ, i64_w, i32_w]
     rfl
    refine pure_ (i := 9) (N := some 24) (v := ?_) (a' := ?_) #[true, true, true, true, true, true, true, true, true, true, true, false] rfl rfl (any_of HT_.out (by kernel_rfl)) (fun _ _ _ h => h) (Or.inl ⟨by rfl, ?_⟩) ?_ ?_
    rotate_left
    ·intro w'
     go_simp
     with_reducible rfl
    rotate_left
    ·simp only [Act.put, List.setIfInBounds_toArray, List.set_cons_zero, List.set_cons_succ, i64_w, i32_w]
     rfl
    exact norm_ (by simp only [putAll, Act.put, List.setIfInBounds_toArray, List.set_cons_zero, List.set_cons_succ]) (hCont (.slice Ao13 t136.length co13, gb139) _ ⟨hHeld, (by (with_reducible repeat (first | apply Kd.R_alloc | apply Kd.R_drewN | apply Kd.R_drew)); exact HO138.out), (by (with_reducible repeat (first | refine q_n ?_ _ | refine q_d ?_ | refine q_a ?_ _)); exact BK133.out), (by (with_reducible repeat (first | refine q_n ?_ _ | refine q_d ?_ | refine q_a ?_ _)); exact BK134.out), (by (with_reducible repeat (first | refine q_n ?_ _ | refine q_d ?_ | refine q_a ?_ _)); exact BK139.out), GW139.out, GE139.out, NB133_139.out, NB139_133.out, NB134_139.out, NB139_134.out, (by repeat (first | (with_reducible first | exact HB.out | apply p_a | apply p_n | apply p_1 | refine p_s ?_ GE133.out | refine p_s ?_ GE134.out | refine p_s ?_ GE139.out) | exact HB.out))⟩)
  rintro ⟨v137, gb139⟩ w14 ⟨hS_, h0_, h1_, h2_, h3_, h4_, h5_, h6_, h7_, h8_, h9_, h10_⟩
  have n0_ : Aside0 (Kd.R k46 46 w14 w.heap.size (fun _ => True) v137 t136) := ⟨h0_⟩
  have n1_ : Aside0 (w14.heap[gb133]? = some (.cells #[.string a0_0, .int .i64 a0_1, .int .i64 a0_2, .int .i64 a0_3, .int .i64 a0_4, .slice A0_5 l0_5.length c0_5, .slice A0_6 l0_6.length c0_6] 44 (0, 0))) := ⟨h1_⟩
  have n2_ : Aside0 (w14.heap[gb134]? = some (.cells #[.string (⟨#[]⟩ : ByteArray), .int .i64 0, .int .i64 0, .slice none 0 0, .slice none 0 0] 48 (0, 0))) := ⟨h2_⟩
  have n3_ : Aside0 (w14.heap[gb139]? = some (.cells #[.string (⟨#[]⟩ : ByteArray), .int .i64 0, .int .i64 0, .slice none 0 0, .slice none 0 0] 48 (0, 0))) := ⟨h3_⟩
  have n4_ : Aside0 (w.heap.size ≤ gb139) := ⟨h4_⟩
  have n5_ : Aside0 (w.heap.size ≤ gb139) := ⟨h5_⟩
  have n6_ : Aside0 (gb133 ≠ gb139) := ⟨h6_⟩
  have n7_ : Aside0 (gb139 ≠ gb133) := ⟨h7_⟩
  have n8_ : Aside0 (gb134 ≠ gb139) := ⟨h8_⟩
  have n9_ : Aside0 (gb139 ≠ gb134) := ⟨h9_⟩
  have n10_ : Aside0 (Below w.heap.size w w14) := ⟨h10_⟩
  clear BK133
  clear BK134
  clear HB
  clear h0_ h1_ h2_ h3_ h4_ h5_ h6_ h7_ h8_ h9_ h10_
  have HO138 := n0_
  have BK133 := n1_
  have BK134 := n2_
  have BK139 := n3_
  have GW139 := n4_
  have GE139 := n5_
  have NB133_139 := n6_
  have NB139_133 := n7_
  have NB134_139 := n8_
  have NB139_134 := n9_
  have HB := n10_
  clear n0_ n1_ n2_ n3_ n4_ n5_ n6_ n7_ n8_ n9_ n10_
  have hHeld : w14.cell? ⟨gb133, 0, none⟩ = some (.string a0_0) ∧ w14.cell? ⟨gb133, 1, none⟩ = some (.int .i64 a0_1) ∧ w14.cell? ⟨gb133, 2, none⟩ = some (.int .i64 a0_2) ∧ w14.cell? ⟨gb133, 3, none⟩ = some (.int .i64 a0_3) ∧ w14.cell? ⟨gb133, 4, none⟩ = some (.int .i64 a0_4) ∧ w14.cell? ⟨gb133, 5, none⟩ = some (.slice A0_5 l0_5.length c0_5) ∧ w14.cell? ⟨gb133, 6, none⟩ = some (.slice A0_6 l0_6.length c0_6) := hS_
  obtain ⟨Ao15, co15, eo15⟩ := Kd.R_slice HO138.out
  (first | subst eo15 | (injection eo15 with f1_ f2_ f3_; have f4_ := f1_.symm; have f5_ := f3_.symm; clear f1_ f2_ f3_; subst f4_; subst f5_))
  refine norm_ (a' := ?_) ?_ ?_
  rotate_left
  ·simp only [putAll, Act.put, List.setIfInBounds_toArray, List.set_cons_zero, List.set_cons_succ]
   rfl
  refine one_ (i := 11) (N := none) #[true, true, true, true, true, true, true, true, true, true, true, true] rfl rfl (one_of HT_.out (by kernel_rfl)) (by decide) (fun K hK => ?_)
  have hs16 : w14.cell? ⟨gb139, 0, none⟩ = some (.string (⟨#[]⟩ : ByteArray)) := (q_c BK139.out 0).trans rfl
  have hfs16 := q_f BK139.out 0
  have hns16_0 := NB133_139.out
  have hns16_1 := NB134_139.out
  have hms16_0 := NB139_133.out
  have hms16_1 := NB139_134.out
  have hs17 : w14.cell? ⟨gb139, 1, none⟩ = some (.int .i64 0) := (q_c BK139.out 1).trans rfl
  have hfs17 := q_f BK139.out 1
  have hns17_0 := NB133_139.out
  have hns17_1 := NB134_139.out
  have hms17_0 := NB139_133.out
  have hms17_1 := NB139_134.out
  have hs18 : w14.cell? ⟨gb139, 2, none⟩ = some (.int .i64 0) := (q_c BK139.out 2).trans rfl
  have hfs18 := q_f BK139.out 2
  have hns18_0 := NB133_139.out
  have hns18_1 := NB134_139.out
  have hms18_0 := NB139_133.out
  have hms18_1 := NB139_134.out
  have hs19 : w14.cell? ⟨gb139, 3, none⟩ = some (.slice none 0 0) := (q_c BK139.out 3).trans rfl
  have hfs19 := q_f BK139.out 3
  have hns19_0 := NB133_139.out
  have hns19_1 := NB134_139.out
  have hms19_0 := NB139_133.out
  have hms19_1 := NB139_134.out
  have hs20 : w14.cell? ⟨gb139, 4, none⟩ = some (.slice none 0 0) := (q_c BK139.out 4).trans rfl
  have hfs20 := q_f BK139.out 4
  have hns20_0 := NB133_139.out
  have hns20_1 := NB134_139.out
  have hms20_0 := NB139_133.out
  have hms20_1 := NB139_134.out
  refine skip_ (w1 := ?_) (by rfl) rfl ?_ ?_
  rotate_left
  ·go_simp
   rfl
  refine hK.out _ _ ⟨((cell_far (p := ⟨gb139, _, none⟩) NB133_139.out _).trans (((cell_far (p := ⟨gb139, _, none⟩) NB133_139.out _).trans (((cell_far (p := ⟨gb139, _, none⟩) NB133_139.out _).trans (((cell_far (p := ⟨gb139, _, none⟩) NB133_139.out _).trans (((cell_far (p := ⟨gb139, _, none⟩) NB133_139.out _).trans (hHeld.1)))))))))), ((cell_far (p := ⟨gb139, _, none⟩) NB133_139.out _).trans (((cell_far (p := ⟨gb139, _, none⟩) NB133_139.out _).trans (((cell_far (p := ⟨gb139, _, none⟩) NB133_139.out _).trans (((cell_far (p := ⟨gb139, _, none⟩) NB133_139.out _).trans (((cell_far (p := ⟨gb139, _, none⟩) NB133_139.out _).trans (hHeld.2.1)))))))))), ((cell_far (p := ⟨gb139, _, none⟩) NB133_139.out _).trans (((cell_far (p := ⟨gb139, _, none⟩) NB133_139.out _).trans (((cell_far (p := ⟨gb139, _, none⟩) NB133_139.out _).trans (((cell_far (p := ⟨gb139, _, none⟩) NB133_139.out _).trans (((cell_far (p := ⟨gb139, _, none⟩) NB133_139.out _).trans (hHeld.2.2.1)))))))))), ((cell_far (p := ⟨gb139, _, none⟩) NB133_139.out _).trans (((cell_far (p := ⟨gb139, _, none⟩) NB133_139.out _).trans (((cell_far (p := ⟨gb139, _, none⟩) NB133_139.out _).trans (((cell_far (p := ⟨gb139, _, none⟩) NB133_139.out _).trans (((cell_far (p := ⟨gb139, _, none⟩) NB133_139.out _).trans (hHeld.2.2.2.1)))))))))), ((cell_far (p := ⟨gb139, _, none⟩) NB133_139.out _).trans (((cell_far (p := ⟨gb139, _, none⟩) NB133_139.out _).trans (((cell_far (p := ⟨gb139, _, none⟩) NB133_139.out _).trans (((cell_far (p := ⟨gb139, _, none⟩) NB133_139.out _).trans (((cell_far (p := ⟨gb139, _, none⟩) NB133_139.out _).trans (hHeld.2.2.2.2.1)))))))))), ((cell_far (p := ⟨gb139, _, none⟩) NB133_139.out _).trans (((cell_far (p := ⟨gb139, _, none⟩) NB133_139.out _).trans (((cell_far (p := ⟨gb139, _, none⟩) NB133_139.out _).trans (((cell_far (p := ⟨gb139, _, none⟩) NB133_139.out _).trans (((cell_far (p := ⟨gb139, _, none⟩) NB133_139.out _).trans (hHeld.2.2.2.2.2.1)))))))))), ((cell_far (p := ⟨gb139, _, none⟩) NB133_139.out _).trans (((cell_far (p := ⟨gb139, _, none⟩) NB133_139.out _).trans (((cell_far (p := ⟨gb139, _, none⟩) NB133_139.out _).trans (((cell_far (p := ⟨gb139, _, none⟩) NB133_139.out _).trans (((cell_far (p := ⟨gb139, _, none⟩) NB133_139.out _).trans (hHeld.2.2.2.2.2.2))))))))))⟩ (fun hHeld => ?_)
  clear hK K
  refine done_ (done_of HT_.out (by kernel_rfl)) ?_
  try go_wp2
  go_loopg [6] k (fun kq v6 w' => ∃ (x6_1 : Int) (x135000_1 : ByteArray) (x135001_1 : Int) (x135002_1 : Int) (x140004_1 : List Int) (u140004 : Value), v6 = .int .i64 x6_1 ∧ Aside0 (compile_Compile.l0 kq x6_1 a0_0 a0_1 a0_2 a0_3 a0_4 l0_5 l0_6 a0_0 a0_1 a0_2 t136 x140004_1 = some (r1, r2, r3, r4, r5, r6)) ∧ Aside0 (kq ≤ k) ∧ Aside0 (Kd.R k46 46 w' w.heap.size (fun _ => True) (.slice Ao15 t136.length co15) t136) ∧ Aside0 (Kd.R (Kd.int .i64) 3 w' w.heap.size (fun _ => True) u140004 x140004_1) ∧ Aside0 (w'.heap[gb133]? = some (.cells #[.string a0_0, .int .i64 a0_1, .int .i64 a0_2, .int .i64 a0_3, .int .i64 a0_4, (.slice A0_5 l0_5.length c0_5), (.slice A0_6 l0_6.length c0_6)] 44 (0, 0))) ∧ Aside0 (w'.heap[gb134]? = some (.cells #[.string x135000_1, .int .i64 x135001_1, .int .i64 x135002_1, (.slice none 0 0), (.slice none 0 0)] 48 (0, 0))) ∧ Aside0 (w'.heap[gb139]? = some (.cells #[.string a0_0, .int .i64 a0_1, .int .i64 a0_2, (.slice Ao15 t136.length co15), u140004] 48 (0, 0))) ∧ Aside0 (Below w.heap.size w w'))
  case atStart => exact ⟨(1), ((⟨#[]⟩ : ByteArray)), (0), (0), (([] : List Int)), (.slice none 0 0), (by first | rfl | (simp; done) | (simp [*]; done) | (simp [bne]; done) | (simp only [i64_w, i32_w]; done) | (simp [i64_w, i32_w]; done)), H', ⟨Nat.le_refl _⟩, ⟨by (with_reducible repeat (first | apply Kd.R_alloc | apply Kd.R_drewN | apply Kd.R_drew)); exact Kd.R_mono (Kd.R_far (p := ⟨gb139, 4, none⟩) (Kd.R_far (p := ⟨gb139, 3, none⟩) (Kd.R_far (p := ⟨gb139, 2, none⟩) (Kd.R_far (p := ⟨gb139, 1, none⟩) (Kd.R_far (p := ⟨gb139, 0, none⟩) (Kd.R_types HO138.out BK139.out (by decide)) (fun _ hk => hk.2) (.string a0_0)) (fun _ hk => hk.2) (.int .i64 a0_1)) (fun _ hk => hk.2) (.int .i64 a0_2)) (fun _ hk => hk.2) (.slice Ao15 t136.length co15)) (fun _ hk => hk.2) (.slice none 0 0)) (fun _ hk => trivial)⟩, ⟨by first | exact Kd.R_nil _ _ _ _ _ | exact Kd.N_nil _ _ _ _ _ | exact Kd.V_nil _ _ _ _ _ | exact Kd.Q_nil _ _ _ _ _ | exact Kd.S_nil _ _ _ _ _⟩, ⟨by (with_reducible repeat (first | refine q_n ?_ _ | refine q_d ?_ | refine q_a ?_ _)); refine blk_far ?_ NB133_139.out _; (with_reducible repeat (first | refine q_n ?_ _ | refine q_d ?_ | refine q_a ?_ _)); refine blk_far ?_ NB133_139.out _; (with_reducible repeat (first | refine q_n ?_ _ | refine q_d ?_ | refine q_a ?_ _)); refine blk_far ?_ NB133_139.out _; (with_reducible repeat (first | refine q_n ?_ _ | refine q_d ?_ | refine q_a ?_ _)); refine blk_far ?_ NB133_139.out _; (with_reducible repeat (first | refine q_n ?_ _ | refine q_d ?_ | refine q_a ?_ _)); refine blk_far ?_ NB133_139.out _; (with_reducible repeat (first | refine q_n ?_ _ | refine q_d ?_ | refine q_a ?_ _)); exact BK133.out⟩, ⟨by (with_reducible repeat (first | refine q_n ?_ _ | refine q_d ?_ | refine q_a ?_ _)); refine blk_far ?_ NB134_139.out _; (with_reducible repeat (first | refine q_n ?_ _ | refine q_d ?_ | refine q_a ?_ _)); refine blk_far ?_ NB134_139.out _; (with_reducible repeat (first | refine q_n ?_ _ | refine q_d ?_ | refine q_a ?_ _)); refine blk_far ?_ NB134_139.out _; (with_reducible repeat (first | refine q_n ?_ _ | refine q_d ?_ | refine q_a ?_ _)); refine blk_far ?_ NB134_139.out _; (with_reducible repeat (first | refine q_n ?_ _ | refine q_d ?_ | refine q_a ?_ _)); refine blk_far ?_ NB134_139.out _; (with_reducible repeat (first | refine q_n ?_ _ | refine q_d ?_ | refine q_a ?_ _)); exact BK134.out⟩, ⟨by (with_reducible repeat (first | refine q_n ?_ _ | refine q_d ?_ | refine q_a ?_ _)); refine blk_put (cs := #[.string a0_0, .int .i64 a0_1, .int .i64 a0_2, .slice Ao15 t136.length co15, .slice none 0 0]) ?_ 4 _ rfl; (with_reducible repeat (first | refine q_n ?_ _ | refine q_d ?_ | refine q_a ?_ _)); refine blk_put (cs := #[.string a0_0, .int .i64 a0_1, .int .i64 a0_2, .slice none 0 0, .slice none 0 0]) ?_ 3 _ rfl; (with_reducible repeat (first | refine q_n ?_ _ | refine q_d ?_ | refine q_a ?_ _)); refine blk_put (cs := #[.string a0_0, .int .i64 a0_1, .int .i64 0, .slice none 0 0, .slice none 0 0]) ?_ 2 _ rfl; (with_reducible repeat (first | refine q_n ?_ _ | refine q_d ?_ | refine q_a ?_ _)); refine blk_put (cs := #[.string a0_0, .int .i64 0, .int .i64 0, .slice none 0 0, .slice none 0 0]) ?_ 1 _ rfl; (with_reducible repeat (first | refine q_n ?_ _ | refine q_d ?_ | refine q_a ?_ _)); refine blk_put (cs := #[.string (⟨#[]⟩ : ByteArray), .int .i64 0, .int .i64 0, .slice none 0 0, .slice none 0 0]) ?_ 0 _ rfl; (with_reducible repeat (first | refine q_n ?_ _ | refine q_d ?_ | refine q_a ?_ _)); exact BK139.out⟩, ⟨by repeat (first | (with_reducible first | exact HB.out | apply p_a | apply p_n | apply p_1 | refine p_s ?_ GE133.out | refine p_s ?_ GE134.out | refine p_s ?_ GE139.out) | exact HB.out)⟩⟩
  case round =>
   clear H'
   try clear c1
   try clear p2
   try clear c3
   try clear c3b0
   try clear c3b1
   try clear c7
   try clear c14
   try clear hcz8_0
   try clear hcz8_1
   try clear hcz8_2
   try clear hcz8_3
   try clear hcz8_4
   try clear hcz8_5
   try clear hcz8_6
   try clear hfz8_0
   try clear hfz8_1
   try clear hfz8_2
   try clear hfz8_3
   try clear hfz8_4
   try clear hfz8_5
   try clear hfz8_6
   obtain ⟨x6_1, x135000_1, x135001_1, x135002_1, x140004_1, u140004, rfl, HA, HK1, HO_140003, HO_140004, BK133, BK134, BK139, HB⟩ := hrel
   cases gk with
   | zero => exact absurd HA.out (by simp [compile_Compile.l0])
   | succ k1 =>
    have H := HA.out
    clear HA
    simp only [compile_Compile.l0] at H
    by_cases c21 : x6_1 ≤ a0_2
    ·rw [if_pos c21] at H
     have c21b0 : decide (x6_1 ≤ a0_2) = true := decide_eq_true c21
     clear c21
     replace H := o_s H
     obtain ⟨⟨t140, t141⟩, A220, H⟩ := H
     replace H : (if t141 = 0 then (if t140 = 0 then (compile_Compile.l0 k1 (wrap64 (x6_1 + 1)) a0_0 a0_1 a0_2 a0_3 a0_4 l0_5 l0_6 a0_0 a0_1 a0_2 t136 x140004_1) else (if x140004_1.length < 17592186044416 then (compile_Compile.l0 k1 (wrap64 (x6_1 + 1)) a0_0 a0_1 a0_2 a0_3 a0_4 l0_5 l0_6 a0_0 a0_1 a0_2 t136 (x140004_1 ++ [x6_1])) else (none))) else (some ((⟨#[]⟩ : ByteArray), 0, 0, ([] : List (S46)), ([] : List Int), t141))) = some (r1, r2, r3, r4, r5, r6) := H
     have A22 := Aside0.mk A220
     clear A220
     by_cases c23 : t141 = 0
     ·rw [if_pos c23] at H
      have c23b0 : (t141 == 0) = true := beq_iff_eq.mpr c23
      have c23b1 : (t141 != 0) = false := bne_eq_false_iff_eq.mpr c23
      clear c23
      by_cases c24 : t140 = 0
      ·rw [if_pos c24] at H
       have c24b0 : (t140 == 0) = true := beq_iff_eq.mpr c24
       have c24b1 : (t140 != 0) = false := bne_eq_false_iff_eq.mpr c24
       clear c24
       have H' := Aside0.mk H
       clear H
       have hnb25 := NB133_134.out
       have hnc25 := NB134_133.out
       have hnb26 := NB133_139.out
       have hnc26 := NB139_133.out
       have hcz27_0 : wr.cell? ⟨gb133, 0, none⟩ = some (.string a0_0) := (q_c BK133.out 0).trans rfl
       have hcz27_1 : wr.cell? ⟨gb133, 1, none⟩ = some (.int .i64 a0_1) := (q_c BK133.out 1).trans rfl
       have hcz27_2 : wr.cell? ⟨gb133, 2, none⟩ = some (.int .i64 a0_2) := (q_c BK133.out 2).trans rfl
       have hcz27_3 : wr.cell? ⟨gb133, 3, none⟩ = some (.int .i64 a0_3) := (q_c BK133.out 3).trans rfl
       have hcz27_4 : wr.cell? ⟨gb133, 4, none⟩ = some (.int .i64 a0_4) := (q_c BK133.out 4).trans rfl
       have hcz27_5 : wr.cell? ⟨gb133, 5, none⟩ = some (.slice A0_5 l0_5.length c0_5) := (q_c BK133.out 5).trans rfl
       have hcz27_6 : wr.cell? ⟨gb133, 6, none⟩ = some (.slice A0_6 l0_6.length c0_6) := (q_c BK133.out 6).trans rfl
       have hfz27_0 := q_f BK133.out 0
       have hfz27_1 := q_f BK133.out 1
       have hfz27_2 := q_f BK133.out 2
       have hfz27_3 := q_f BK133.out 3
       have hfz27_4 := q_f BK133.out 4
       have hfz27_5 := q_f BK133.out 5
       have hfz27_6 := q_f BK133.out 6
       go_wp2_with (first | ((with_reducible refine gate_callee (f := 39) rfl ?_); refine goesL_ (some 35) rfl rfl Tryd.func39 (by kernel_rfl) rfl #[.agg #[.int .i64 a0_3, .int .i64 a0_4, .slice A0_5 l0_5.length c0_5], .int .i64 x6_1] rfl (by (try simp only [List.map_toArray, List.map_cons, List.map_nil]); first | done | rfl | (simp only [List.length_drop, List.length_take]; rfl)) ?_; (with_reducible refine (rule_Eval.calls (hG := ?sideG) k1 a0_3 a0_4 _ _ l0_5 x6_1 t140 t141 _ ?side1 ?side2 A22.out).mono ?_); (case sideG => repeat (first | exact (Glob.below HGL.out HB.out) | exact HGL.out | (with_reducible refine Glob.alloc ?_ _) | (with_reducible refine Glob.drewN ?_ _) | (with_reducible refine Glob.drew ?_))); (case side1 => repeat (first | exact (Kd.C_below HR0_5.out HB.out) | (with_reducible refine Kd.C_alloc ?_ _) | (with_reducible refine Kd.C_drewN ?_ _) | (with_reducible refine Kd.C_drew ?_))); (case side2 => exact HC0_5.out); rintro e w28 ⟨rfl, hb⟩; refine ⟨_, rfl, ?_⟩; have n0_ := rb_ HO_140003 hb; have n1_ := rb_ HO_140004 hb; have n2_ := bb_ BK133 hb; have n3_ := bb_ BK134 hb; have n4_ := bb_ BK139 hb; have n5_ := Aside0.mk (below_step (by repeat (first | (with_reducible first | exact HB.out | apply p_a | apply p_n | apply p_1 | refine p_s ?_ GE133.out | refine p_s ?_ GE134.out | refine p_s ?_ GE139.out) | exact HB.out)) hb); clear HO_140003; clear HO_140004; clear BK133; clear BK134; clear BK139; clear HB; have HO_140003 := n0_; have HO_140004 := n1_; have BK133 := n2_; have BK134 := n3_; have BK139 := n4_; have HB := n5_; clear n0_ n1_ n2_ n3_ n4_ n5_; (try clear hb); (try clear hb2); (try clear hk); (try clear hi)))
       go_roundg k1
       case measure => have := HK1.out; omega
       case rel => exact ⟨(wrap64 (x6_1 + 1)), (x135000_1), (x135001_1), (x135002_1), (x140004_1), (u140004), (by first | rfl | (simp; done) | (simp [*]; done) | (simp [bne]; done) | (simp only [i64_w, i32_w]; done) | (simp [i64_w, i32_w]; done)), H', ⟨by have := HK1.out; omega⟩, ⟨by (with_reducible repeat (first | apply Kd.R_alloc | apply Kd.R_drewN | apply Kd.R_drew)); exact HO_140003.out⟩, ⟨by (with_reducible repeat (first | apply Kd.R_alloc | apply Kd.R_drewN | apply Kd.R_drew)); exact HO_140004.out⟩, ⟨by (with_reducible repeat (first | refine q_n ?_ _ | refine q_d ?_ | refine q_a ?_ _)); exact BK133.out⟩, ⟨by (with_reducible repeat (first | refine q_n ?_ _ | refine q_d ?_ | refine q_a ?_ _)); exact BK134.out⟩, ⟨by (with_reducible repeat (first | refine q_n ?_ _ | refine q_d ?_ | refine q_a ?_ _)); exact BK139.out⟩, ⟨by repeat (first | (with_reducible first | exact HB.out | apply p_a | apply p_n | apply p_1 | refine p_s ?_ GE133.out | refine p_s ?_ GE134.out | refine p_s ?_ GE139.out) | exact HB.out)⟩⟩
      ·rw [if_neg c24] at H
       have c24b0 : (t140 == 0) = false := b_f c24
       have c24b1 : (t140 != 0) = true := b_t c24
       by_cases c29 : x140004_1.length < 17592186044416
       ·rw [if_pos c29] at H
        have LMc29 := Aside0.mk c29
        clear c29
        obtain ⟨y142, hy142⟩ : ∃ y_ : List Int, y_ = (x140004_1 ++ [x6_1]) := ⟨_, rfl⟩
        replace H : (compile_Compile.l0 k1 (wrap64 (x6_1 + 1)) a0_0 a0_1 a0_2 a0_3 a0_4 l0_5 l0_6 a0_0 a0_1 a0_2 t136 y142) = some (r1, r2, r3, r4, r5, r6) := by first | (rw [hy142]; with_reducible exact H) | (have H2_ := (Option.bind_some _ _).symm.trans H; rw [hy142]; with_reducible exact H2_) | (have H2_ := (Option.bind_some _ _).symm.trans H; with_reducible exact H2_) | with_reducible exact H | (rw [hy142]; exact H) | exact H
        have Ny142 := Aside0.mk hy142
        clear hy142
        have H' := Aside0.mk H
        clear H
        have hnb30 := NB133_134.out
        have hnc30 := NB134_133.out
        have hnb31 := NB133_139.out
        have hnc31 := NB139_133.out
        have hcz32_0 : wr.cell? ⟨gb133, 0, none⟩ = some (.string a0_0) := (q_c BK133.out 0).trans rfl
        have hcz32_1 : wr.cell? ⟨gb133, 1, none⟩ = some (.int .i64 a0_1) := (q_c BK133.out 1).trans rfl
        have hcz32_2 : wr.cell? ⟨gb133, 2, none⟩ = some (.int .i64 a0_2) := (q_c BK133.out 2).trans rfl
        have hcz32_3 : wr.cell? ⟨gb133, 3, none⟩ = some (.int .i64 a0_3) := (q_c BK133.out 3).trans rfl
        have hcz32_4 : wr.cell? ⟨gb133, 4, none⟩ = some (.int .i64 a0_4) := (q_c BK133.out 4).trans rfl
        have hcz32_5 : wr.cell? ⟨gb133, 5, none⟩ = some (.slice A0_5 l0_5.length c0_5) := (q_c BK133.out 5).trans rfl
        have hcz32_6 : wr.cell? ⟨gb133, 6, none⟩ = some (.slice A0_6 l0_6.length c0_6) := (q_c BK133.out 6).trans rfl
        have hfz32_0 := q_f BK133.out 0
        have hfz32_1 := q_f BK133.out 1
        have hfz32_2 := q_f BK133.out 2
        have hfz32_3 := q_f BK133.out 3
        have hfz32_4 := q_f BK133.out 4
        have hfz32_5 := q_f BK133.out 5
        have hfz32_6 := q_f BK133.out 6
        go_wp2_with (first | ((with_reducible refine gate_callee (f := 39) rfl ?_); refine goesL_ (some 35) rfl rfl Tryd.func39 (by kernel_rfl) rfl #[.agg #[.int .i64 a0_3, .int .i64 a0_4, .slice A0_5 l0_5.length c0_5], .int .i64 x6_1] rfl (by (try simp only [List.map_toArray, List.map_cons, List.map_nil]); first | done | rfl | (simp only [List.length_drop, List.length_take]; rfl)) ?_; (with_reducible refine (rule_Eval.calls (hG := ?sideG) k1 a0_3 a0_4 _ _ l0_5 x6_1 t140 t141 _ ?side1 ?side2 A22.out).mono ?_); (case sideG => repeat (first | exact (Glob.below HGL.out HB.out) | exact HGL.out | (with_reducible refine Glob.alloc ?_ _) | (with_reducible refine Glob.drewN ?_ _) | (with_reducible refine Glob.drew ?_))); (case side1 => repeat (first | exact (Kd.C_below HR0_5.out HB.out) | (with_reducible refine Kd.C_alloc ?_ _) | (with_reducible refine Kd.C_drewN ?_ _) | (with_reducible refine Kd.C_drew ?_))); (case side2 => exact HC0_5.out); rintro e w33 ⟨rfl, hb⟩; refine ⟨_, rfl, ?_⟩; have n0_ := rb_ HO_140003 hb; have n1_ := rb_ HO_140004 hb; have n2_ := bb_ BK133 hb; have n3_ := bb_ BK134 hb; have n4_ := bb_ BK139 hb; have n5_ := Aside0.mk (below_step (by repeat (first | (with_reducible first | exact HB.out | apply p_a | apply p_n | apply p_1 | refine p_s ?_ GE133.out | refine p_s ?_ GE134.out | refine p_s ?_ GE139.out) | exact HB.out)) hb); clear HO_140003; clear HO_140004; clear BK133; clear BK134; clear BK139; clear HB; have HO_140003 := n0_; have HO_140004 := n1_; have BK133 := n2_; have BK134 := n3_; have BK139 := n4_; have HB := n5_; clear n0_ n1_ n2_ n3_ n4_ n5_; (try clear hb); (try clear hb2); (try clear hk); (try clear hi); have hnb34 := NB139_134.out; have hnc34 := NB134_139.out; have hcz35_0 : w33.cell? ⟨gb139, 0, none⟩ = some (.string a0_0) := (q_c BK139.out 0).trans rfl; have hcz35_1 : w33.cell? ⟨gb139, 1, none⟩ = some (.int .i64 a0_1) := (q_c BK139.out 1).trans rfl; have hcz35_2 : w33.cell? ⟨gb139, 2, none⟩ = some (.int .i64 a0_2) := (q_c BK139.out 2).trans rfl; have hcz35_3 : w33.cell? ⟨gb139, 3, none⟩ = some (.slice Ao15 t136.length co15) := (q_c BK139.out 3).trans rfl; have hcz35_4 : w33.cell? ⟨gb139, 4, none⟩ = some (u140004) := (q_c BK139.out 4).trans rfl; have hfz35_0 := q_f BK139.out 0; have hfz35_1 := q_f BK139.out 1; have hfz35_2 := q_f BK139.out 2; have hfz35_3 := q_f BK139.out 3; have hfz35_4 := q_f BK139.out 4) | ((with_reducible refine gate_builtin (b := .append) (xs := #[.tmp 45, .tmp 47]) rfl ?_); at_builtin; refine Kd.R_append (Kd.int .i64) (w0 := w) w.heap.size rfl (.tmp 45) (.tmp 47) 32 3 (.int .i64 0) 8 rfl Tryd.underlying32 info3 rfl (by decide) (by omega) u140004 x140004_1 x6_1 [.int .i64 x6_1] (fun _ => True) (fun _ => False) rfl rfl ?aP (fun _ hk => hk.elim) ?aF ?aO ?aB ?aS ?aL ?_; (case aP => exact rfl); (case aB => exact (by repeat (first | (with_reducible first | exact HB.out | apply p_a | apply p_n | apply p_1 | refine p_s ?_ GE133.out | refine p_s ?_ GE134.out | refine p_s ?_ GE139.out) | exact HB.out))); (case aF => exact (fun _ _ => trivial)); (case aO => exact (by (with_reducible repeat (first | apply Kd.R_alloc | apply Kd.R_drewN | apply Kd.R_drew)); exact HO_140004.out)); (case aS => exact (below_size (by repeat (first | (with_reducible first | exact HB.out | apply p_a | apply p_n | apply p_1 | refine p_s ?_ GE133.out | refine p_s ?_ GE134.out | refine p_s ?_ GE139.out) | exact HB.out)))); (case aL => have := LMc29.out; omega); intro v143 w36 ho hb hg hat; rw [← Ny142.out] at ho; have n0_ := Aside0.mk (Kd.R_over' (by (with_reducible repeat (first | apply Kd.R_alloc | apply Kd.R_drewN | apply Kd.R_drew)); exact HO_140003.out) (Kd.R_typed (by (with_reducible repeat (first | apply Kd.R_alloc | apply Kd.R_drewN | apply Kd.R_drew)); exact HO_140004.out)) (by decide) hg); have n1_ := Aside0.mk (blk_grown (g := gb133) (o := .cells #[.string a0_0, .int .i64 a0_1, .int .i64 a0_2, .int .i64 a0_3, .int .i64 a0_4, .slice A0_5 l0_5.length c0_5, .slice A0_6 l0_6.length c0_6] 44 (0, 0)) (by (with_reducible repeat (first | refine q_n ?_ _ | refine q_d ?_ | refine q_a ?_ _)); exact BK133.out) hg (Kd.R_ne HO_140004.out BK133.out (by decide))); have n2_ := Aside0.mk (blk_grown (g := gb134) (o := .cells #[.string x135000_1, .int .i64 x135001_1, .int .i64 x135002_1, .slice none 0 0, .slice none 0 0] 48 (0, 0)) (by (with_reducible repeat (first | refine q_n ?_ _ | refine q_d ?_ | refine q_a ?_ _)); exact BK134.out) hg (Kd.R_ne HO_140004.out BK134.out (by decide))); have n3_ := Aside0.mk (blk_grown (g := gb139) (o := .cells #[.string a0_0, .int .i64 a0_1, .int .i64 a0_2, .slice Ao15 t136.length co15, u140004] 48 (0, 0)) (by (with_reducible repeat (first | refine q_n ?_ _ | refine q_d ?_ | refine q_a ?_ _)); exact BK139.out) hg (Kd.R_ne HO_140004.out BK139.out (by decide))); have n4_ := Aside0.mk (hb); have n5_ := Aside0.mk (ho); clear HO_140003; clear BK133; clear BK134; clear BK139; clear HB; clear HO_140004; have HO_140003 := n0_; have BK133 := n1_; have BK134 := n2_; have BK139 := n3_; have HB := n4_; have HO144 := n5_; clear n0_ n1_ n2_ n3_ n4_ n5_; clear ho hb hg hat; obtain ⟨Ao37, co37, eo37⟩ := Kd.R_slice HO144.out; subst eo37; have hcz38_0 : w36.cell? ⟨gb139, 0, none⟩ = some (.string a0_0) := (q_c BK139.out 0).trans rfl; have hcz38_1 : w36.cell? ⟨gb139, 1, none⟩ = some (.int .i64 a0_1) := (q_c BK139.out 1).trans rfl; have hcz38_2 : w36.cell? ⟨gb139, 2, none⟩ = some (.int .i64 a0_2) := (q_c BK139.out 2).trans rfl; have hcz38_3 : w36.cell? ⟨gb139, 3, none⟩ = some (.slice Ao15 t136.length co15) := (q_c BK139.out 3).trans rfl; have hcz38_4 : w36.cell? ⟨gb139, 4, none⟩ = some (u140004) := (q_c BK139.out 4).trans rfl; have hfz38_0 := q_f BK139.out 0; have hfz38_1 := q_f BK139.out 1; have hfz38_2 := q_f BK139.out 2; have hfz38_3 := q_f BK139.out 3; have hfz38_4 := q_f BK139.out 4))
        go_roundg k1
        case measure => have := HK1.out; omega
        case rel => exact ⟨(wrap64 (x6_1 + 1)), (x135000_1), (x135001_1), (x135002_1), (y142), (.slice Ao37 y142.length co37), (by first | rfl | (simp; done) | (simp [*]; done) | (simp [bne]; done) | (simp only [i64_w, i32_w]; done) | (simp [i64_w, i32_w]; done)), H', ⟨by have := HK1.out; omega⟩, ⟨by (with_reducible repeat (first | apply Kd.R_alloc | apply Kd.R_drewN | apply Kd.R_drew)); exact Kd.R_mono (Kd.R_far (p := ⟨gb139, 4, none⟩) (Kd.R_types HO_140003.out BK139.out (by decide)) (fun _ hk => hk.2) (.slice Ao37 y142.length co37)) (fun _ hk => trivial)⟩, ⟨by (with_reducible repeat (first | apply Kd.R_alloc | apply Kd.R_drewN | apply Kd.R_drew)); exact Kd.R_mono (Kd.R_far (p := ⟨gb139, 4, none⟩) (Kd.R_types HO144.out BK139.out (by decide)) (fun _ hk => hk.2) (.slice Ao37 y142.length co37)) (fun _ hk => trivial)⟩, ⟨by (with_reducible repeat (first | refine q_n ?_ _ | refine q_d ?_ | refine q_a ?_ _)); refine blk_far ?_ NB133_139.out _; (with_reducible repeat (first | refine q_n ?_ _ | refine q_d ?_ | refine q_a ?_ _)); exact BK133.out⟩, ⟨by (with_reducible repeat (first | refine q_n ?_ _ | refine q_d ?_ | refine q_a ?_ _)); refine blk_far ?_ NB134_139.out _; (with_reducible repeat (first | refine q_n ?_ _ | refine q_d ?_ | refine q_a ?_ _)); exact BK134.out⟩, ⟨by (with_reducible repeat (first | refine q_n ?_ _ | refine q_d ?_ | refine q_a ?_ _)); refine blk_put (cs := #[.string a0_0, .int .i64 a0_1, .int .i64 a0_2, .slice Ao15 t136.length co15, u140004]) ?_ 4 _ rfl; (with_reducible repeat (first | refine q_n ?_ _ | refine q_d ?_ | refine q_a ?_ _)); exact BK139.out⟩, ⟨by repeat (first | (with_reducible first | exact HB.out | apply p_a | apply p_n | apply p_1 | refine p_s ?_ GE133.out | refine p_s ?_ GE134.out | refine p_s ?_ GE139.out) | exact HB.out)⟩⟩
       ·rw [if_neg c29] at H
        exact absurd H (by simp)
     ·rw [if_neg c23] at H
      have c23b0 : (t141 == 0) = false := b_f c23
      have c23b1 : (t141 != 0) = true := b_t c23
      simp only [Option.some.injEq, Prod.mk.injEq] at H
      obtain ⟨rfl, rfl, rfl, rfl, rfl, rfl⟩ := H
      have hnb39 := NB133_134.out
      have hnc39 := NB134_133.out
      have hnb40 := NB133_139.out
      have hnc40 := NB139_133.out
      have hcz41_0 : wr.cell? ⟨gb133, 0, none⟩ = some (.string a0_0) := (q_c BK133.out 0).trans rfl
      have hcz41_1 : wr.cell? ⟨gb133, 1, none⟩ = some (.int .i64 a0_1) := (q_c BK133.out 1).trans rfl
      have hcz41_2 : wr.cell? ⟨gb133, 2, none⟩ = some (.int .i64 a0_2) := (q_c BK133.out 2).trans rfl
      have hcz41_3 : wr.cell? ⟨gb133, 3, none⟩ = some (.int .i64 a0_3) := (q_c BK133.out 3).trans rfl
      have hcz41_4 : wr.cell? ⟨gb133, 4, none⟩ = some (.int .i64 a0_4) := (q_c BK133.out 4).trans rfl
      have hcz41_5 : wr.cell? ⟨gb133, 5, none⟩ = some (.slice A0_5 l0_5.length c0_5) := (q_c BK133.out 5).trans rfl
      have hcz41_6 : wr.cell? ⟨gb133, 6, none⟩ = some (.slice A0_6 l0_6.length c0_6) := (q_c BK133.out 6).trans rfl
      have hfz41_0 := q_f BK133.out 0
      have hfz41_1 := q_f BK133.out 1
      have hfz41_2 := q_f BK133.out 2
      have hfz41_3 := q_f BK133.out 3
      have hfz41_4 := q_f BK133.out 4
      have hfz41_5 := q_f BK133.out 5
      have hfz41_6 := q_f BK133.out 6
      go_wp2_with (first | ((with_reducible refine gate_callee (f := 39) rfl ?_); refine goesL_ (some 35) rfl rfl Tryd.func39 (by kernel_rfl) rfl #[.agg #[.int .i64 a0_3, .int .i64 a0_4, .slice A0_5 l0_5.length c0_5], .int .i64 x6_1] rfl (by (try simp only [List.map_toArray, List.map_cons, List.map_nil]); first | done | rfl | (simp only [List.length_drop, List.length_take]; rfl)) ?_; (with_reducible refine (rule_Eval.calls (hG := ?sideG) k1 a0_3 a0_4 _ _ l0_5 x6_1 t140 t141 _ ?side1 ?side2 A22.out).mono ?_); (case sideG => repeat (first | exact (Glob.below HGL.out HB.out) | exact HGL.out | (with_reducible refine Glob.alloc ?_ _) | (with_reducible refine Glob.drewN ?_ _) | (with_reducible refine Glob.drew ?_))); (case side1 => repeat (first | exact (Kd.C_below HR0_5.out HB.out) | (with_reducible refine Kd.C_alloc ?_ _) | (with_reducible refine Kd.C_drewN ?_ _) | (with_reducible refine Kd.C_drew ?_))); (case side2 => exact HC0_5.out); rintro e w42 ⟨rfl, hb⟩; refine ⟨_, rfl, ?_⟩; have n0_ := rb_ HO_140003 hb; have n1_ := rb_ HO_140004 hb; have n2_ := bb_ BK133 hb; have n3_ := bb_ BK134 hb; have n4_ := bb_ BK139 hb; have n5_ := Aside0.mk (below_step (by repeat (first | (with_reducible first | exact HB.out | apply p_a | apply p_n | apply p_1 | refine p_s ?_ GE133.out | refine p_s ?_ GE134.out | refine p_s ?_ GE139.out) | exact HB.out)) hb); clear HO_140003; clear HO_140004; clear BK133; clear BK134; clear BK139; clear HB; have HO_140003 := n0_; have HO_140004 := n1_; have BK133 := n2_; have BK134 := n3_; have BK139 := n4_; have HB := n5_; clear n0_ n1_ n2_ n3_ n4_ n5_; (try clear hb); (try clear hb2); (try clear hk); (try clear hi); have hnb43 := NB134_139.out; have hnc43 := NB139_134.out; have hcz44_0 : w42.cell? ⟨gb134, 0, none⟩ = some (.string x135000_1) := (q_c BK134.out 0).trans rfl; have hcz44_1 : w42.cell? ⟨gb134, 1, none⟩ = some (.int .i64 x135001_1) := (q_c BK134.out 1).trans rfl; have hcz44_2 : w42.cell? ⟨gb134, 2, none⟩ = some (.int .i64 x135002_1) := (q_c BK134.out 2).trans rfl; have hcz44_3 : w42.cell? ⟨gb134, 3, none⟩ = some (.slice none 0 0) := (q_c BK134.out 3).trans rfl; have hcz44_4 : w42.cell? ⟨gb134, 4, none⟩ = some (.slice none 0 0) := (q_c BK134.out 4).trans rfl; have hfz44_0 := q_f BK134.out 0; have hfz44_1 := q_f BK134.out 1; have hfz44_2 := q_f BK134.out 2; have hfz44_3 := q_f BK134.out 3; have hfz44_4 := q_f BK134.out 4))
      refine bodyPost_ret (results_ct rfl _ _ gb134 48 #[.string (⟨#[]⟩ : ByteArray), .int .i64 0, .int .i64 0, .slice none 0 0, .slice none 0 0] (0, 0) _ rfl (by (with_reducible repeat (first | refine q_n ?_ _ | refine q_d ?_ | refine q_a ?_ _)); refine blk_put (cs := #[.string (⟨#[]⟩ : ByteArray), .int .i64 0, .int .i64 0, .slice none 0 0, .slice none 0 0]) ?_ 4 _ rfl; (with_reducible repeat (first | refine q_n ?_ _ | refine q_d ?_ | refine q_a ?_ _)); refine blk_put (cs := #[.string (⟨#[]⟩ : ByteArray), .int .i64 0, .int .i64 0, .slice none 0 0, .slice none 0 0]) ?_ 3 _ rfl; (with_reducible repeat (first | refine q_n ?_ _ | refine q_d ?_ | refine q_a ?_ _)); refine blk_put (cs := #[.string (⟨#[]⟩ : ByteArray), .int .i64 0, .int .i64 x135002_1, .slice none 0 0, .slice none 0 0]) ?_ 2 _ rfl; (with_reducible repeat (first | refine q_n ?_ _ | refine q_d ?_ | refine q_a ?_ _)); refine blk_put (cs := #[.string (⟨#[]⟩ : ByteArray), .int .i64 x135001_1, .int .i64 x135002_1, .slice none 0 0, .slice none 0 0]) ?_ 1 _ rfl; (with_reducible repeat (first | refine q_n ?_ _ | refine q_d ?_ | refine q_a ?_ _)); refine blk_put (cs := #[.string x135000_1, .int .i64 x135001_1, .int .i64 x135002_1, .slice none 0 0, .slice none 0 0]) ?_ 0 _ rfl; (with_reducible repeat (first | refine q_n ?_ _ | refine q_d ?_ | refine q_a ?_ _)); exact BK134.out) Tryd.underlying48 rfl (by kernel_rfl)) rfl ?_
      exact ⟨_, _, by first | rfl | (simp [errW_none, errW_some] <;> rfl) | (simp [*, errW_none, errW_some] <;> rfl), by first | exact Kd.R_nil _ _ _ _ _ | exact Kd.N_nil _ _ _ _ _ | exact Kd.V_nil _ _ _ _ _ | exact Kd.Q_nil _ _ _ _ _ | exact Kd.S_nil _ _ _ _ _, by first | exact Kd.R_nil _ _ _ _ _ | exact Kd.N_nil _ _ _ _ _ | exact Kd.V_nil _ _ _ _ _ | exact Kd.Q_nil _ _ _ _ _ | exact Kd.S_nil _ _ _ _ _, by repeat (first | (with_reducible first | exact HB.out | apply p_a | apply p_n | apply p_1 | refine p_s ?_ GE133.out | refine p_s ?_ GE134.out | refine p_s ?_ GE139.out) | exact HB.out)⟩
    ·rw [if_neg c21] at H
     have c21b0 : decide (x6_1 ≤ a0_2) = false := decide_eq_false c21
     clear c21
     simp only [Option.some.injEq, Prod.mk.injEq] at H
     obtain ⟨rfl, rfl, rfl, rfl, rfl, rfl⟩ := H
     have hnb45 := NB133_134.out
     have hnc45 := NB134_133.out
     have hnb46 := NB133_139.out
     have hnc46 := NB139_133.out
     have hcz47_0 : wr.cell? ⟨gb133, 0, none⟩ = some (.string a0_0) := (q_c BK133.out 0).trans rfl
     have hcz47_1 : wr.cell? ⟨gb133, 1, none⟩ = some (.int .i64 a0_1) := (q_c BK133.out 1).trans rfl
     have hcz47_2 : wr.cell? ⟨gb133, 2, none⟩ = some (.int .i64 a0_2) := (q_c BK133.out 2).trans rfl
     have hcz47_3 : wr.cell? ⟨gb133, 3, none⟩ = some (.int .i64 a0_3) := (q_c BK133.out 3).trans rfl
     have hcz47_4 : wr.cell? ⟨gb133, 4, none⟩ = some (.int .i64 a0_4) := (q_c BK133.out 4).trans rfl
     have hcz47_5 : wr.cell? ⟨gb133, 5, none⟩ = some (.slice A0_5 l0_5.length c0_5) := (q_c BK133.out 5).trans rfl
     have hcz47_6 : wr.cell? ⟨gb133, 6, none⟩ = some (.slice A0_6 l0_6.length c0_6) := (q_c BK133.out 6).trans rfl
     have hfz47_0 := q_f BK133.out 0
     have hfz47_1 := q_f BK133.out 1
     have hfz47_2 := q_f BK133.out 2
     have hfz47_3 := q_f BK133.out 3
     have hfz47_4 := q_f BK133.out 4
     have hfz47_5 := q_f BK133.out 5
     have hfz47_6 := q_f BK133.out 6
     have hnb48 := NB139_134.out
     have hnc48 := NB134_139.out
     have hcz49_0 : wr.cell? ⟨gb139, 0, none⟩ = some (.string a0_0) := (q_c BK139.out 0).trans rfl
     have hcz49_1 : wr.cell? ⟨gb139, 1, none⟩ = some (.int .i64 a0_1) := (q_c BK139.out 1).trans rfl
     have hcz49_2 : wr.cell? ⟨gb139, 2, none⟩ = some (.int .i64 a0_2) := (q_c BK139.out 2).trans rfl
     have hcz49_3 : wr.cell? ⟨gb139, 3, none⟩ = some (.slice Ao15 t136.length co15) := (q_c BK139.out 3).trans rfl
     have hcz49_4 : wr.cell? ⟨gb139, 4, none⟩ = some (u140004) := (q_c BK139.out 4).trans rfl
     have hfz49_0 := q_f BK139.out 0
     have hfz49_1 := q_f BK139.out 1
     have hfz49_2 := q_f BK139.out 2
     have hfz49_3 := q_f BK139.out 3
     have hfz49_4 := q_f BK139.out 4
     have hcz50_0 : wr.cell? ⟨gb134, 0, none⟩ = some (.string x135000_1) := (q_c BK134.out 0).trans rfl
     have hcz50_1 : wr.cell? ⟨gb134, 1, none⟩ = some (.int .i64 x135001_1) := (q_c BK134.out 1).trans rfl
     have hcz50_2 : wr.cell? ⟨gb134, 2, none⟩ = some (.int .i64 x135002_1) := (q_c BK134.out 2).trans rfl
     have hcz50_3 : wr.cell? ⟨gb134, 3, none⟩ = some (.slice none 0 0) := (q_c BK134.out 3).trans rfl
     have hcz50_4 : wr.cell? ⟨gb134, 4, none⟩ = some (.slice none 0 0) := (q_c BK134.out 4).trans rfl
     have hfz50_0 := q_f BK134.out 0
     have hfz50_1 := q_f BK134.out 1
     have hfz50_2 := q_f BK134.out 2
     have hfz50_3 := q_f BK134.out 3
     have hfz50_4 := q_f BK134.out 4
     obtain ⟨Ao51, co51, eo51⟩ := Kd.R_slice HO_140004.out
     subst eo51
     go_wp2
     refine bodyPost_ret (results_ct rfl _ _ gb134 48 #[.string a0_0, .int .i64 a0_1, .int .i64 a0_2, .slice Ao15 t136.length co15, .slice Ao51 x140004_1.length co51] (0, 0) _ rfl (by (with_reducible repeat (first | refine q_n ?_ _ | refine q_d ?_ | refine q_a ?_ _)); refine blk_put (cs := #[.string a0_0, .int .i64 a0_1, .int .i64 a0_2, .slice Ao15 t136.length co15, .slice none 0 0]) ?_ 4 _ rfl; (with_reducible repeat (first | refine q_n ?_ _ | refine q_d ?_ | refine q_a ?_ _)); refine blk_put (cs := #[.string a0_0, .int .i64 a0_1, .int .i64 a0_2, .slice none 0 0, .slice none 0 0]) ?_ 3 _ rfl; (with_reducible repeat (first | refine q_n ?_ _ | refine q_d ?_ | refine q_a ?_ _)); refine blk_put (cs := #[.string a0_0, .int .i64 a0_1, .int .i64 x135002_1, .slice none 0 0, .slice none 0 0]) ?_ 2 _ rfl; (with_reducible repeat (first | refine q_n ?_ _ | refine q_d ?_ | refine q_a ?_ _)); refine blk_put (cs := #[.string a0_0, .int .i64 x135001_1, .int .i64 x135002_1, .slice none 0 0, .slice none 0 0]) ?_ 1 _ rfl; (with_reducible repeat (first | refine q_n ?_ _ | refine q_d ?_ | refine q_a ?_ _)); refine blk_put (cs := #[.string x135000_1, .int .i64 x135001_1, .int .i64 x135002_1, .slice none 0 0, .slice none 0 0]) ?_ 0 _ rfl; (with_reducible repeat (first | refine q_n ?_ _ | refine q_d ?_ | refine q_a ?_ _)); exact BK134.out) Tryd.underlying48 rfl (by kernel_rfl)) rfl ?_
     exact ⟨_, _, by first | rfl | (simp [errW_none, errW_some] <;> rfl) | (simp [*, errW_none, errW_some] <;> rfl), by (with_reducible repeat (first | apply Kd.R_alloc | apply Kd.R_drewN | apply Kd.R_drew)); exact Kd.R_mono (Kd.R_far (p := ⟨gb134, 4, none⟩) (Kd.R_far (p := ⟨gb134, 3, none⟩) (Kd.R_far (p := ⟨gb134, 2, none⟩) (Kd.R_far (p := ⟨gb134, 1, none⟩) (Kd.R_far (p := ⟨gb134, 0, none⟩) (Kd.R_types HO_140003.out BK134.out (by decide)) (fun _ hk => hk.2) (.string a0_0)) (fun _ hk => hk.2) (.int .i64 a0_1)) (fun _ hk => hk.2) (.int .i64 a0_2)) (fun _ hk => hk.2) (.slice Ao15 t136.length co15)) (fun _ hk => hk.2) (.slice Ao51 x140004_1.length co51)) (fun _ hk => trivial), by (with_reducible repeat (first | apply Kd.R_alloc | apply Kd.R_drewN | apply Kd.R_drew)); exact Kd.R_mono (Kd.R_far (p := ⟨gb134, 4, none⟩) (Kd.R_far (p := ⟨gb134, 3, none⟩) (Kd.R_far (p := ⟨gb134, 2, none⟩) (Kd.R_far (p := ⟨gb134, 1, none⟩) (Kd.R_far (p := ⟨gb134, 0, none⟩) (Kd.R_types HO_140004.out BK134.out (by decide)) (fun _ hk => hk.2) (.string a0_0)) (fun _ hk => hk.2) (.int .i64 a0_1)) (fun _ hk => hk.2) (.int .i64 a0_2)) (fun _ hk => hk.2) (.slice Ao15 t136.length co15)) (fun _ hk => hk.2) (.slice Ao51 x140004_1.length co51)) (fun _ hk => trivial), by repeat (first | (with_reducible first | exact HB.out | apply p_a | apply p_n | apply p_1 | refine p_s ?_ GE133.out | refine p_s ?_ GE134.out | refine p_s ?_ GE139.out) | exact HB.out)⟩
 ·rw [if_neg c3] at H
  have c3b0 : (t135 == 0) = false := b_f c3
  have c3b1 : (t135 != 0) = true := b_t c3
  simp only [Option.some.injEq, Prod.mk.injEq] at H
  obtain ⟨rfl, rfl, rfl, rfl, rfl, rfl⟩ := H
  go_enter Tryd.func14, Tryd.ntmps14
  go_wp2_with (first | ((with_reducible refine gate_dst (N := 1) rfl ?_); refine box_event ?hg (N := 1) ?hd (cs := #[.string a0_0, .int .i64 a0_1, .int .i64 a0_2, .int .i64 a0_3, .int .i64 a0_4, .slice A0_5 l0_5.length c0_5, .slice A0_6 l0_6.length c0_6]) (t := 44) ?hr ?_; (case hd => rfl); (case hg => rfl); (case hr => first | (go_simp; done) | (go_simp; rfl)); intro gb133 hg w52 hbox hb; have n0_ := Aside0.mk (below_step (by repeat (first | (with_reducible first | exact HB.out | apply p_a | apply p_n | apply p_1) | exact HB.out)) hb); have n1_ := Aside0.mk (hbox); have n2_ := Aside0.mk ((by rw [hg]; exact (below_size (by repeat (first | (with_reducible first | exact HB.out | apply p_a | apply p_n | apply p_1) | exact HB.out))) : w.heap.size ≤ gb133)); have n3_ := n2_; clear HB; have HB := n0_; have BK133 := n1_; have GW133 := n2_; have GE133 := n3_; clear n0_ n1_ n2_ n3_; clear hb hbox hg) | ((with_reducible refine gate_dst (N := 2) rfl ?_); refine box_event ?hg (N := 2) ?hd (cs := #[.string (⟨#[]⟩ : ByteArray), .int .i64 0, .int .i64 0, .slice none 0 0, .slice none 0 0]) (t := 48) ?hr ?_; (case hd => rfl); (case hg => rfl); (case hr => first | (go_simp; done) | (go_simp; rfl)); intro gb134 hg w53 hbox hb; have n0_ := bb_ BK133 hb; have n1_ := Aside0.mk (below_step (by repeat (first | (with_reducible first | exact HB.out | apply p_a | apply p_n | apply p_1 | refine p_s ?_ GE133.out) | exact HB.out)) hb); have n2_ := Aside0.mk (hbox); have n3_ := Aside0.mk ((by rw [hg]; exact (below_size (by repeat (first | (with_reducible first | exact HB.out | apply p_a | apply p_n | apply p_1 | refine p_s ?_ GE133.out) | exact HB.out))) : w.heap.size ≤ gb134)); have n4_ := n3_; have n5_ := bl_ BK133 hg; have n6_ := bg_ BK133 hg; clear BK133; clear HB; have BK133 := n0_; have HB := n1_; have BK134 := n2_; have GW134 := n3_; have GE134 := n4_; have NB133_134 := n5_; have NB134_133 := n6_; clear n0_ n1_ n2_ n3_ n4_ n5_ n6_; clear hb hbox hg; have hnb54 := NB133_134.out; have hnc54 := NB134_133.out; have hcz55_0 : w53.cell? ⟨gb133, 0, none⟩ = some (.string a0_0) := (q_c BK133.out 0).trans rfl; have hcz55_1 : w53.cell? ⟨gb133, 1, none⟩ = some (.int .i64 a0_1) := (q_c BK133.out 1).trans rfl; have hcz55_2 : w53.cell? ⟨gb133, 2, none⟩ = some (.int .i64 a0_2) := (q_c BK133.out 2).trans rfl; have hcz55_3 : w53.cell? ⟨gb133, 3, none⟩ = some (.int .i64 a0_3) := (q_c BK133.out 3).trans rfl; have hcz55_4 : w53.cell? ⟨gb133, 4, none⟩ = some (.int .i64 a0_4) := (q_c BK133.out 4).trans rfl; have hcz55_5 : w53.cell? ⟨gb133, 5, none⟩ = some (.slice A0_5 l0_5.length c0_5) := (q_c BK133.out 5).trans rfl; have hcz55_6 : w53.cell? ⟨gb133, 6, none⟩ = some (.slice A0_6 l0_6.length c0_6) := (q_c BK133.out 6).trans rfl; have hfz55_0 := q_f BK133.out 0; have hfz55_1 := q_f BK133.out 1; have hfz55_2 := q_f BK133.out 2; have hfz55_3 := q_f BK133.out 3; have hfz55_4 := q_f BK133.out 4; have hfz55_5 := q_f BK133.out 5; have hfz55_6 := q_f BK133.out 6) | ((with_reducible refine gate_callee (f := 38) rfl ?_); refine goesL_ (some 10) rfl rfl Tryd.func38 (by kernel_rfl) rfl #[.agg #[.string a0_0, .int .i64 a0_1, .int .i64 a0_2, .int .i64 a0_3, .int .i64 a0_4, .slice A0_5 l0_5.length c0_5, .slice A0_6 l0_6.length c0_6]] rfl (by (try simp only [List.map_toArray, List.map_cons, List.map_nil]); first | done | rfl | (simp only [List.length_drop, List.length_take]; rfl)) ?_; (with_reducible refine (rule_Check.calls (hG := ?sideG) k a0_0 a0_1 a0_2 a0_3 a0_4 _ _ l0_5 _ _ l0_6 t135 _ ?side1 ?side2 ?side3 ?side4 A2.out).mono ?_); (case sideG => repeat (first | exact (Glob.below HGL.out HB.out) | exact HGL.out | (with_reducible refine Glob.alloc ?_ _) | (with_reducible refine Glob.drewN ?_ _) | (with_reducible refine Glob.drew ?_))); (case side1 => repeat (first | exact (Kd.C_below HR0_5.out HB.out) | (with_reducible refine Kd.C_alloc ?_ _) | (with_reducible refine Kd.C_drewN ?_ _) | (with_reducible refine Kd.C_drew ?_))); (case side2 => exact HC0_5.out); (case side3 => repeat (first | exact (Kd.C_below HR0_6.out HB.out) | (with_reducible refine Kd.C_alloc ?_ _) | (with_reducible refine Kd.C_drewN ?_ _) | (with_reducible refine Kd.C_drew ?_))); (case side4 => exact HC0_6.out); rintro e w56 ⟨rfl, hb⟩; refine ⟨_, rfl, ?_⟩; have n0_ := bb_ BK133 hb; have n1_ := bb_ BK134 hb; have n2_ := Aside0.mk (below_step (by repeat (first | (with_reducible first | exact HB.out | apply p_a | apply p_n | apply p_1 | refine p_s ?_ GE133.out | refine p_s ?_ GE134.out) | exact HB.out)) hb); clear BK133; clear BK134; clear HB; have BK133 := n0_; have BK134 := n1_; have HB := n2_; clear n0_ n1_ n2_; (try clear hb); (try clear hb2); (try clear hk); (try clear hi); have hcz57_0 : w56.cell? ⟨gb134, 0, none⟩ = some (.string (⟨#[]⟩ : ByteArray)) := (q_c BK134.out 0).trans rfl; have hcz57_1 : w56.cell? ⟨gb134, 1, none⟩ = some (.int .i64 0) := (q_c BK134.out 1).trans rfl; have hcz57_2 : w56.cell? ⟨gb134, 2, none⟩ = some (.int .i64 0) := (q_c BK134.out 2).trans rfl; have hcz57_3 : w56.cell? ⟨gb134, 3, none⟩ = some (.slice none 0 0) := (q_c BK134.out 3).trans rfl; have hcz57_4 : w56.cell? ⟨gb134, 4, none⟩ = some (.slice none 0 0) := (q_c BK134.out 4).trans rfl; have hfz57_0 := q_f BK134.out 0; have hfz57_1 := q_f BK134.out 1; have hfz57_2 := q_f BK134.out 2; have hfz57_3 := q_f BK134.out 3; have hfz57_4 := q_f BK134.out 4))
  refine bodyPost_ret (results_ct rfl _ _ gb134 48 #[.string (⟨#[]⟩ : ByteArray), .int .i64 0, .int .i64 0, .slice none 0 0, .slice none 0 0] (0, 0) _ rfl (by (with_reducible repeat (first | refine q_n ?_ _ | refine q_d ?_ | refine q_a ?_ _)); refine blk_put (cs := #[.string (⟨#[]⟩ : ByteArray), .int .i64 0, .int .i64 0, .slice none 0 0, .slice none 0 0]) ?_ 4 _ rfl; (with_reducible repeat (first | refine q_n ?_ _ | refine q_d ?_ | refine q_a ?_ _)); refine blk_put (cs := #[.string (⟨#[]⟩ : ByteArray), .int .i64 0, .int .i64 0, .slice none 0 0, .slice none 0 0]) ?_ 3 _ rfl; (with_reducible repeat (first | refine q_n ?_ _ | refine q_d ?_ | refine q_a ?_ _)); refine blk_put (cs := #[.string (⟨#[]⟩ : ByteArray), .int .i64 0, .int .i64 0, .slice none 0 0, .slice none 0 0]) ?_ 2 _ rfl; (with_reducible repeat (first | refine q_n ?_ _ | refine q_d ?_ | refine q_a ?_ _)); refine blk_put (cs := #[.string (⟨#[]⟩ : ByteArray), .int .i64 0, .int .i64 0, .slice none 0 0, .slice none 0 0]) ?_ 1 _ rfl; (with_reducible repeat (first | refine q_n ?_ _ | refine q_d ?_ | refine q_a ?_ _)); refine blk_put (cs := #[.string (⟨#[]⟩ : ByteArray), .int .i64 0, .int .i64 0, .slice none 0 0, .slice none 0 0]) ?_ 0 _ rfl; (with_reducible repeat (first | refine q_n ?_ _ | refine q_d ?_ | refine q_a ?_ _)); exact BK134.out) Tryd.underlying48 rfl (by kernel_rfl)) rfl ?_
  exact ⟨_, _, by first | rfl | (simp [errW_none, errW_some] <;> rfl) | (simp [*, errW_none, errW_some] <;> rfl), by first | exact Kd.R_nil _ _ _ _ _ | exact Kd.N_nil _ _ _ _ _ | exact Kd.V_nil _ _ _ _ _ | exact Kd.Q_nil _ _ _ _ _ | exact Kd.S_nil _ _ _ _ _, by first | exact Kd.R_nil _ _ _ _ _ | exact Kd.N_nil _ _ _ _ _ | exact Kd.V_nil _ _ _ _ _ | exact Kd.Q_nil _ _ _ _ _ | exact Kd.S_nil _ _ _ _ _, by repeat (first | (with_reducible first | exact HB.out | apply p_a | apply p_n | apply p_1 | refine p_s ?_ GE133.out | refine p_s ?_ GE134.out) | exact HB.out)⟩

end Go.Proofs.YtidjaahpabppaaaDoor.QCompileLeastSame
