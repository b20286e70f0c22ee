import Derived.Test.YtidjaahpabppaaaFar
import Derived.Test.YtidjaahpabppaaaQObservedSamex0
import Derived.Test.YtidjaahpabppaaaQObservedSamex3
namespace Go.Proofs.Ytidjaahpabppaaa.QObservedSame
open Go.RowKit Go.Proofs.YtidjaahpabppaaaW.PrintWords Go.Proofs.YtidjaahpabppaaaW.PrintLast Go.Proofs.YtidjaahpabppaaaW.PrintMore Go.Proofs.YtidjaahpabppaaaFar
attribute [local go_sem] max2_int min2_int max_two min_two max_three min_three max_four min_four
set_option linter.unusedVariables false
set_option linter.unusedSimpArgs false

/-! ### lunisolar_parts: function 41 -/
def lunisolar_parts.l0 : Nat → Int → List (S23) → Int → Int → Option (Int)
 | 0, _, _, _, _ => none
 | k + 1, x3, x14, x15, x16 => if x16 < x15 then (if 0 ≤ x16 then (if x16 < (x14.length : Int) then ((whole_Gcd.f k x3 ((rd_T23 x14 x16).f1)).bind fun bt112 => (if bt112.1 = 0 then (none) else (if ((rd_T23 x14 x16).f1) = 0 then (none) else (if (wrap64 (Int.tdiv x3 bt112.1)) > (wrap64 (Int.tdiv (1000000 : Int) ((rd_T23 x14 x16).f1))) then (some 0) else (lunisolar_parts.l0 k (wrap64 ((wrap64 (Int.tdiv x3 bt112.1)) * ((rd_T23 x14 x16).f1))) x14 x15 (wrap64 (x16 + 1))))))) else (none)) else (none)) else (some x3)
def lunisolar_parts.f (k : Nat) (a0_0 : ByteArray) (a0_1 : Int) (a0_2 : Int) (a0_3 : Int) (a0_4 : Int) (a0_5 : Int) (a0_6 : Int) (a0_7 : Int) (a0_8 : Int) (l0_9 : List Int) (l0_10 : List Int) : Option (Int) := (some (([(⟨a0_2, a0_3⟩ : S23), (⟨a0_4, a0_5⟩ : S23), (⟨a0_6, a0_7⟩ : S23)] : List (S23)) : List (S23))).bind fun y107 => (lunisolar_parts.l0 k 1 y107 (y107.length : Int) 0)
theorem lunisolar_parts.mono_l : ∀ k, (∀ y0 y1 y2 y3, LeO (lunisolar_parts.l0 k y0 y1 y2 y3) (lunisolar_parts.l0 (k + 1) y0 y1 y2 y3))
 | 0 => fun _ _ _ _ r h => by simp [lunisolar_parts.l0] at h
 | k + 1 => by
  have ih0 := lunisolar_parts.mono_l k
  ·intro y0 y1 y2 y3
   unfold lunisolar_parts.l0
   repeat' first
   | (with_reducible exact ih0 _ _ _ _)
   | (with_reducible exact whole_Gcd.mono _ _ _)
   | (with_reducible exact LeO.refl _)
   | (with_reducible exact LeO.none _)
   | (with_reducible refine LeO.ite ?_ ?_)
   | (with_reducible refine LeO.bind ?_ (fun _ => ?_))
   | exact ih0 _ _ _ _
   | exact whole_Gcd.mono _ _ _
   | exact LeO.none _
   | refine LeO.ite ?_ ?_
   | refine LeO.bind ?_ (fun _ => ?_)
theorem lunisolar_parts.mono : ∀ a0 a1 a2 a3 a4 a5 a6 a7 a8 a9 a10 k, LeO (lunisolar_parts.f k a0 a1 a2 a3 a4 a5 a6 a7 a8 a9 a10) (lunisolar_parts.f (k + 1) a0 a1 a2 a3 a4 a5 a6 a7 a8 a9 a10) := by
 intro a0 a1 a2 a3 a4 a5 a6 a7 a8 a9 a10 k
 have ih0 := lunisolar_parts.mono_l k
 unfold lunisolar_parts.f
 repeat' first
   | (with_reducible exact ih0 _ _ _ _)
   | (with_reducible exact whole_Gcd.mono _ _ _)
   | (with_reducible exact LeO.refl _)
   | (with_reducible exact LeO.none _)
   | (with_reducible refine LeO.ite ?_ ?_)
   | (with_reducible refine LeO.bind ?_ (fun _ => ?_))
   | exact ih0 _ _ _ _
   | exact whole_Gcd.mono _ _ _
   | exact LeO.none _
   | refine LeO.ite ?_ ?_
   | refine LeO.bind ?_ (fun _ => ?_)
set_option maxHeartbeats 8000000 in
set_option maxRecDepth 100000 in
theorem lunisolar_parts.calls (k : Nat) (a0_0 : ByteArray) (a0_1 : Int) (a0_2 : Int) (a0_3 : Int) (a0_4 : Int) (a0_5 : Int) (a0_6 : Int) (a0_7 : Int) (a0_8 : Int) (A0_9 : Option Addr) (c0_9 : Nat) (l0_9 : List Int) (A0_10 : Option Addr) (c0_10 : Nat) (l0_10 : List Int) (r : Int) (w : World) (hr0_9 : Kd.C (Kd.int .i64) w A0_9 l0_9.length l0_9) (hc0_9 : l0_9.length ≤ c0_9) (hr0_10 : Kd.C (Kd.int .i64) w A0_10 l0_10.length l0_10) (hc0_10 : l0_10.length ≤ c0_10) (h : lunisolar_parts.f k a0_0 a0_1 a0_2 a0_3 a0_4 a0_5 a0_6 a0_7 a0_8 l0_9 l0_10 = some r) :
  Calls Try.prog 41 #[.agg #[.string a0_0, .int .i64 a0_1, .int .i64 a0_2, .int .i64 a0_3, .int .i64 a0_4, .int .i64 a0_5, .int .i64 a0_6, .int .i64 a0_7, .int .i64 a0_8, .slice A0_9 l0_9.length c0_9, .slice A0_10 l0_10.length c0_10]] w fun e w' => e = .returned (.int .i64 r) ∧ Below w.heap.size w w' := by
 have hu26 := Try.underlying26
 have hu23 := Try.underlying23
 have HR0_9 := Aside0.mk hr0_9
 have HC0_9 := Aside0.mk hc0_9
 clear hr0_9 hc0_9
 have HR0_10 := Aside0.mk hr0_10
 have HC0_10 := Aside0.mk hc0_10
 clear hr0_10 hc0_10
 have HB := Aside0.mk (Below.refl w.heap.size w)
 have H : ((some (([(⟨a0_2, a0_3⟩ : S23), (⟨a0_4, a0_5⟩ : S23), (⟨a0_6, a0_7⟩ : S23)] : List (S23)) : List (S23))).bind fun y107 => (lunisolar_parts.l0 k 1 y107 (y107.length : Int) 0)) = some r := h
 clear h
 obtain ⟨y107, hy107⟩ : ∃ y_ : List (S23), y_ = (([(⟨a0_2, a0_3⟩ : S23), (⟨a0_4, a0_5⟩ : S23), (⟨a0_6, a0_7⟩ : S23)] : List (S23))) := ⟨_, rfl⟩
 replace H : (lunisolar_parts.l0 k 1 y107 (y107.length : Int) 0) = some r := by first | (rw [hy107]; with_reducible exact H) | (have H2_ := (Option.bind_some _ _).symm.trans H; rw [hy107]; with_reducible exact H2_) | (have H2_ := (Option.bind_some _ _).symm.trans H; with_reducible exact H2_) | with_reducible exact H | (rw [hy107]; exact H) | exact H
 have Ny107 := Aside0.mk hy107
 clear hy107
 have H' := Aside0.mk H
 clear H
 go_enter Try.func41, Try.ntmps41
 go_wp2_with (first | ((with_reducible refine gate_dst (N := 1) rfl ?_); refine box_event ?hg (N := 1) ?hd (cs := #[.string a0_0, .int .i64 a0_1, .int .i64 a0_2, .int .i64 a0_3, .int .i64 a0_4, .int .i64 a0_5, .int .i64 a0_6, .int .i64 a0_7, .int .i64 a0_8, .slice A0_9 l0_9.length c0_9, .slice A0_10 l0_10.length c0_10]) (t := 26) ?hr ?_; (case hd => rfl); (case hg => rfl); (case hr => first | (go_simp; done) | (go_simp; rfl)); intro gb106 hg w2 hbox hb; have n0_ := Aside0.mk (below_step (by repeat (first | (with_reducible first | exact HB.out | apply p_a | apply p_n | apply p_1) | exact HB.out)) hb); have n1_ := Aside0.mk (hbox); have n2_ := Aside0.mk ((by rw [hg]; exact (below_size (by repeat (first | (with_reducible first | exact HB.out | apply p_a | apply p_n | apply p_1) | exact HB.out))) : w.heap.size ≤ gb106)); have n3_ := n2_; clear HB; have HB := n0_; have BK106 := n1_; have GW106 := n2_; have GE106 := n3_; clear n0_ n1_ n2_ n3_; clear hb hbox hg; have hcz3_0 : w2.cell? ⟨gb106, 0, none⟩ = some (.string a0_0) := (q_c BK106.out 0).trans rfl; have hcz3_1 : w2.cell? ⟨gb106, 1, none⟩ = some (.int .i64 a0_1) := (q_c BK106.out 1).trans rfl; have hcz3_2 : w2.cell? ⟨gb106, 2, none⟩ = some (.int .i64 a0_2) := (q_c BK106.out 2).trans rfl; have hcz3_3 : w2.cell? ⟨gb106, 3, none⟩ = some (.int .i64 a0_3) := (q_c BK106.out 3).trans rfl; have hcz3_4 : w2.cell? ⟨gb106, 4, none⟩ = some (.int .i64 a0_4) := (q_c BK106.out 4).trans rfl; have hcz3_5 : w2.cell? ⟨gb106, 5, none⟩ = some (.int .i64 a0_5) := (q_c BK106.out 5).trans rfl; have hcz3_6 : w2.cell? ⟨gb106, 6, none⟩ = some (.int .i64 a0_6) := (q_c BK106.out 6).trans rfl; have hcz3_7 : w2.cell? ⟨gb106, 7, none⟩ = some (.int .i64 a0_7) := (q_c BK106.out 7).trans rfl; have hcz3_8 : w2.cell? ⟨gb106, 8, none⟩ = some (.int .i64 a0_8) := (q_c BK106.out 8).trans rfl; have hcz3_9 : w2.cell? ⟨gb106, 9, none⟩ = some (.slice A0_9 l0_9.length c0_9) := (q_c BK106.out 9).trans rfl; have hcz3_10 : w2.cell? ⟨gb106, 10, none⟩ = some (.slice A0_10 l0_10.length c0_10) := (q_c BK106.out 10).trans rfl; have hfz3_0 := q_f BK106.out 0; have hfz3_1 := q_f BK106.out 1; have hfz3_2 := q_f BK106.out 2; have hfz3_3 := q_f BK106.out 3; have hfz3_4 := q_f BK106.out 4; have hfz3_5 := q_f BK106.out 5; have hfz3_6 := q_f BK106.out 6; have hfz3_7 := q_f BK106.out 7; have hfz3_8 := q_f BK106.out 8; have hfz3_9 := q_f BK106.out 9; have hfz3_10 := q_f BK106.out 10) | ((with_reducible refine gate_dst (N := 14) rfl ?_); refine Kd.R_lit k23 _ 23 ?hg (N := 14) ?hd (xs := ([(⟨a0_2, a0_3⟩ : S23), (⟨a0_4, a0_5⟩ : S23), (⟨a0_6, a0_7⟩ : S23)] : List (S23))) (inner := [.int .i64 a0_2, .int .i64 a0_3, .int .i64 a0_4, .int .i64 a0_5, .int .i64 a0_6, .int .i64 a0_7]) (ok := fun _ => True) (okp := fun _ => True) ?hr ?hp (fun _ hk => hk) trivial (Below.refl _ _) (Nat.le_refl _) (by simp) ?_; (case hd => rfl); (case hg => rfl); (case hr => first | (go_simp; done) | (go_simp; rfl)); (case hp => exact (Reps.c2 (show Kd.M k23 _ _ _ (⟨a0_2, a0_3⟩ : S23) [.int .i64 a0_2, .int .i64 a0_3] from (k23_mkM _ _ _ (⟨a0_2, a0_3⟩ : S23) )) (Reps.c2 (show Kd.M k23 _ _ _ (⟨a0_4, a0_5⟩ : S23) [.int .i64 a0_4, .int .i64 a0_5] from (k23_mkM _ _ _ (⟨a0_4, a0_5⟩ : S23) )) (Reps.c2 (show Kd.M k23 _ _ _ (⟨a0_6, a0_7⟩ : S23) [.int .i64 a0_6, .int .i64 a0_7] from (k23_mkM _ _ _ (⟨a0_6, a0_7⟩ : S23) )) (Reps.none _ _))))); intro v108 w4 ho5 hb hg_ hnew_; clear hg_ hnew_; (first | rw [← Ny107.out] at ho5 | (simp only [Int.reduceToNat] at ho5; rw [← Ny107.out] at ho5)); have n0_ := Aside0.mk (Kd.R_lower ho5 (below_size (by repeat (first | (with_reducible first | exact HB.out | apply p_a | apply p_n | apply p_1 | refine p_s ?_ GE106.out) | exact HB.out)))); have n1_ := bb_ BK106 hb; have n2_ := Aside0.mk (below_step (by repeat (first | (with_reducible first | exact HB.out | apply p_a | apply p_n | apply p_1 | refine p_s ?_ GE106.out) | exact HB.out)) hb); clear BK106; clear HB; have HO109 := n0_; have BK106 := n1_; have HB := n2_; clear n0_ n1_ n2_; clear hb ho5; obtain ⟨Ao6, co6, eo6⟩ := Kd.R_slice HO109.out; subst eo6))
 repeat (go_quiet (first | ((with_reducible refine gate_dst (N := 1) rfl ?_); refine box_event ?hg (N := 1) ?hd (cs := #[.string a0_0, .int .i64 a0_1, .int .i64 a0_2, .int .i64 a0_3, .int .i64 a0_4, .int .i64 a0_5, .int .i64 a0_6, .int .i64 a0_7, .int .i64 a0_8, .slice A0_9 l0_9.length c0_9, .slice A0_10 l0_10.length c0_10]) (t := 26) ?hr ?_; (case hd => rfl); (case hg => rfl); (case hr => first | (go_simp; done) | (go_simp; rfl)); intro gb106 hg w2 hbox hb; have n0_ := Aside0.mk (below_step (by repeat (first | (with_reducible first | exact HB.out | apply p_a | apply p_n | apply p_1) | exact HB.out)) hb); have n1_ := Aside0.mk (hbox); have n2_ := Aside0.mk ((by rw [hg]; exact (below_size (by repeat (first | (with_reducible first | exact HB.out | apply p_a | apply p_n | apply p_1) | exact HB.out))) : w.heap.size ≤ gb106)); have n3_ := n2_; clear HB; have HB := n0_; have BK106 := n1_; have GW106 := n2_; have GE106 := n3_; clear n0_ n1_ n2_ n3_; clear hb hbox hg; have hcz3_0 : w2.cell? ⟨gb106, 0, none⟩ = some (.string a0_0) := (q_c BK106.out 0).trans rfl; have hcz3_1 : w2.cell? ⟨gb106, 1, none⟩ = some (.int .i64 a0_1) := (q_c BK106.out 1).trans rfl; have hcz3_2 : w2.cell? ⟨gb106, 2, none⟩ = some (.int .i64 a0_2) := (q_c BK106.out 2).trans rfl; have hcz3_3 : w2.cell? ⟨gb106, 3, none⟩ = some (.int .i64 a0_3) := (q_c BK106.out 3).trans rfl; have hcz3_4 : w2.cell? ⟨gb106, 4, none⟩ = some (.int .i64 a0_4) := (q_c BK106.out 4).trans rfl; have hcz3_5 : w2.cell? ⟨gb106, 5, none⟩ = some (.int .i64 a0_5) := (q_c BK106.out 5).trans rfl; have hcz3_6 : w2.cell? ⟨gb106, 6, none⟩ = some (.int .i64 a0_6) := (q_c BK106.out 6).trans rfl; have hcz3_7 : w2.cell? ⟨gb106, 7, none⟩ = some (.int .i64 a0_7) := (q_c BK106.out 7).trans rfl; have hcz3_8 : w2.cell? ⟨gb106, 8, none⟩ = some (.int .i64 a0_8) := (q_c BK106.out 8).trans rfl; have hcz3_9 : w2.cell? ⟨gb106, 9, none⟩ = some (.slice A0_9 l0_9.length c0_9) := (q_c BK106.out 9).trans rfl; have hcz3_10 : w2.cell? ⟨gb106, 10, none⟩ = some (.slice A0_10 l0_10.length c0_10) := (q_c BK106.out 10).trans rfl; have hfz3_0 := q_f BK106.out 0; have hfz3_1 := q_f BK106.out 1; have hfz3_2 := q_f BK106.out 2; have hfz3_3 := q_f BK106.out 3; have hfz3_4 := q_f BK106.out 4; have hfz3_5 := q_f BK106.out 5; have hfz3_6 := q_f BK106.out 6; have hfz3_7 := q_f BK106.out 7; have hfz3_8 := q_f BK106.out 8; have hfz3_9 := q_f BK106.out 9; have hfz3_10 := q_f BK106.out 10) | ((with_reducible refine gate_dst (N := 14) rfl ?_); refine Kd.R_lit k23 _ 23 ?hg (N := 14) ?hd (xs := ([(⟨a0_2, a0_3⟩ : S23), (⟨a0_4, a0_5⟩ : S23), (⟨a0_6, a0_7⟩ : S23)] : List (S23))) (inner := [.int .i64 a0_2, .int .i64 a0_3, .int .i64 a0_4, .int .i64 a0_5, .int .i64 a0_6, .int .i64 a0_7]) (ok := fun _ => True) (okp := fun _ => True) ?hr ?hp (fun _ hk => hk) trivial (Below.refl _ _) (Nat.le_refl _) (by simp) ?_; (case hd => rfl); (case hg => rfl); (case hr => first | (go_simp; done) | (go_simp; rfl)); (case hp => exact (Reps.c2 (show Kd.M k23 _ _ _ (⟨a0_2, a0_3⟩ : S23) [.int .i64 a0_2, .int .i64 a0_3] from (k23_mkM _ _ _ (⟨a0_2, a0_3⟩ : S23) )) (Reps.c2 (show Kd.M k23 _ _ _ (⟨a0_4, a0_5⟩ : S23) [.int .i64 a0_4, .int .i64 a0_5] from (k23_mkM _ _ _ (⟨a0_4, a0_5⟩ : S23) )) (Reps.c2 (show Kd.M k23 _ _ _ (⟨a0_6, a0_7⟩ : S23) [.int .i64 a0_6, .int .i64 a0_7] from (k23_mkM _ _ _ (⟨a0_6, a0_7⟩ : S23) )) (Reps.none _ _))))); intro v108 w4 ho5 hb hg_ hnew_; clear hg_ hnew_; (first | rw [← Ny107.out] at ho5 | (simp only [Int.reduceToNat] at ho5; rw [← Ny107.out] at ho5)); have n0_ := Aside0.mk (Kd.R_lower ho5 (below_size (by repeat (first | (with_reducible first | exact HB.out | apply p_a | apply p_n | apply p_1 | refine p_s ?_ GE106.out) | exact HB.out)))); have n1_ := bb_ BK106 hb; have n2_ := Aside0.mk (below_step (by repeat (first | (with_reducible first | exact HB.out | apply p_a | apply p_n | apply p_1 | refine p_s ?_ GE106.out) | exact HB.out)) hb); clear BK106; clear HB; have HO109 := n0_; have BK106 := n1_; have HB := n2_; clear n0_ n1_ n2_; clear hb ho5; obtain ⟨Ao6, co6, eo6⟩ := Kd.R_slice HO109.out; subst eo6)); try go_wp2_with (first | ((with_reducible refine gate_dst (N := 1) rfl ?_); refine box_event ?hg (N := 1) ?hd (cs := #[.string a0_0, .int .i64 a0_1, .int .i64 a0_2, .int .i64 a0_3, .int .i64 a0_4, .int .i64 a0_5, .int .i64 a0_6, .int .i64 a0_7, .int .i64 a0_8, .slice A0_9 l0_9.length c0_9, .slice A0_10 l0_10.length c0_10]) (t := 26) ?hr ?_; (case hd => rfl); (case hg => rfl); (case hr => first | (go_simp; done) | (go_simp; rfl)); intro gb106 hg w2 hbox hb; have n0_ := Aside0.mk (below_step (by repeat (first | (with_reducible first | exact HB.out | apply p_a | apply p_n | apply p_1) | exact HB.out)) hb); have n1_ := Aside0.mk (hbox); have n2_ := Aside0.mk ((by rw [hg]; exact (below_size (by repeat (first | (with_reducible first | exact HB.out | apply p_a | apply p_n | apply p_1) | exact HB.out))) : w.heap.size ≤ gb106)); have n3_ := n2_; clear HB; have HB := n0_; have BK106 := n1_; have GW106 := n2_; have GE106 := n3_; clear n0_ n1_ n2_ n3_; clear hb hbox hg; have hcz3_0 : w2.cell? ⟨gb106, 0, none⟩ = some (.string a0_0) := (q_c BK106.out 0).trans rfl; have hcz3_1 : w2.cell? ⟨gb106, 1, none⟩ = some (.int .i64 a0_1) := (q_c BK106.out 1).trans rfl; have hcz3_2 : w2.cell? ⟨gb106, 2, none⟩ = some (.int .i64 a0_2) := (q_c BK106.out 2).trans rfl; have hcz3_3 : w2.cell? ⟨gb106, 3, none⟩ = some (.int .i64 a0_3) := (q_c BK106.out 3).trans rfl; have hcz3_4 : w2.cell? ⟨gb106, 4, none⟩ = some (.int .i64 a0_4) := (q_c BK106.out 4).trans rfl; have hcz3_5 : w2.cell? ⟨gb106, 5, none⟩ = some (.int .i64 a0_5) := (q_c BK106.out 5).trans rfl; have hcz3_6 : w2.cell? ⟨gb106, 6, none⟩ = some (.int .i64 a0_6) := (q_c BK106.out 6).trans rfl; have hcz3_7 : w2.cell? ⟨gb106, 7, none⟩ = some (.int .i64 a0_7) := (q_c BK106.out 7).trans rfl; have hcz3_8 : w2.cell? ⟨gb106, 8, none⟩ = some (.int .i64 a0_8) := (q_c BK106.out 8).trans rfl; have hcz3_9 : w2.cell? ⟨gb106, 9, none⟩ = some (.slice A0_9 l0_9.length c0_9) := (q_c BK106.out 9).trans rfl; have hcz3_10 : w2.cell? ⟨gb106, 10, none⟩ = some (.slice A0_10 l0_10.length c0_10) := (q_c BK106.out 10).trans rfl; have hfz3_0 := q_f BK106.out 0; have hfz3_1 := q_f BK106.out 1; have hfz3_2 := q_f BK106.out 2; have hfz3_3 := q_f BK106.out 3; have hfz3_4 := q_f BK106.out 4; have hfz3_5 := q_f BK106.out 5; have hfz3_6 := q_f BK106.out 6; have hfz3_7 := q_f BK106.out 7; have hfz3_8 := q_f BK106.out 8; have hfz3_9 := q_f BK106.out 9; have hfz3_10 := q_f BK106.out 10) | ((with_reducible refine gate_dst (N := 14) rfl ?_); refine Kd.R_lit k23 _ 23 ?hg (N := 14) ?hd (xs := ([(⟨a0_2, a0_3⟩ : S23), (⟨a0_4, a0_5⟩ : S23), (⟨a0_6, a0_7⟩ : S23)] : List (S23))) (inner := [.int .i64 a0_2, .int .i64 a0_3, .int .i64 a0_4, .int .i64 a0_5, .int .i64 a0_6, .int .i64 a0_7]) (ok := fun _ => True) (okp := fun _ => True) ?hr ?hp (fun _ hk => hk) trivial (Below.refl _ _) (Nat.le_refl _) (by simp) ?_; (case hd => rfl); (case hg => rfl); (case hr => first | (go_simp; done) | (go_simp; rfl)); (case hp => exact (Reps.c2 (show Kd.M k23 _ _ _ (⟨a0_2, a0_3⟩ : S23) [.int .i64 a0_2, .int .i64 a0_3] from (k23_mkM _ _ _ (⟨a0_2, a0_3⟩ : S23) )) (Reps.c2 (show Kd.M k23 _ _ _ (⟨a0_4, a0_5⟩ : S23) [.int .i64 a0_4, .int .i64 a0_5] from (k23_mkM _ _ _ (⟨a0_4, a0_5⟩ : S23) )) (Reps.c2 (show Kd.M k23 _ _ _ (⟨a0_6, a0_7⟩ : S23) [.int .i64 a0_6, .int .i64 a0_7] from (k23_mkM _ _ _ (⟨a0_6, a0_7⟩ : S23) )) (Reps.none _ _))))); intro v108 w4 ho5 hb hg_ hnew_; clear hg_ hnew_; (first | rw [← Ny107.out] at ho5 | (simp only [Int.reduceToNat] at ho5; rw [← Ny107.out] at ho5)); have n0_ := Aside0.mk (Kd.R_lower ho5 (below_size (by repeat (first | (with_reducible first | exact HB.out | apply p_a | apply p_n | apply p_1 | refine p_s ?_ GE106.out) | exact HB.out)))); have n1_ := bb_ BK106 hb; have n2_ := Aside0.mk (below_step (by repeat (first | (with_reducible first | exact HB.out | apply p_a | apply p_n | apply p_1 | refine p_s ?_ GE106.out) | exact HB.out)) hb); clear BK106; clear HB; have HO109 := n0_; have BK106 := n1_; have HB := n2_; clear n0_ n1_ n2_; clear hb ho5; obtain ⟨Ao6, co6, eo6⟩ := Kd.R_slice HO109.out; subst eo6)))
 go_loopg [3, 16] k (fun kq v3 v16 w' => ∃ (x3_1 : Int) (x16_1 : Int), v3 = .int .i64 x3_1 ∧ v16 = .int .i64 x16_1 ∧ Aside0 (lunisolar_parts.l0 kq x3_1 y107 (y107.length : Int) x16_1 = some r) ∧ Aside0 (kq ≤ k) ∧ Aside0 (Kd.R k23 23 w' w.heap.size (fun _ => True) (.slice Ao6 y107.length co6) y107) ∧ Aside0 (w'.heap[gb106]? = some (.cells #[.string a0_0, .int .i64 a0_1, .int .i64 a0_2, .int .i64 a0_3, .int .i64 a0_4, .int .i64 a0_5, .int .i64 a0_6, .int .i64 a0_7, .int .i64 a0_8, (.slice A0_9 l0_9.length c0_9), (.slice A0_10 l0_10.length c0_10)] 26 (0, 0))) ∧ Aside0 (Below w.heap.size w w'))
 case atStart => exact ⟨(1), (0), (by first | rfl | (simp; done) | (simp [*]; done) | (simp [bne]; done) | (simp [i64_w, i32_w]; done)), (by first | rfl | (simp; done) | (simp [*]; done) | (simp [bne]; done) | (simp [i64_w, i32_w]; done)), H', ⟨Nat.le_refl _⟩, ⟨by (with_reducible repeat (first | apply Kd.R_alloc | apply Kd.R_drewN | apply Kd.R_drew)); exact HO109.out⟩, ⟨by (with_reducible repeat (first | refine q_n ?_ _ | refine q_d ?_ | refine q_a ?_ _)); exact BK106.out⟩, ⟨by repeat (first | (with_reducible first | exact HB.out | apply p_a | apply p_n | apply p_1 | refine p_s ?_ GE106.out) | exact HB.out)⟩⟩
 case round =>
  clear H'
  try clear c2
  try clear p2
  try clear c4
  try clear hcz3_0
  try clear hcz3_1
  try clear hcz3_10
  try clear hcz3_2
  try clear hcz3_3
  try clear hcz3_4
  try clear hcz3_5
  try clear hcz3_6
  try clear hcz3_7
  try clear hcz3_8
  try clear hcz3_9
  try clear hfz3_0
  try clear hfz3_1
  try clear hfz3_10
  try clear hfz3_2
  try clear hfz3_3
  try clear hfz3_4
  try clear hfz3_5
  try clear hfz3_6
  try clear hfz3_7
  try clear hfz3_8
  try clear hfz3_9
  obtain ⟨x3_1, x16_1, rfl, rfl, HA, HK1, HO_14, BK106, HB⟩ := hrel
  cases gk with
  | zero => exact absurd HA.out (by simp [lunisolar_parts.l0])
  | succ k1 =>
   have H := HA.out
   clear HA
   simp only [lunisolar_parts.l0] at H
   by_cases c7 : x16_1 < (y107.length : Int)
   ·rw [if_pos c7] at H
    have c7b0 : decide (x16_1 < (y107.length : Int)) = true := decide_eq_true c7
    clear c7
    by_cases c8 : 0 ≤ x16_1
    ·rw [if_pos c8] at H
     have c8b0 : decide (0 ≤ x16_1) = true := decide_eq_true c8
     clear c8
     by_cases c9 : x16_1 < (y107.length : Int)
     ·rw [if_pos c9] at H
      have c9b0 : decide (x16_1 < (y107.length : Int)) = true := decide_eq_true c9
      clear c9
      replace H := o_s H
      obtain ⟨⟨t112, t113⟩, A100, H⟩ := H
      replace H : (if t112 = 0 then (none) else (if ((rd_T23 y107 x16_1).f1) = 0 then (none) else (if (wrap64 (Int.tdiv x3_1 t112)) > (wrap64 (Int.tdiv (1000000 : Int) ((rd_T23 y107 x16_1).f1))) then (some 0) else (lunisolar_parts.l0 k1 (wrap64 ((wrap64 (Int.tdiv x3_1 t112)) * ((rd_T23 y107 x16_1).f1))) y107 (y107.length : Int) (wrap64 (x16_1 + 1)))))) = some r := H
      have A10 := Aside0.mk A100
      clear A100
      by_cases c11 : t112 = 0
      ·rw [if_pos c11] at H
       exact absurd H (by simp)
      ·rw [if_neg c11] at H
       have c11b0 : (t112 == 0) = false := b_f c11
       have c11b1 : (t112 != 0) = true := b_t c11
       by_cases c12 : ((rd_T23 y107 x16_1).f1) = 0
       ·rw [if_pos c12] at H
        exact absurd H (by simp)
       ·rw [if_neg c12] at H
        have c12b0 : (((rd_T23 y107 x16_1).f1) == 0) = false := b_f c12
        have c12b1 : (((rd_T23 y107 x16_1).f1) != 0) = true := b_t c12
        by_cases c13 : (wrap64 (Int.tdiv x3_1 t112)) > (wrap64 (Int.tdiv (1000000 : Int) ((rd_T23 y107 x16_1).f1)))
        ·rw [if_pos c13] at H
         have c13b0 : decide ((wrap64 (Int.tdiv (1000000 : Int) ((rd_T23 y107 x16_1).f1))) < (wrap64 (Int.tdiv x3_1 t112))) = true := decide_eq_true c13
         clear c13
         obtain rfl := Option.some.inj H
         have p110 : 0 ≤ (x16_1 : Int) := of_decide_eq_true (by first | (with_reducible assumption) | assumption)
         have q110 : x16_1 < (y107.length : Int) := of_decide_eq_true (by first | (with_reducible assumption) | assumption)
         obtain ⟨ad110, e110, hx110_0, hx110_1⟩ := at_T23 (Kd.R_reads' HO_14.out).2.2 x16_1 p110 q110
         cases e110
         replace p110 := eq_true p110
         replace q110 := eq_true q110
         go_wp2_with (first | ((with_reducible refine gate_dst (N := 5) rfl ?_); refine box_event ?hg (N := 5) ?hd (cs := #[.int .i64 0, .int .i64 0]) (t := 23) ?hr ?_; (case hd => rfl); (case hg => rfl); (case hr => first | (go_simp; done) | (go_simp; rfl)); intro gb111 hg w14 hbox hb; have n0_ := Aside0.mk (Kd.R_below (Kd.R_elderB (by (with_reducible repeat (first | apply Kd.R_alloc | apply Kd.R_drewN | apply Kd.R_drew)); exact HO_14.out) gb111 (Nat.le_of_eq hg.symm)) hb); have n1_ := bb_ BK106 hb; have n2_ := Aside0.mk (below_step (by repeat (first | (with_reducible first | exact HB.out | apply p_a | apply p_n | apply p_1 | refine p_s ?_ GE106.out) | exact HB.out)) hb); have n3_ := Aside0.mk (hbox); have n4_ := Aside0.mk ((by rw [hg]; exact (below_size (by repeat (first | (with_reducible first | exact HB.out | apply p_a | apply p_n | apply p_1 | refine p_s ?_ GE106.out) | exact HB.out))) : w.heap.size ≤ gb111)); have n5_ := n4_; have n6_ := bl_ BK106 hg; have n7_ := bg_ BK106 hg; clear HO_14; clear BK106; clear HB; have HO_14 := n0_; have BK106 := n1_; have HB := n2_; have BK111 := n3_; have GW111 := n4_; have GE111 := n5_; have NB106_111 := n6_; have NB111_106 := n7_; clear n0_ n1_ n2_ n3_ n4_ n5_ n6_ n7_; clear hb hbox hg; have hnb15 := NB111_106.out; have hnc15 := NB106_111.out; have hcz16_0 : w14.cell? ⟨gb111, 0, none⟩ = some (.int .i64 0) := (q_c BK111.out 0).trans rfl; have hcz16_1 : w14.cell? ⟨gb111, 1, none⟩ = some (.int .i64 0) := (q_c BK111.out 1).trans rfl; have hfz16_0 := q_f BK111.out 0; have hfz16_1 := q_f BK111.out 1) | (go_at_call 69; (with_reducible refine (whole_Gcd.calls k1 x3_1 ((rd_T23 y107 x16_1).f1) t112 t113 _ A10.out).mono ?_); rintro e w' ⟨rfl, ⟨nd, rfl⟩⟩; (try first | exact ⟨rfl, _, World.drewN_drewN _ _ _⟩ | exact ⟨rfl, _, Eq.trans (World.drewN_drewN _ _ _) (congrArg (World.drewN _) (Nat.add_assoc _ _ _))⟩)))
         repeat (go_quiet (first | ((with_reducible refine gate_dst (N := 5) rfl ?_); refine box_event ?hg (N := 5) ?hd (cs := #[.int .i64 0, .int .i64 0]) (t := 23) ?hr ?_; (case hd => rfl); (case hg => rfl); (case hr => first | (go_simp; done) | (go_simp; rfl)); intro gb111 hg w14 hbox hb; have n0_ := Aside0.mk (Kd.R_below (Kd.R_elderB (by (with_reducible repeat (first | apply Kd.R_alloc | apply Kd.R_drewN | apply Kd.R_drew)); exact HO_14.out) gb111 (Nat.le_of_eq hg.symm)) hb); have n1_ := bb_ BK106 hb; have n2_ := Aside0.mk (below_step (by repeat (first | (with_reducible first | exact HB.out | apply p_a | apply p_n | apply p_1 | refine p_s ?_ GE106.out) | exact HB.out)) hb); have n3_ := Aside0.mk (hbox); have n4_ := Aside0.mk ((by rw [hg]; exact (below_size (by repeat (first | (with_reducible first | exact HB.out | apply p_a | apply p_n | apply p_1 | refine p_s ?_ GE106.out) | exact HB.out))) : w.heap.size ≤ gb111)); have n5_ := n4_; have n6_ := bl_ BK106 hg; have n7_ := bg_ BK106 hg; clear HO_14; clear BK106; clear HB; have HO_14 := n0_; have BK106 := n1_; have HB := n2_; have BK111 := n3_; have GW111 := n4_; have GE111 := n5_; have NB106_111 := n6_; have NB111_106 := n7_; clear n0_ n1_ n2_ n3_ n4_ n5_ n6_ n7_; clear hb hbox hg; have hnb15 := NB111_106.out; have hnc15 := NB106_111.out; have hcz16_0 : w14.cell? ⟨gb111, 0, none⟩ = some (.int .i64 0) := (q_c BK111.out 0).trans rfl; have hcz16_1 : w14.cell? ⟨gb111, 1, none⟩ = some (.int .i64 0) := (q_c BK111.out 1).trans rfl; have hfz16_0 := q_f BK111.out 0; have hfz16_1 := q_f BK111.out 1) | (go_at_call 69; (with_reducible refine (whole_Gcd.calls k1 x3_1 ((rd_T23 y107 x16_1).f1) t112 t113 _ A10.out).mono ?_); rintro e w' ⟨rfl, ⟨nd, rfl⟩⟩; (try first | exact ⟨rfl, _, World.drewN_drewN _ _ _⟩ | exact ⟨rfl, _, Eq.trans (World.drewN_drewN _ _ _) (congrArg (World.drewN _) (Nat.add_assoc _ _ _))⟩))); try go_wp2_with (first | ((with_reducible refine gate_dst (N := 5) rfl ?_); refine box_event ?hg (N := 5) ?hd (cs := #[.int .i64 0, .int .i64 0]) (t := 23) ?hr ?_; (case hd => rfl); (case hg => rfl); (case hr => first | (go_simp; done) | (go_simp; rfl)); intro gb111 hg w14 hbox hb; have n0_ := Aside0.mk (Kd.R_below (Kd.R_elderB (by (with_reducible repeat (first | apply Kd.R_alloc | apply Kd.R_drewN | apply Kd.R_drew)); exact HO_14.out) gb111 (Nat.le_of_eq hg.symm)) hb); have n1_ := bb_ BK106 hb; have n2_ := Aside0.mk (below_step (by repeat (first | (with_reducible first | exact HB.out | apply p_a | apply p_n | apply p_1 | refine p_s ?_ GE106.out) | exact HB.out)) hb); have n3_ := Aside0.mk (hbox); have n4_ := Aside0.mk ((by rw [hg]; exact (below_size (by repeat (first | (with_reducible first | exact HB.out | apply p_a | apply p_n | apply p_1 | refine p_s ?_ GE106.out) | exact HB.out))) : w.heap.size ≤ gb111)); have n5_ := n4_; have n6_ := bl_ BK106 hg; have n7_ := bg_ BK106 hg; clear HO_14; clear BK106; clear HB; have HO_14 := n0_; have BK106 := n1_; have HB := n2_; have BK111 := n3_; have GW111 := n4_; have GE111 := n5_; have NB106_111 := n6_; have NB111_106 := n7_; clear n0_ n1_ n2_ n3_ n4_ n5_ n6_ n7_; clear hb hbox hg; have hnb15 := NB111_106.out; have hnc15 := NB106_111.out; have hcz16_0 : w14.cell? ⟨gb111, 0, none⟩ = some (.int .i64 0) := (q_c BK111.out 0).trans rfl; have hcz16_1 : w14.cell? ⟨gb111, 1, none⟩ = some (.int .i64 0) := (q_c BK111.out 1).trans rfl; have hfz16_0 := q_f BK111.out 0; have hfz16_1 := q_f BK111.out 1) | (go_at_call 69; (with_reducible refine (whole_Gcd.calls k1 x3_1 ((rd_T23 y107 x16_1).f1) t112 t113 _ A10.out).mono ?_); rintro e w' ⟨rfl, ⟨nd, rfl⟩⟩; (try first | exact ⟨rfl, _, World.drewN_drewN _ _ _⟩ | exact ⟨rfl, _, Eq.trans (World.drewN_drewN _ _ _) (congrArg (World.drewN _) (Nat.add_assoc _ _ _))⟩))))
         go_ret
         exact ⟨by first | rfl | (simp [errW_none, errW_some] <;> rfl) | (simp [*, errW_none, errW_some] <;> rfl), by repeat (first | (with_reducible first | exact HB.out | apply p_a | apply p_n | apply p_1 | refine p_s ?_ GE106.out | refine p_s ?_ GE111.out) | exact HB.out)⟩
        ·rw [if_neg c13] at H
         have c13b0 : decide ((wrap64 (Int.tdiv (1000000 : Int) ((rd_T23 y107 x16_1).f1))) < (wrap64 (Int.tdiv x3_1 t112))) = false := decide_eq_false c13
         clear c13
         have H' := Aside0.mk H
         clear H
         have p110 : 0 ≤ (x16_1 : Int) := of_decide_eq_true (by first | (with_reducible assumption) | assumption)
         have q110 : x16_1 < (y107.length : Int) := of_decide_eq_true (by first | (with_reducible assumption) | assumption)
         obtain ⟨ad110, e110, hx110_0, hx110_1⟩ := at_T23 (Kd.R_reads' HO_14.out).2.2 x16_1 p110 q110
         cases e110
         replace p110 := eq_true p110
         replace q110 := eq_true q110
         go_wp2_with (first | ((with_reducible refine gate_dst (N := 5) rfl ?_); refine box_event ?hg (N := 5) ?hd (cs := #[.int .i64 0, .int .i64 0]) (t := 23) ?hr ?_; (case hd => rfl); (case hg => rfl); (case hr => first | (go_simp; done) | (go_simp; rfl)); intro gb111 hg w17 hbox hb; have n0_ := Aside0.mk (Kd.R_below (Kd.R_elderB (by (with_reducible repeat (first | apply Kd.R_alloc | apply Kd.R_drewN | apply Kd.R_drew)); exact HO_14.out) gb111 (Nat.le_of_eq hg.symm)) hb); have n1_ := bb_ BK106 hb; have n2_ := Aside0.mk (below_step (by repeat (first | (with_reducible first | exact HB.out | apply p_a | apply p_n | apply p_1 | refine p_s ?_ GE106.out) | exact HB.out)) hb); have n3_ := Aside0.mk (hbox); have n4_ := Aside0.mk ((by rw [hg]; exact (below_size (by repeat (first | (with_reducible first | exact HB.out | apply p_a | apply p_n | apply p_1 | refine p_s ?_ GE106.out) | exact HB.out))) : w.heap.size ≤ gb111)); have n5_ := n4_; have n6_ := bl_ BK106 hg; have n7_ := bg_ BK106 hg; clear HO_14; clear BK106; clear HB; have HO_14 := n0_; have BK106 := n1_; have HB := n2_; have BK111 := n3_; have GW111 := n4_; have GE111 := n5_; have NB106_111 := n6_; have NB111_106 := n7_; clear n0_ n1_ n2_ n3_ n4_ n5_ n6_ n7_; clear hb hbox hg; have hnb18 := NB111_106.out; have hnc18 := NB106_111.out; have hcz19_0 : w17.cell? ⟨gb111, 0, none⟩ = some (.int .i64 0) := (q_c BK111.out 0).trans rfl; have hcz19_1 : w17.cell? ⟨gb111, 1, none⟩ = some (.int .i64 0) := (q_c BK111.out 1).trans rfl; have hfz19_0 := q_f BK111.out 0; have hfz19_1 := q_f BK111.out 1) | (go_at_call 69; (with_reducible refine (whole_Gcd.calls k1 x3_1 ((rd_T23 y107 x16_1).f1) t112 t113 _ A10.out).mono ?_); rintro e w' ⟨rfl, ⟨nd, rfl⟩⟩; (try first | exact ⟨rfl, _, World.drewN_drewN _ _ _⟩ | exact ⟨rfl, _, Eq.trans (World.drewN_drewN _ _ _) (congrArg (World.drewN _) (Nat.add_assoc _ _ _))⟩)))
         repeat (go_quiet (first | ((with_reducible refine gate_dst (N := 5) rfl ?_); refine box_event ?hg (N := 5) ?hd (cs := #[.int .i64 0, .int .i64 0]) (t := 23) ?hr ?_; (case hd => rfl); (case hg => rfl); (case hr => first | (go_simp; done) | (go_simp; rfl)); intro gb111 hg w17 hbox hb; have n0_ := Aside0.mk (Kd.R_below (Kd.R_elderB (by (with_reducible repeat (first | apply Kd.R_alloc | apply Kd.R_drewN | apply Kd.R_drew)); exact HO_14.out) gb111 (Nat.le_of_eq hg.symm)) hb); have n1_ := bb_ BK106 hb; have n2_ := Aside0.mk (below_step (by repeat (first | (with_reducible first | exact HB.out | apply p_a | apply p_n | apply p_1 | refine p_s ?_ GE106.out) | exact HB.out)) hb); have n3_ := Aside0.mk (hbox); have n4_ := Aside0.mk ((by rw [hg]; exact (below_size (by repeat (first | (with_reducible first | exact HB.out | apply p_a | apply p_n | apply p_1 | refine p_s ?_ GE106.out) | exact HB.out))) : w.heap.size ≤ gb111)); have n5_ := n4_; have n6_ := bl_ BK106 hg; have n7_ := bg_ BK106 hg; clear HO_14; clear BK106; clear HB; have HO_14 := n0_; have BK106 := n1_; have HB := n2_; have BK111 := n3_; have GW111 := n4_; have GE111 := n5_; have NB106_111 := n6_; have NB111_106 := n7_; clear n0_ n1_ n2_ n3_ n4_ n5_ n6_ n7_; clear hb hbox hg; have hnb18 := NB111_106.out; have hnc18 := NB106_111.out; have hcz19_0 : w17.cell? ⟨gb111, 0, none⟩ = some (.int .i64 0) := (q_c BK111.out 0).trans rfl; have hcz19_1 : w17.cell? ⟨gb111, 1, none⟩ = some (.int .i64 0) := (q_c BK111.out 1).trans rfl; have hfz19_0 := q_f BK111.out 0; have hfz19_1 := q_f BK111.out 1) | (go_at_call 69; (with_reducible refine (whole_Gcd.calls k1 x3_1 ((rd_T23 y107 x16_1).f1) t112 t113 _ A10.out).mono ?_); rintro e w' ⟨rfl, ⟨nd, rfl⟩⟩; (try first | exact ⟨rfl, _, World.drewN_drewN _ _ _⟩ | exact ⟨rfl, _, Eq.trans (World.drewN_drewN _ _ _) (congrArg (World.drewN _) (Nat.add_assoc _ _ _))⟩))); try go_wp2_with (first | ((with_reducible refine gate_dst (N := 5) rfl ?_); refine box_event ?hg (N := 5) ?hd (cs := #[.int .i64 0, .int .i64 0]) (t := 23) ?hr ?_; (case hd => rfl); (case hg => rfl); (case hr => first | (go_simp; done) | (go_simp; rfl)); intro gb111 hg w17 hbox hb; have n0_ := Aside0.mk (Kd.R_below (Kd.R_elderB (by (with_reducible repeat (first | apply Kd.R_alloc | apply Kd.R_drewN | apply Kd.R_drew)); exact HO_14.out) gb111 (Nat.le_of_eq hg.symm)) hb); have n1_ := bb_ BK106 hb; have n2_ := Aside0.mk (below_step (by repeat (first | (with_reducible first | exact HB.out | apply p_a | apply p_n | apply p_1 | refine p_s ?_ GE106.out) | exact HB.out)) hb); have n3_ := Aside0.mk (hbox); have n4_ := Aside0.mk ((by rw [hg]; exact (below_size (by repeat (first | (with_reducible first | exact HB.out | apply p_a | apply p_n | apply p_1 | refine p_s ?_ GE106.out) | exact HB.out))) : w.heap.size ≤ gb111)); have n5_ := n4_; have n6_ := bl_ BK106 hg; have n7_ := bg_ BK106 hg; clear HO_14; clear BK106; clear HB; have HO_14 := n0_; have BK106 := n1_; have HB := n2_; have BK111 := n3_; have GW111 := n4_; have GE111 := n5_; have NB106_111 := n6_; have NB111_106 := n7_; clear n0_ n1_ n2_ n3_ n4_ n5_ n6_ n7_; clear hb hbox hg; have hnb18 := NB111_106.out; have hnc18 := NB106_111.out; have hcz19_0 : w17.cell? ⟨gb111, 0, none⟩ = some (.int .i64 0) := (q_c BK111.out 0).trans rfl; have hcz19_1 : w17.cell? ⟨gb111, 1, none⟩ = some (.int .i64 0) := (q_c BK111.out 1).trans rfl; have hfz19_0 := q_f BK111.out 0; have hfz19_1 := q_f BK111.out 1) | (go_at_call 69; (with_reducible refine (whole_Gcd.calls k1 x3_1 ((rd_T23 y107 x16_1).f1) t112 t113 _ A10.out).mono ?_); rintro e w' ⟨rfl, ⟨nd, rfl⟩⟩; (try first | exact ⟨rfl, _, World.drewN_drewN _ _ _⟩ | exact ⟨rfl, _, Eq.trans (World.drewN_drewN _ _ _) (congrArg (World.drewN _) (Nat.add_assoc _ _ _))⟩))))
         go_roundg k1
         case measure => have := HK1.out; omega
         case rel => exact ⟨(wrap64 ((wrap64 (Int.tdiv x3_1 t112)) * ((rd_T23 y107 x16_1).f1))), (wrap64 (x16_1 + 1)), (by first | rfl | (simp; done) | (simp [*]; done) | (simp [bne]; done) | (simp [i64_w, i32_w]; done)), (by first | rfl | (simp; done) | (simp [*]; done) | (simp [bne]; done) | (simp [i64_w, i32_w]; done)), H', ⟨by have := HK1.out; omega⟩, ⟨by (with_reducible repeat (first | apply Kd.R_alloc | apply Kd.R_drewN | apply Kd.R_drew)); exact Kd.R_mono (Kd.R_far (p := ⟨gb111, 1, none⟩) (Kd.R_far (p := ⟨gb111, 0, none⟩) (Kd.R_mono HO_14.out (fun k_ hk => (⟨hk, hk.2⟩ : _ ∧ k_ ≠ gb111))) (fun _ hk => hk.2) (.int .i64 ((rd_T23 y107 x16_1).f0))) (fun _ hk => hk.2) (.int .i64 ((rd_T23 y107 x16_1).f1))) (fun _ hk => trivial)⟩, ⟨by (with_reducible repeat (first | refine q_n ?_ _ | refine q_d ?_ | refine q_a ?_ _)); refine blk_far ?_ NB106_111.out _; (with_reducible repeat (first | refine q_n ?_ _ | refine q_d ?_ | refine q_a ?_ _)); refine blk_far ?_ NB106_111.out _; (with_reducible repeat (first | refine q_n ?_ _ | refine q_d ?_ | refine q_a ?_ _)); exact BK106.out⟩, ⟨by repeat (first | (with_reducible first | exact HB.out | apply p_a | apply p_n | apply p_1 | refine p_s ?_ GE106.out | refine p_s ?_ GE111.out) | exact HB.out)⟩⟩
     ·rw [if_neg c9] at H
      exact absurd H (by simp)
    ·rw [if_neg c8] at H
     exact absurd H (by simp)
   ·rw [if_neg c7] at H
    have c7b0 : decide (x16_1 < (y107.length : Int)) = false := decide_eq_false c7
    clear c7
    obtain rfl := Option.some.inj H
    go_wp2
    repeat (go_quiet (fail); try go_wp2)
    go_ret
    exact ⟨by first | rfl | (simp [errW_none, errW_some] <;> rfl) | (simp [*, errW_none, errW_some] <;> rfl), by repeat (first | (with_reducible first | exact HB.out | apply p_a | apply p_n | apply p_1 | refine p_s ?_ GE106.out) | exact HB.out)⟩

end Go.Proofs.Ytidjaahpabppaaa.QObservedSame
