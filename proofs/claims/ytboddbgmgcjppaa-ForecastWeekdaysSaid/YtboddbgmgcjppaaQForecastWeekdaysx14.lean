-- Written by a program of ours over the translation of this seat. Not trusted: Lean checks it.
import Derived.Test.YtboddbgmgcjppaaQForecastWeekdaysx0
import Derived.Test.YtboddbgmgcjppaaQForecastWeekdaysx3
import Derived.Test.YtboddbgmgcjppaaQForecastWeekdaysx4
namespace Go.Proofs.Ytboddbgmgcjppaa.QForecastWeekdays
open Go.RowKit Go.Proofs.YtboddbgmgcjppaaW.PrintWords Go.Proofs.YtboddbgmgcjppaaW.PrintLast Go.Proofs.YtboddbgmgcjppaaW.PrintMore
attribute [local go_sem] max2_int min2_int max_two min_two max_three min_three max_four min_four   -- for this text's walks alone
set_option linter.unusedVariables false
set_option linter.unusedSimpArgs false

/-! ### line_Nth: function 14 -/
mutual
def line_Nth.j0 : Nat → Int → Int → Int → Bool → Option (Int × Int)
 | 0, _, _, _, _ => none
 | k + 1, x0, x1, x2, x25 => if x25 = true then (some (0, 1)) else (if x2 < (-1000000) then (line_Nth.j1 k x0 x1 x2 true) else (line_Nth.j1 k x0 x1 x2 (decide (x2 > 1000000))))
def line_Nth.j1 : Nat → Int → Int → Int → Bool → Option (Int × Int)
 | 0, _, _, _, _ => none
 | k + 1, x0, x1, x2, x31 => if x31 = true then (some (0, 3)) else ((whole_Mod.f (wrap64 (x1 - (wrap64 (x0 - 1)))) 7).bind fun t134 => (if x2 < 0 then ((whole_Mod.f (wrap64 ((wrap64 (x0 - 1)) - x1)) 7).bind fun t135 => ((line_Check.f (wrap64 ((wrap64 (x0 - t135)) + (wrap64 (7 * (wrap64 (x2 + 1))))))).bind fun t136 => (if t136 = 0 then (some (wrap64 ((wrap64 (x0 - t135)) + (wrap64 (7 * (wrap64 (x2 + 1))))), 0)) else (some (0, t136))))) else ((line_Check.f (wrap64 ((wrap64 (x0 + t134)) + (wrap64 (7 * (wrap64 (x2 - 1))))))).bind fun t137 => (if t137 = 0 then (some (wrap64 ((wrap64 (x0 + t134)) + (wrap64 (7 * (wrap64 (x2 - 1))))), 0)) else (some (0, t137))))))
end
def line_Nth.f (k : Nat) (a0 : Int) (a1 : Int) (a2 : Int) : Option (Int × Int) := (line_Check.f a0).bind fun t133 => (if t133 = 0 then (if a1 < 0 then (line_Nth.j0 k a0 a1 a2 true) else (if a1 > 6 then (line_Nth.j0 k a0 a1 a2 true) else (line_Nth.j0 k a0 a1 a2 (a2 == 0)))) else (some (0, t133)))
theorem line_Nth.mono_l : ∀ k, (∀ y0 y1 y2 y3, LeO (line_Nth.j0 k y0 y1 y2 y3) (line_Nth.j0 (k + 1) y0 y1 y2 y3)) ∧ (∀ y0 y1 y2 y3, LeO (line_Nth.j1 k y0 y1 y2 y3) (line_Nth.j1 (k + 1) y0 y1 y2 y3))
 | 0 => ⟨fun _ _ _ _ r h => by simp [line_Nth.j0] at h, fun _ _ _ _ r h => by simp [line_Nth.j1] at h⟩
 | k + 1 => by
  obtain ⟨ih0, ih1⟩ := line_Nth.mono_l k
  refine ⟨?_, ?_⟩
  ·intro y0 y1 y2 y3
   unfold line_Nth.j0
   repeat' first
   | (with_reducible exact ih0 _ _ _ _)
   | (with_reducible exact ih1 _ _ _ _)
   | (with_reducible exact LeO.refl _)
   | (with_reducible exact LeO.none _)
   | (with_reducible refine LeO.ite ?_ ?_)
   | (with_reducible refine LeO.bind ?_ (fun _ => ?_))
   | exact ih0 _ _ _ _
   | exact ih1 _ _ _ _
   | exact LeO.none _
   | refine LeO.ite ?_ ?_
   | refine LeO.bind ?_ (fun _ => ?_)
  ·intro y0 y1 y2 y3
   unfold line_Nth.j1
   repeat' first
   | (with_reducible exact ih0 _ _ _ _)
   | (with_reducible exact ih1 _ _ _ _)
   | (with_reducible exact LeO.refl _)
   | (with_reducible exact LeO.none _)
   | (with_reducible refine LeO.ite ?_ ?_)
   | (with_reducible refine LeO.bind ?_ (fun _ => ?_))
   | exact ih0 _ _ _ _
   | exact ih1 _ _ _ _
   | exact LeO.none _
   | refine LeO.ite ?_ ?_
   | refine LeO.bind ?_ (fun _ => ?_)
theorem line_Nth.mono : ∀ a0 a1 a2 k, LeO (line_Nth.f k a0 a1 a2) (line_Nth.f (k + 1) a0 a1 a2) := by
 intro a0 a1 a2 k
 obtain ⟨ih0, ih1⟩ := line_Nth.mono_l k
 unfold line_Nth.f
 repeat' first
   | (with_reducible exact ih0 _ _ _ _)
   | (with_reducible exact ih1 _ _ _ _)
   | (with_reducible exact LeO.refl _)
   | (with_reducible exact LeO.none _)
   | (with_reducible refine LeO.ite ?_ ?_)
   | (with_reducible refine LeO.bind ?_ (fun _ => ?_))
   | exact ih0 _ _ _ _
   | exact ih1 _ _ _ _
   | exact LeO.none _
   | refine LeO.ite ?_ ?_
   | refine LeO.bind ?_ (fun _ => ?_)
set_option maxHeartbeats 8000000 in
set_option maxRecDepth 100000 in
theorem line_Nth.calls (k : Nat) (a0 : Int) (a1 : Int) (a2 : Int) (r1 : Int) (r2 : Int) (w : World) (h : line_Nth.f k a0 a1 a2 = some (r1, r2)) :
  Calls Try.prog 14 #[.int .i64 a0, .int .i64 a1, .int .i64 a2] w fun e w' => e = .returned (.tuple #[.int .i64 r1, .int .i64 r2]) ∧ Drawn0 w w' := by
 have H : ((line_Check.f a0).bind fun t133 => (if t133 = 0 then (if a1 < 0 then (line_Nth.j0 k a0 a1 a2 true) else (if a1 > 6 then (line_Nth.j0 k a0 a1 a2 true) else (line_Nth.j0 k a0 a1 a2 (a2 == 0)))) else (some (0, t133)))) = some (r1, r2) := h
 clear h
 replace H := Option.bind_eq_some_iff.mp H
 obtain ⟨t133, A40, H⟩ := H
 replace H : (if t133 = 0 then (if a1 < 0 then (line_Nth.j0 k a0 a1 a2 true) else (if a1 > 6 then (line_Nth.j0 k a0 a1 a2 true) else (line_Nth.j0 k a0 a1 a2 (a2 == 0)))) else (some (0, t133))) = some (r1, r2) := H
 have A4 := Aside0.mk A40
 clear A40
 by_cases c5 : t133 = 0
 ·rw [if_pos c5] at H
  have c5b0 : (t133 == 0) = true := beq_iff_eq.mpr c5
  have c5b1 : (t133 != 0) = false := bne_eq_false_iff_eq.mpr c5
  clear c5
  have HC6 := Aside0.mk H
  clear H
  go_enter Try.func14, Try.ntmps14
  go_upto_region 4 with (first | ((with_reducible refine gate_callee (f := 46) rfl ?_); refine goesL_ (some 12) rfl rfl Try.func46 (by kernel_rfl) rfl #[.int .i64 a0] rfl (by (try simp only [List.map_toArray, List.map_cons, List.map_nil]); first | done | rfl | (simp only [List.length_drop, List.length_take]; rfl)) ?_; (with_reducible refine (line_Check.calls a0 t133 _ A4.out).mono ?_); rintro e w' ⟨rfl, ⟨nd, rfl⟩⟩; refine ⟨_, rfl, ?_⟩))
  (try simp only [Act.put, List.setIfInBounds_toArray, List.set_cons_zero, List.set_cons_succ])
  go_cut [25] (fun v25 wc => ∃ (kq : Nat) (x25_5 : Bool), v25 = .bool x25_5 ∧ Aside0 (line_Nth.j0 kq a0 a1 a2 x25_5 = some (r1, r2)) ∧ Aside0 (kq ≤ k) ∧ Drawn0 w wc)
  case first =>
   have H := HC6.out
   clear HC6
   by_cases c7 : a1 < 0
   ·rw [if_pos c7] at H
    have c7b0 : decide (a1 < 0) = true := decide_eq_true c7
    clear c7
    (first | rw [c7b0] | (simp only [i64_w, i32_w]; rw [c7b0]) | skip)
    have H' := Aside0.mk H
    clear H
    go_wp2
    go_meet
    case rel => exact ⟨_, (true), (by first | rfl | (simp; done) | (simp [*]; done) | (simp [bne]; done) | (simp only [i64_w, i32_w]; done) | (simp [i64_w, i32_w]; done)), H', ⟨by first | omega | exact Nat.le_refl _⟩, by repeat (first | exact Drawn0.refl _ | apply Drawn0.step)⟩
   ·rw [if_neg c7] at H
    have c7b0 : decide (a1 < 0) = false := decide_eq_false c7
    clear c7
    (first | rw [c7b0] | (simp only [i64_w, i32_w]; rw [c7b0]) | skip)
    by_cases c8 : a1 > 6
    ·rw [if_pos c8] at H
     have c8b0 : decide (6 < a1) = true := decide_eq_true c8
     clear c8
     have H' := Aside0.mk H
     clear H
     go_wp2
     go_meet
     case rel => exact ⟨_, (true), (by first | rfl | (simp; done) | (simp [*]; done) | (simp [bne]; done) | (simp only [i64_w, i32_w]; done) | (simp [i64_w, i32_w]; done)), H', ⟨by first | omega | exact Nat.le_refl _⟩, by repeat (first | exact Drawn0.refl _ | apply Drawn0.step)⟩
    ·rw [if_neg c8] at H
     have c8b0 : decide (6 < a1) = false := decide_eq_false c8
     clear c8
     have H' := Aside0.mk H
     clear H
     go_wp2
     go_meet
     case rel => exact ⟨_, ((a2 == 0)), (by first | rfl | (simp; done) | (simp [*]; done) | (simp [bne]; done) | (simp only [i64_w, i32_w]; done) | (simp [i64_w, i32_w]; done)), H', ⟨by first | omega | exact Nat.le_refl _⟩, by repeat (first | exact Drawn0.refl _ | apply Drawn0.step)⟩
  case rest =>
   clear HC6
   try clear c1
   try clear p2
   try clear c4
   try clear c5
   try clear c5b0
   try clear c5b1
   try clear c7
   try clear c7b0
   try clear c8
   try clear c8b0
   obtain ⟨kq, x25_5, rfl, HA, HJ5, ⟨mc5, rfl⟩⟩ := hcut
   cases kq with
   | zero => exact absurd HA.out (by simp [line_Nth.j0])
   | succ kj5 =>
    have H := HA.out
    clear HA
    simp only [line_Nth.j0] at H
    by_cases c9 : x25_5 = true
    ·subst c9
     have H1 : (some (0, 1)) = some (r1, r2) := by rw [if_pos rfl] at H; exact H
     clear H
     have H := H1
     clear H1
     simp only [Option.some.injEq, Prod.mk.injEq] at H
     obtain ⟨rfl, rfl⟩ := H
     go_wp2
     go_ret2
     exact ⟨by first | rfl | (simp; done) | (simp [*]; done) | (simp [bne]; done) | (simp only [i64_w, i32_w]; done) | (simp [i64_w, i32_w]; done), by repeat (first | exact Drawn0.refl _ | apply Drawn0.step)⟩
    ·replace c9 := Bool.eq_false_iff.mpr c9
     subst c9
     have H1 : (if a2 < (-1000000) then (line_Nth.j1 kj5 a0 a1 a2 true) else (line_Nth.j1 kj5 a0 a1 a2 (decide (a2 > 1000000)))) = some (r1, r2) := by rw [if_neg (show ¬ (false = true) by decide)] at H; exact H
     clear H
     have H := H1
     clear H1
     have HC10 := Aside0.mk H
     clear H
     go_upto_region 6 with (fail)
     go_cut [31] (fun v31 wc => ∃ (kq : Nat) (x31_9 : Bool), v31 = .bool x31_9 ∧ Aside0 (line_Nth.j1 kq a0 a1 a2 x31_9 = some (r1, r2)) ∧ Aside0 (kq ≤ kj5) ∧ Drawn0 w wc)
     case first =>
      have H := HC10.out
      clear HC10
      by_cases c11 : a2 < (-1000000)
      ·rw [if_pos c11] at H
       have c11b0 : decide (a2 < (-1000000)) = true := decide_eq_true c11
       clear c11
       (first | rw [c11b0] | (simp only [i64_w, i32_w]; rw [c11b0]) | skip)
       have H' := Aside0.mk H
       clear H
       go_wp2
       go_meet
       case rel => exact ⟨_, (true), (by first | rfl | (simp; done) | (simp [*]; done) | (simp [bne]; done) | (simp only [i64_w, i32_w]; done) | (simp [i64_w, i32_w]; done)), H', ⟨by have := HJ5.out; first | omega | exact Nat.le_refl _⟩, by repeat (first | exact Drawn0.refl _ | apply Drawn0.step)⟩
      ·rw [if_neg c11] at H
       have c11b0 : decide (a2 < (-1000000)) = false := decide_eq_false c11
       clear c11
       (first | rw [c11b0] | (simp only [i64_w, i32_w]; rw [c11b0]) | skip)
       have H' := Aside0.mk H
       clear H
       go_wp2
       go_meet
       case rel => exact ⟨_, (decide (a2 > 1000000)), (by first | rfl | (simp; done) | (simp [*]; done) | (simp [bne]; done) | (simp only [i64_w, i32_w]; done) | (simp [i64_w, i32_w]; done)), H', ⟨by have := HJ5.out; first | omega | exact Nat.le_refl _⟩, by repeat (first | exact Drawn0.refl _ | apply Drawn0.step)⟩
     case rest =>
      clear HC10
      try clear c1
      try clear p2
      try clear c4
      try clear c5
      try clear c5b0
      try clear c5b1
      try clear c7
      try clear c7b0
      try clear c8
      try clear c8b0
      try clear c9
      try clear c11
      try clear c11b0
      try clear p2
      obtain ⟨kq, x31_9, rfl, HA, HJ9, ⟨mc9, rfl⟩⟩ := hcut
      cases kq with
      | zero => exact absurd HA.out (by simp [line_Nth.j1])
      | succ kj9 =>
       have H := HA.out
       clear HA
       simp only [line_Nth.j1] at H
       by_cases c12 : x31_9 = true
       ·subst c12
        have H1 : (some (0, 3)) = some (r1, r2) := by rw [if_pos rfl] at H; exact H
        clear H
        have H := H1
        clear H1
        simp only [Option.some.injEq, Prod.mk.injEq] at H
        obtain ⟨rfl, rfl⟩ := H
        go_wp2
        go_ret2
        exact ⟨by first | rfl | (simp; done) | (simp [*]; done) | (simp [bne]; done) | (simp only [i64_w, i32_w]; done) | (simp [i64_w, i32_w]; done), by repeat (first | exact Drawn0.refl _ | apply Drawn0.step)⟩
       ·replace c12 := Bool.eq_false_iff.mpr c12
        subst c12
        have H1 : ((whole_Mod.f (wrap64 (a1 - (wrap64 (a0 - 1)))) 7).bind fun t134 => (if a2 < 0 then ((whole_Mod.f (wrap64 ((wrap64 (a0 - 1)) - a1)) 7).bind fun t135 => ((line_Check.f (wrap64 ((wrap64 (a0 - t135)) + (wrap64 (7 * (wrap64 (a2 + 1))))))).bind fun t136 => (if t136 = 0 then (some (wrap64 ((wrap64 (a0 - t135)) + (wrap64 (7 * (wrap64 (a2 + 1))))), 0)) else (some (0, t136))))) else ((line_Check.f (wrap64 ((wrap64 (a0 + t134)) + (wrap64 (7 * (wrap64 (a2 - 1))))))).bind fun t137 => (if t137 = 0 then (some (wrap64 ((wrap64 (a0 + t134)) + (wrap64 (7 * (wrap64 (a2 - 1))))), 0)) else (some (0, t137)))))) = some (r1, r2) := by rw [if_neg (show ¬ (false = true) by decide)] at H; exact H
        clear H
        have H := H1
        clear H1
        replace H := Option.bind_eq_some_iff.mp H
        obtain ⟨t134, A130, H⟩ := H
        replace H : (if a2 < 0 then ((whole_Mod.f (wrap64 ((wrap64 (a0 - 1)) - a1)) 7).bind fun t135 => ((line_Check.f (wrap64 ((wrap64 (a0 - t135)) + (wrap64 (7 * (wrap64 (a2 + 1))))))).bind fun t136 => (if t136 = 0 then (some (wrap64 ((wrap64 (a0 - t135)) + (wrap64 (7 * (wrap64 (a2 + 1))))), 0)) else (some (0, t136))))) else ((line_Check.f (wrap64 ((wrap64 (a0 + t134)) + (wrap64 (7 * (wrap64 (a2 - 1))))))).bind fun t137 => (if t137 = 0 then (some (wrap64 ((wrap64 (a0 + t134)) + (wrap64 (7 * (wrap64 (a2 - 1))))), 0)) else (some (0, t137))))) = some (r1, r2) := H
        have A13 := Aside0.mk A130
        clear A130
        by_cases c14 : a2 < 0
        ·rw [if_pos c14] at H
         have c14b0 : decide (a2 < 0) = true := decide_eq_true c14
         clear c14
         replace H := Option.bind_eq_some_iff.mp H
         obtain ⟨t135, A150, H⟩ := H
         replace H : ((line_Check.f (wrap64 ((wrap64 (a0 - t135)) + (wrap64 (7 * (wrap64 (a2 + 1))))))).bind fun t136 => (if t136 = 0 then (some (wrap64 ((wrap64 (a0 - t135)) + (wrap64 (7 * (wrap64 (a2 + 1))))), 0)) else (some (0, t136)))) = some (r1, r2) := H
         have A15 := Aside0.mk A150
         clear A150
         replace H := Option.bind_eq_some_iff.mp H
         obtain ⟨t136, A160, H⟩ := H
         replace H : (if t136 = 0 then (some (wrap64 ((wrap64 (a0 - t135)) + (wrap64 (7 * (wrap64 (a2 + 1))))), 0)) else (some (0, t136))) = some (r1, r2) := H
         have A16 := Aside0.mk A160
         clear A160
         by_cases c17 : t136 = 0
         ·rw [if_pos c17] at H
          have c17b0 : (t136 == 0) = true := beq_iff_eq.mpr c17
          have c17b1 : (t136 != 0) = false := bne_eq_false_iff_eq.mpr c17
          clear c17
          simp only [Option.some.injEq, Prod.mk.injEq] at H
          obtain ⟨rfl, rfl⟩ := H
          go_wp2_with (first | ((with_reducible refine gate_callee (f := 47) rfl ?_); refine goesL_ (some 37) rfl rfl Try.func47 (by kernel_rfl) rfl #[.int .i64 (wrap64 (a1 - (wrap64 (a0 - 1)))), .int .i64 7] rfl (by (try simp only [List.map_toArray, List.map_cons, List.map_nil]); first | done | rfl | (simp only [List.length_drop, List.length_take]; rfl)) ?_; (with_reducible refine (whole_Mod.calls (wrap64 (a1 - (wrap64 (a0 - 1)))) 7 t134 _ A13.out).mono ?_); rintro e w' ⟨rfl, ⟨nd, rfl⟩⟩; refine ⟨_, rfl, ?_⟩) | ((with_reducible refine gate_callee (f := 47) rfl ?_); refine goesL_ (some 50) rfl rfl Try.func47 (by kernel_rfl) rfl #[.int .i64 (wrap64 ((wrap64 (a0 - 1)) - a1)), .int .i64 7] rfl (by (try simp only [List.map_toArray, List.map_cons, List.map_nil]); first | done | rfl | (simp only [List.length_drop, List.length_take]; rfl)) ?_; (with_reducible refine (whole_Mod.calls (wrap64 ((wrap64 (a0 - 1)) - a1)) 7 t135 _ A15.out).mono ?_); rintro e w' ⟨rfl, ⟨nd, rfl⟩⟩; refine ⟨_, rfl, ?_⟩) | ((with_reducible refine gate_callee (f := 46) rfl ?_); refine goesL_ (some 57) rfl rfl Try.func46 (by kernel_rfl) rfl #[.int .i64 (wrap64 ((wrap64 (a0 - t135)) + (wrap64 (7 * (wrap64 (a2 + 1))))))] rfl (by (try simp only [List.map_toArray, List.map_cons, List.map_nil]); first | done | rfl | (simp only [List.length_drop, List.length_take]; rfl)) ?_; (with_reducible refine (line_Check.calls (wrap64 ((wrap64 (a0 - t135)) + (wrap64 (7 * (wrap64 (a2 + 1)))))) t136 _ A16.out).mono ?_); rintro e w' ⟨rfl, ⟨nd, rfl⟩⟩; refine ⟨_, rfl, ?_⟩))
          go_ret2
          exact ⟨by first | rfl | (simp; done) | (simp [*]; done) | (simp [bne]; done) | (simp only [i64_w, i32_w]; done) | (simp [i64_w, i32_w]; done), by repeat (first | exact Drawn0.refl _ | apply Drawn0.step)⟩
         ·rw [if_neg c17] at H
          have c17b0 : (t136 == 0) = false := beq_eq_false_iff_ne.mpr c17
          have c17b1 : (t136 != 0) = true := bne_iff_ne.mpr c17
          simp only [Option.some.injEq, Prod.mk.injEq] at H
          obtain ⟨rfl, rfl⟩ := H
          go_wp2_with (first | ((with_reducible refine gate_callee (f := 47) rfl ?_); refine goesL_ (some 37) rfl rfl Try.func47 (by kernel_rfl) rfl #[.int .i64 (wrap64 (a1 - (wrap64 (a0 - 1)))), .int .i64 7] rfl (by (try simp only [List.map_toArray, List.map_cons, List.map_nil]); first | done | rfl | (simp only [List.length_drop, List.length_take]; rfl)) ?_; (with_reducible refine (whole_Mod.calls (wrap64 (a1 - (wrap64 (a0 - 1)))) 7 t134 _ A13.out).mono ?_); rintro e w' ⟨rfl, ⟨nd, rfl⟩⟩; refine ⟨_, rfl, ?_⟩) | ((with_reducible refine gate_callee (f := 47) rfl ?_); refine goesL_ (some 50) rfl rfl Try.func47 (by kernel_rfl) rfl #[.int .i64 (wrap64 ((wrap64 (a0 - 1)) - a1)), .int .i64 7] rfl (by (try simp only [List.map_toArray, List.map_cons, List.map_nil]); first | done | rfl | (simp only [List.length_drop, List.length_take]; rfl)) ?_; (with_reducible refine (whole_Mod.calls (wrap64 ((wrap64 (a0 - 1)) - a1)) 7 t135 _ A15.out).mono ?_); rintro e w' ⟨rfl, ⟨nd, rfl⟩⟩; refine ⟨_, rfl, ?_⟩) | ((with_reducible refine gate_callee (f := 46) rfl ?_); refine goesL_ (some 57) rfl rfl Try.func46 (by kernel_rfl) rfl #[.int .i64 (wrap64 ((wrap64 (a0 - t135)) + (wrap64 (7 * (wrap64 (a2 + 1))))))] rfl (by (try simp only [List.map_toArray, List.map_cons, List.map_nil]); first | done | rfl | (simp only [List.length_drop, List.length_take]; rfl)) ?_; (with_reducible refine (line_Check.calls (wrap64 ((wrap64 (a0 - t135)) + (wrap64 (7 * (wrap64 (a2 + 1)))))) t136 _ A16.out).mono ?_); rintro e w' ⟨rfl, ⟨nd, rfl⟩⟩; refine ⟨_, rfl, ?_⟩))
          go_ret2
          exact ⟨by first | rfl | (simp; done) | (simp [*]; done) | (simp [bne]; done) | (simp only [i64_w, i32_w]; done) | (simp [i64_w, i32_w]; done), by repeat (first | exact Drawn0.refl _ | apply Drawn0.step)⟩
        ·rw [if_neg c14] at H
         have c14b0 : decide (a2 < 0) = false := decide_eq_false c14
         clear c14
         replace H := Option.bind_eq_some_iff.mp H
         obtain ⟨t137, A180, H⟩ := H
         replace H : (if t137 = 0 then (some (wrap64 ((wrap64 (a0 + t134)) + (wrap64 (7 * (wrap64 (a2 - 1))))), 0)) else (some (0, t137))) = some (r1, r2) := H
         have A18 := Aside0.mk A180
         clear A180
         by_cases c19 : t137 = 0
         ·rw [if_pos c19] at H
          have c19b0 : (t137 == 0) = true := beq_iff_eq.mpr c19
          have c19b1 : (t137 != 0) = false := bne_eq_false_iff_eq.mpr c19
          clear c19
          simp only [Option.some.injEq, Prod.mk.injEq] at H
          obtain ⟨rfl, rfl⟩ := H
          go_wp2_with (first | ((with_reducible refine gate_callee (f := 47) rfl ?_); refine goesL_ (some 37) rfl rfl Try.func47 (by kernel_rfl) rfl #[.int .i64 (wrap64 (a1 - (wrap64 (a0 - 1)))), .int .i64 7] rfl (by (try simp only [List.map_toArray, List.map_cons, List.map_nil]); first | done | rfl | (simp only [List.length_drop, List.length_take]; rfl)) ?_; (with_reducible refine (whole_Mod.calls (wrap64 (a1 - (wrap64 (a0 - 1)))) 7 t134 _ A13.out).mono ?_); rintro e w' ⟨rfl, ⟨nd, rfl⟩⟩; refine ⟨_, rfl, ?_⟩) | ((with_reducible refine gate_callee (f := 46) rfl ?_); refine goesL_ (some 57) rfl rfl Try.func46 (by kernel_rfl) rfl #[.int .i64 (wrap64 ((wrap64 (a0 + t134)) + (wrap64 (7 * (wrap64 (a2 - 1))))))] rfl (by (try simp only [List.map_toArray, List.map_cons, List.map_nil]); first | done | rfl | (simp only [List.length_drop, List.length_take]; rfl)) ?_; (with_reducible refine (line_Check.calls (wrap64 ((wrap64 (a0 + t134)) + (wrap64 (7 * (wrap64 (a2 - 1)))))) t137 _ A18.out).mono ?_); rintro e w' ⟨rfl, ⟨nd, rfl⟩⟩; refine ⟨_, rfl, ?_⟩))
          go_ret2
          exact ⟨by first | rfl | (simp; done) | (simp [*]; done) | (simp [bne]; done) | (simp only [i64_w, i32_w]; done) | (simp [i64_w, i32_w]; done), by repeat (first | exact Drawn0.refl _ | apply Drawn0.step)⟩
         ·rw [if_neg c19] at H
          have c19b0 : (t137 == 0) = false := beq_eq_false_iff_ne.mpr c19
          have c19b1 : (t137 != 0) = true := bne_iff_ne.mpr c19
          simp only [Option.some.injEq, Prod.mk.injEq] at H
          obtain ⟨rfl, rfl⟩ := H
          go_wp2_with (first | ((with_reducible refine gate_callee (f := 47) rfl ?_); refine goesL_ (some 37) rfl rfl Try.func47 (by kernel_rfl) rfl #[.int .i64 (wrap64 (a1 - (wrap64 (a0 - 1)))), .int .i64 7] rfl (by (try simp only [List.map_toArray, List.map_cons, List.map_nil]); first | done | rfl | (simp only [List.length_drop, List.length_take]; rfl)) ?_; (with_reducible refine (whole_Mod.calls (wrap64 (a1 - (wrap64 (a0 - 1)))) 7 t134 _ A13.out).mono ?_); rintro e w' ⟨rfl, ⟨nd, rfl⟩⟩; refine ⟨_, rfl, ?_⟩) | ((with_reducible refine gate_callee (f := 46) rfl ?_); refine goesL_ (some 57) rfl rfl Try.func46 (by kernel_rfl) rfl #[.int .i64 (wrap64 ((wrap64 (a0 + t134)) + (wrap64 (7 * (wrap64 (a2 - 1))))))] rfl (by (try simp only [List.map_toArray, List.map_cons, List.map_nil]); first | done | rfl | (simp only [List.length_drop, List.length_take]; rfl)) ?_; (with_reducible refine (line_Check.calls (wrap64 ((wrap64 (a0 + t134)) + (wrap64 (7 * (wrap64 (a2 - 1)))))) t137 _ A18.out).mono ?_); rintro e w' ⟨rfl, ⟨nd, rfl⟩⟩; refine ⟨_, rfl, ?_⟩))
          go_ret2
          exact ⟨by first | rfl | (simp; done) | (simp [*]; done) | (simp [bne]; done) | (simp only [i64_w, i32_w]; done) | (simp [i64_w, i32_w]; done), by repeat (first | exact Drawn0.refl _ | apply Drawn0.step)⟩
 ·rw [if_neg c5] at H
  have c5b0 : (t133 == 0) = false := beq_eq_false_iff_ne.mpr c5
  have c5b1 : (t133 != 0) = true := bne_iff_ne.mpr c5
  simp only [Option.some.injEq, Prod.mk.injEq] at H
  obtain ⟨rfl, rfl⟩ := H
  go_enter Try.func14, Try.ntmps14
  go_wp2_with (first | ((with_reducible refine gate_callee (f := 46) rfl ?_); refine goesL_ (some 12) rfl rfl Try.func46 (by kernel_rfl) rfl #[.int .i64 a0] rfl (by (try simp only [List.map_toArray, List.map_cons, List.map_nil]); first | done | rfl | (simp only [List.length_drop, List.length_take]; rfl)) ?_; (with_reducible refine (line_Check.calls a0 t133 _ A4.out).mono ?_); rintro e w' ⟨rfl, ⟨nd, rfl⟩⟩; refine ⟨_, rfl, ?_⟩))
  go_ret2
  exact ⟨by first | rfl | (simp; done) | (simp [*]; done) | (simp [bne]; done) | (simp only [i64_w, i32_w]; done) | (simp [i64_w, i32_w]; done), by repeat (first | exact Drawn0.refl _ | apply Drawn0.step)⟩

end Go.Proofs.Ytboddbgmgcjppaa.QForecastWeekdays
