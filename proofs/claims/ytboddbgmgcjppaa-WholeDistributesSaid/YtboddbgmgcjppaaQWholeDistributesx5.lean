-- Written by a program of ours over the translation of this seat. Not trusted: Lean checks it.
import Derived.Test.YtboddbgmgcjppaaQWholeDistributesx0
import Derived.Test.YtboddbgmgcjppaaQWholeDistributesx3
import Derived.Test.YtboddbgmgcjppaaQWholeDistributesx4
namespace Go.Proofs.Ytboddbgmgcjppaa.QWholeDistributes
open Go.RowKit Go.Proofs.YtboddbgmgcjppaaW.PrintWords Go.Proofs.YtboddbgmgcjppaaW.PrintLast Go.Proofs.YtboddbgmgcjppaaW.PrintMore
attribute [local go_sem] max2_int min2_int max_two min_two max_three min_three max_four min_four   -- for this text's walks alone
set_option linter.unusedVariables false
set_option linter.unusedSimpArgs false

/-! ### ephemeriskeep1_WholeDistributes: function 4 -/
mutual
def ephemeriskeep1_WholeDistributes.j0 : Nat → Int → Int → Int → Bool → Option (Bool)
  | 0, _, _, _, _ => none
  | k + 1, x0, x1, x2, x28 => if x28 = true then (some false) else ((whole_Mul.f k (x0 / 8589934592) (x1 / 8589934592)).bind fun bt107 => ((whole_Mul.f k (x0 / 8589934592) (x2 / 8589934592)).bind fun bt109 => ((whole_Mul.f k (x0 / 8589934592) (wrap64 ((x1 / 8589934592) + (x2 / 8589934592)))).bind fun bt111 => (if bt111.2 = 0 then (ephemeriskeep1_WholeDistributes.j1 k (x0 / 8589934592) (x1 / 8589934592) ((wrap64 (bt107.1 + bt109.1)) != bt111.1)) else (ephemeriskeep1_WholeDistributes.j1 k (x0 / 8589934592) (x1 / 8589934592) true)))))
def ephemeriskeep1_WholeDistributes.j1 : Nat → Int → Int → Bool → Option (Bool)
  | 0, _, _, _ => none
  | k + 1, x0, x1, x63 => if x63 = true then (some false) else ((whole_Div.f k x0 x1).bind fun bt113 => (if x1 = 0 then (some (bt113.2.2 == 1)) else ((whole_Mul.f k bt113.1 x1).bind fun bt116 => (if bt113.2.2 = 0 then (if (wrap64 (bt116.1 + bt113.2.1)) = x0 then (if x1 > 0 then (if bt113.2.1 ≥ 0 then (if bt113.2.1 < x1 then (some true) else (if x1 < 0 then (if bt113.2.1 ≤ 0 then (some (decide (bt113.2.1 > x1))) else (some false)) else (some false))) else (if x1 < 0 then (if bt113.2.1 ≤ 0 then (some (decide (bt113.2.1 > x1))) else (some false)) else (some false))) else (if x1 < 0 then (if bt113.2.1 ≤ 0 then (some (decide (bt113.2.1 > x1))) else (some false)) else (some false))) else (some false)) else (some false)))))
end
def ephemeriskeep1_WholeDistributes.f (k : Nat) (a0 : Int) (a1 : Int) (a2 : Int) : Option (Bool) := (whole_Mul.f k (-3) 5).bind fun bt105 => (if bt105.1 = (-15) then (ephemeriskeep1_WholeDistributes.j0 k a0 a1 a2 (bt105.2 != 0)) else (ephemeriskeep1_WholeDistributes.j0 k a0 a1 a2 true))
theorem ephemeriskeep1_WholeDistributes.mono_l : ∀ k, (∀ y0 y1 y2 y3, LeO (ephemeriskeep1_WholeDistributes.j0 k y0 y1 y2 y3) (ephemeriskeep1_WholeDistributes.j0 (k + 1) y0 y1 y2 y3)) ∧ (∀ y0 y1 y2, LeO (ephemeriskeep1_WholeDistributes.j1 k y0 y1 y2) (ephemeriskeep1_WholeDistributes.j1 (k + 1) y0 y1 y2))
  | 0 => ⟨fun _ _ _ _ r h => by simp [ephemeriskeep1_WholeDistributes.j0] at h, fun _ _ _ r h => by simp [ephemeriskeep1_WholeDistributes.j1] at h⟩
  | k + 1 => by
    obtain ⟨ih0, ih1⟩ := ephemeriskeep1_WholeDistributes.mono_l k
    refine ⟨?_, ?_⟩
    · intro y0 y1 y2 y3
      unfold ephemeriskeep1_WholeDistributes.j0
      repeat' first
      | (with_reducible exact ih0 _ _ _ _)
      | (with_reducible exact ih1 _ _ _)
      | (with_reducible exact whole_Div.mono _ _ _)
      | (with_reducible exact whole_Mul.mono _ _ _)
      | (with_reducible exact LeO.refl _)
      | (with_reducible exact LeO.none _)
      | (with_reducible refine LeO.ite ?_ ?_)
      | (with_reducible refine LeO.bind ?_ (fun _ => ?_))
      | exact ih0 _ _ _ _
      | exact ih1 _ _ _
      | exact whole_Div.mono _ _ _
      | exact whole_Mul.mono _ _ _
      | exact LeO.none _
      | refine LeO.ite ?_ ?_
      | refine LeO.bind ?_ (fun _ => ?_)
    · intro y0 y1 y2
      unfold ephemeriskeep1_WholeDistributes.j1
      repeat' first
      | (with_reducible exact ih0 _ _ _ _)
      | (with_reducible exact ih1 _ _ _)
      | (with_reducible exact whole_Div.mono _ _ _)
      | (with_reducible exact whole_Mul.mono _ _ _)
      | (with_reducible exact LeO.refl _)
      | (with_reducible exact LeO.none _)
      | (with_reducible refine LeO.ite ?_ ?_)
      | (with_reducible refine LeO.bind ?_ (fun _ => ?_))
      | exact ih0 _ _ _ _
      | exact ih1 _ _ _
      | exact whole_Div.mono _ _ _
      | exact whole_Mul.mono _ _ _
      | exact LeO.none _
      | refine LeO.ite ?_ ?_
      | refine LeO.bind ?_ (fun _ => ?_)
theorem ephemeriskeep1_WholeDistributes.mono : ∀ a0 a1 a2 k, LeO (ephemeriskeep1_WholeDistributes.f k a0 a1 a2) (ephemeriskeep1_WholeDistributes.f (k + 1) a0 a1 a2) := by
  intro a0 a1 a2 k
  obtain ⟨ih0, ih1⟩ := ephemeriskeep1_WholeDistributes.mono_l k
  unfold ephemeriskeep1_WholeDistributes.f
  repeat' first
      | (with_reducible exact ih0 _ _ _ _)
      | (with_reducible exact ih1 _ _ _)
      | (with_reducible exact whole_Div.mono _ _ _)
      | (with_reducible exact whole_Mul.mono _ _ _)
      | (with_reducible exact LeO.refl _)
      | (with_reducible exact LeO.none _)
      | (with_reducible refine LeO.ite ?_ ?_)
      | (with_reducible refine LeO.bind ?_ (fun _ => ?_))
      | exact ih0 _ _ _ _
      | exact ih1 _ _ _
      | exact whole_Div.mono _ _ _
      | exact whole_Mul.mono _ _ _
      | exact LeO.none _
      | refine LeO.ite ?_ ?_
      | refine LeO.bind ?_ (fun _ => ?_)
set_option maxHeartbeats 8000000 in
set_option maxRecDepth 100000 in
theorem ephemeriskeep1_WholeDistributes.calls (k : Nat) (a0 : Int) (a1 : Int) (a2 : Int) (r : Bool) (w : World) (h : ephemeriskeep1_WholeDistributes.f k a0 a1 a2 = some r) :
    Calls Try.prog 4 #[.int .i64 a0, .int .i64 a1, .int .i64 a2] w fun e w' => e = .returned (.bool r) ∧ Drawn0 w w' := by
  have H : ((whole_Mul.f k (-3) 5).bind fun bt105 => (if bt105.1 = (-15) then (ephemeriskeep1_WholeDistributes.j0 k a0 a1 a2 (bt105.2 != 0)) else (ephemeriskeep1_WholeDistributes.j0 k a0 a1 a2 true))) = some r := h
  clear h
  replace H := Option.bind_eq_some_iff.mp H
  obtain ⟨⟨t105, t106⟩, A40, H⟩ := H
  replace H : (if t105 = (-15) then (ephemeriskeep1_WholeDistributes.j0 k a0 a1 a2 (t106 != 0)) else (ephemeriskeep1_WholeDistributes.j0 k a0 a1 a2 true)) = some r := H
  have A4 := Aside0.mk A40
  clear A40
  have HC5 := Aside0.mk H
  clear H
  go_enter Try.func4, Try.ntmps4
  go_upto_region 2 with (first | ((with_reducible refine gate_callee (f := 17) rfl ?_); refine goesL_ (some 20) rfl rfl Try.func17 (by kernel_rfl) rfl #[.int .i64 (-3), .int .i64 5] rfl (by (try simp only [List.map_toArray, List.map_cons, List.map_nil]); first | done | rfl | (simp only [List.length_drop, List.length_take]; rfl)) ?_; (with_reducible refine (whole_Mul.calls k (-3) 5 t105 t106 _ A4.out).mono ?_); rintro e w' ⟨rfl, ⟨nd, rfl⟩⟩; refine ⟨_, rfl, ?_⟩))
  (try simp only [Act.put, List.setIfInBounds_toArray, List.set_cons_zero, List.set_cons_succ])
  go_cut [28] (fun v28 wc => ∃ (kq : Nat) (x28_4 : Bool), v28 = .bool x28_4 ∧ Aside0 (ephemeriskeep1_WholeDistributes.j0 kq a0 a1 a2 x28_4 = some r) ∧ Aside0 (kq ≤ k) ∧ Drawn0 w wc)
  case first =>
    have H := HC5.out
    clear HC5
    by_cases c6 : t105 = (-15)
    · rw [if_pos c6] at H
      have c6b0 : (t105 == (-15)) = true := beq_iff_eq.mpr c6
      have c6b1 : (t105 != (-15)) = false := bne_eq_false_iff_eq.mpr c6
      clear c6
      (first | rw [c6b0] | (simp only [i64_w, i32_w]; rw [c6b0]) | skip)
      have H' := Aside0.mk H
      clear H
      go_wp2
      go_meet
      case rel => exact ⟨_, ((t106 != 0)), (by first | rfl | (simp; done) | (simp [*]; done) | (simp [bne]; done)), H', ⟨by first | omega | exact Nat.le_refl _⟩, by repeat (first | exact Drawn0.refl _ | apply Drawn0.step)⟩
    · rw [if_neg c6] at H
      have c6b0 : (t105 == (-15)) = false := beq_eq_false_iff_ne.mpr c6
      have c6b1 : (t105 != (-15)) = true := bne_iff_ne.mpr c6
      (first | rw [c6b0] | (simp only [i64_w, i32_w]; rw [c6b0]) | skip)
      have H' := Aside0.mk H
      clear H
      go_wp2
      go_meet
      case rel => exact ⟨_, (true), (by first | rfl | (simp; done) | (simp [*]; done) | (simp [bne]; done)), H', ⟨by first | omega | exact Nat.le_refl _⟩, by repeat (first | exact Drawn0.refl _ | apply Drawn0.step)⟩
  case rest =>
    clear HC5
    try clear c1
    try clear p1
    try clear p2
    try clear c4
    try clear c6
    try clear c6b0
    try clear c6b1
    obtain ⟨kq, x28_4, rfl, HA, HJ4, ⟨mc4, rfl⟩⟩ := hcut
    cases kq with
    | zero => exact absurd HA.out (by simp [ephemeriskeep1_WholeDistributes.j0])
    | succ kj4 =>
      have H := HA.out
      clear HA
      simp only [ephemeriskeep1_WholeDistributes.j0] at H
      by_cases c7 : x28_4 = true
      · subst c7
        have H1 : (some false) = some r := by rw [if_pos rfl] at H; exact H
        clear H
        have H := H1
        clear H1
        obtain rfl := Option.some.inj H
        go_wp2
        go_ret
        exact ⟨by first | rfl | (simp; done) | (simp [*]; done) | (simp [bne]; done), by repeat (first | exact Drawn0.refl _ | apply Drawn0.step)⟩
      · replace c7 := Bool.eq_false_iff.mpr c7
        subst c7
        have H1 : ((whole_Mul.f kj4 (a0 / 8589934592) (a1 / 8589934592)).bind fun bt107 => ((whole_Mul.f kj4 (a0 / 8589934592) (a2 / 8589934592)).bind fun bt109 => ((whole_Mul.f kj4 (a0 / 8589934592) (wrap64 ((a1 / 8589934592) + (a2 / 8589934592)))).bind fun bt111 => (if bt111.2 = 0 then (ephemeriskeep1_WholeDistributes.j1 kj4 (a0 / 8589934592) (a1 / 8589934592) ((wrap64 (bt107.1 + bt109.1)) != bt111.1)) else (ephemeriskeep1_WholeDistributes.j1 kj4 (a0 / 8589934592) (a1 / 8589934592) true))))) = some r := by rw [if_neg (show ¬ (false = true) by decide)] at H; exact H
        clear H
        have H := H1
        clear H1
        replace H := Option.bind_eq_some_iff.mp H
        obtain ⟨⟨t107, t108⟩, A80, H⟩ := H
        replace H : ((whole_Mul.f kj4 (a0 / 8589934592) (a2 / 8589934592)).bind fun bt109 => ((whole_Mul.f kj4 (a0 / 8589934592) (wrap64 ((a1 / 8589934592) + (a2 / 8589934592)))).bind fun bt111 => (if bt111.2 = 0 then (ephemeriskeep1_WholeDistributes.j1 kj4 (a0 / 8589934592) (a1 / 8589934592) ((wrap64 (t107 + bt109.1)) != bt111.1)) else (ephemeriskeep1_WholeDistributes.j1 kj4 (a0 / 8589934592) (a1 / 8589934592) true)))) = some r := H
        have A8 := Aside0.mk A80
        clear A80
        replace H := Option.bind_eq_some_iff.mp H
        obtain ⟨⟨t109, t110⟩, A90, H⟩ := H
        replace H : ((whole_Mul.f kj4 (a0 / 8589934592) (wrap64 ((a1 / 8589934592) + (a2 / 8589934592)))).bind fun bt111 => (if bt111.2 = 0 then (ephemeriskeep1_WholeDistributes.j1 kj4 (a0 / 8589934592) (a1 / 8589934592) ((wrap64 (t107 + t109)) != bt111.1)) else (ephemeriskeep1_WholeDistributes.j1 kj4 (a0 / 8589934592) (a1 / 8589934592) true))) = some r := H
        have A9 := Aside0.mk A90
        clear A90
        replace H := Option.bind_eq_some_iff.mp H
        obtain ⟨⟨t111, t112⟩, A100, H⟩ := H
        replace H : (if t112 = 0 then (ephemeriskeep1_WholeDistributes.j1 kj4 (a0 / 8589934592) (a1 / 8589934592) ((wrap64 (t107 + t109)) != t111)) else (ephemeriskeep1_WholeDistributes.j1 kj4 (a0 / 8589934592) (a1 / 8589934592) true)) = some r := H
        have A10 := Aside0.mk A100
        clear A100
        have HC11 := Aside0.mk H
        clear H
        go_upto_region 8 with (first | ((with_reducible refine gate_callee (f := 17) rfl ?_); refine goesL_ (some 38) rfl rfl Try.func17 (by kernel_rfl) rfl #[.int .i64 (a0 / 8589934592), .int .i64 (a1 / 8589934592)] rfl (by (try simp only [List.map_toArray, List.map_cons, List.map_nil]); first | done | rfl | (simp only [List.length_drop, List.length_take]; rfl)) ?_; (with_reducible refine (whole_Mul.calls kj4 (a0 / 8589934592) (a1 / 8589934592) t107 t108 _ A8.out).mono ?_); rintro e w' ⟨rfl, ⟨nd, rfl⟩⟩; refine ⟨_, rfl, ?_⟩) | ((with_reducible refine gate_callee (f := 17) rfl ?_); refine goesL_ (some 44) rfl rfl Try.func17 (by kernel_rfl) rfl #[.int .i64 (a0 / 8589934592), .int .i64 (a2 / 8589934592)] rfl (by (try simp only [List.map_toArray, List.map_cons, List.map_nil]); first | done | rfl | (simp only [List.length_drop, List.length_take]; rfl)) ?_; (with_reducible refine (whole_Mul.calls kj4 (a0 / 8589934592) (a2 / 8589934592) t109 t110 _ A9.out).mono ?_); rintro e w' ⟨rfl, ⟨nd, rfl⟩⟩; refine ⟨_, rfl, ?_⟩) | ((with_reducible refine gate_callee (f := 17) rfl ?_); refine goesL_ (some 52) rfl rfl Try.func17 (by kernel_rfl) rfl #[.int .i64 (a0 / 8589934592), .int .i64 (wrap64 ((a1 / 8589934592) + (a2 / 8589934592)))] rfl (by (try simp only [List.map_toArray, List.map_cons, List.map_nil]); first | done | rfl | (simp only [List.length_drop, List.length_take]; rfl)) ?_; (with_reducible refine (whole_Mul.calls kj4 (a0 / 8589934592) (wrap64 ((a1 / 8589934592) + (a2 / 8589934592))) t111 t112 _ A10.out).mono ?_); rintro e w' ⟨rfl, ⟨nd, rfl⟩⟩; refine ⟨_, rfl, ?_⟩))
        (try simp only [Act.put, List.setIfInBounds_toArray, List.set_cons_zero, List.set_cons_succ])
        go_cut [63] (fun v63 wc => ∃ (kq : Nat) (x63_10 : Bool), v63 = .bool x63_10 ∧ Aside0 (ephemeriskeep1_WholeDistributes.j1 kq (a0 / 8589934592) (a1 / 8589934592) x63_10 = some r) ∧ Aside0 (kq ≤ kj4) ∧ Drawn0 w wc)
        case first =>
          have H := HC11.out
          clear HC11
          by_cases c12 : t112 = 0
          · rw [if_pos c12] at H
            have c12b0 : (t112 == 0) = true := beq_iff_eq.mpr c12
            have c12b1 : (t112 != 0) = false := bne_eq_false_iff_eq.mpr c12
            clear c12
            (first | rw [c12b0] | (simp only [i64_w, i32_w]; rw [c12b0]) | skip)
            have H' := Aside0.mk H
            clear H
            go_wp2
            go_meet
            case rel => exact ⟨_, (((wrap64 (t107 + t109)) != t111)), (by first | rfl | (simp; done) | (simp [*]; done) | (simp [bne]; done)), H', ⟨by have := HJ4.out; first | omega | exact Nat.le_refl _⟩, by repeat (first | exact Drawn0.refl _ | apply Drawn0.step)⟩
          · rw [if_neg c12] at H
            have c12b0 : (t112 == 0) = false := beq_eq_false_iff_ne.mpr c12
            have c12b1 : (t112 != 0) = true := bne_iff_ne.mpr c12
            (first | rw [c12b0] | (simp only [i64_w, i32_w]; rw [c12b0]) | skip)
            have H' := Aside0.mk H
            clear H
            go_wp2
            go_meet
            case rel => exact ⟨_, (true), (by first | rfl | (simp; done) | (simp [*]; done) | (simp [bne]; done)), H', ⟨by have := HJ4.out; first | omega | exact Nat.le_refl _⟩, by repeat (first | exact Drawn0.refl _ | apply Drawn0.step)⟩
        case rest =>
          clear HC11
          try clear c1
          try clear p1
          try clear p2
          try clear c4
          try clear c6
          try clear c6b0
          try clear c6b1
          try clear p6
          try clear c7
          try clear c12
          try clear c12b0
          try clear c12b1
          try clear p1
          try clear p2
          obtain ⟨kq, x63_10, rfl, HA, HJ10, ⟨mc10, rfl⟩⟩ := hcut
          cases kq with
          | zero => exact absurd HA.out (by simp [ephemeriskeep1_WholeDistributes.j1])
          | succ kj10 =>
            have H := HA.out
            clear HA
            simp only [ephemeriskeep1_WholeDistributes.j1] at H
            by_cases c13 : x63_10 = true
            · subst c13
              have H1 : (some false) = some r := by rw [if_pos rfl] at H; exact H
              clear H
              have H := H1
              clear H1
              obtain rfl := Option.some.inj H
              go_wp2
              go_ret
              exact ⟨by first | rfl | (simp; done) | (simp [*]; done) | (simp [bne]; done), by repeat (first | exact Drawn0.refl _ | apply Drawn0.step)⟩
            · replace c13 := Bool.eq_false_iff.mpr c13
              subst c13
              have H1 : ((whole_Div.f kj10 (a0 / 8589934592) (a1 / 8589934592)).bind fun bt113 => (if (a1 / 8589934592) = 0 then (some (bt113.2.2 == 1)) else ((whole_Mul.f kj10 bt113.1 (a1 / 8589934592)).bind fun bt116 => (if bt113.2.2 = 0 then (if (wrap64 (bt116.1 + bt113.2.1)) = (a0 / 8589934592) then (if (a1 / 8589934592) > 0 then (if bt113.2.1 ≥ 0 then (if bt113.2.1 < (a1 / 8589934592) then (some true) else (if (a1 / 8589934592) < 0 then (if bt113.2.1 ≤ 0 then (some (decide (bt113.2.1 > (a1 / 8589934592)))) else (some false)) else (some false))) else (if (a1 / 8589934592) < 0 then (if bt113.2.1 ≤ 0 then (some (decide (bt113.2.1 > (a1 / 8589934592)))) else (some false)) else (some false))) else (if (a1 / 8589934592) < 0 then (if bt113.2.1 ≤ 0 then (some (decide (bt113.2.1 > (a1 / 8589934592)))) else (some false)) else (some false))) else (some false)) else (some false))))) = some r := by rw [if_neg (show ¬ (false = true) by decide)] at H; exact H
              clear H
              have H := H1
              clear H1
              replace H := Option.bind_eq_some_iff.mp H
              obtain ⟨⟨t113, t114, t115⟩, A140, H⟩ := H
              replace H : (if (a1 / 8589934592) = 0 then (some (t115 == 1)) else ((whole_Mul.f kj10 t113 (a1 / 8589934592)).bind fun bt116 => (if t115 = 0 then (if (wrap64 (bt116.1 + t114)) = (a0 / 8589934592) then (if (a1 / 8589934592) > 0 then (if t114 ≥ 0 then (if t114 < (a1 / 8589934592) then (some true) else (if (a1 / 8589934592) < 0 then (if t114 ≤ 0 then (some (decide (t114 > (a1 / 8589934592)))) else (some false)) else (some false))) else (if (a1 / 8589934592) < 0 then (if t114 ≤ 0 then (some (decide (t114 > (a1 / 8589934592)))) else (some false)) else (some false))) else (if (a1 / 8589934592) < 0 then (if t114 ≤ 0 then (some (decide (t114 > (a1 / 8589934592)))) else (some false)) else (some false))) else (some false)) else (some false)))) = some r := H
              have A14 := Aside0.mk A140
              clear A140
              by_cases c15 : (a1 / 8589934592) = 0
              · rw [if_pos c15] at H
                have c15b0 : ((a1 / 8589934592) == 0) = true := beq_iff_eq.mpr c15
                have c15b1 : ((a1 / 8589934592) != 0) = false := bne_eq_false_iff_eq.mpr c15
                clear c15
                obtain rfl := Option.some.inj H
                go_wp2_with (first | ((with_reducible refine gate_callee (f := 18) rfl ?_); refine goesL_ (some 67) rfl rfl Try.func18 (by kernel_rfl) rfl #[.int .i64 (a0 / 8589934592), .int .i64 (a1 / 8589934592)] rfl (by (try simp only [List.map_toArray, List.map_cons, List.map_nil]); first | done | rfl | (simp only [List.length_drop, List.length_take]; rfl)) ?_; (with_reducible refine (whole_Div.calls kj10 (a0 / 8589934592) (a1 / 8589934592) t113 t114 t115 _ A14.out).mono ?_); rintro e w' ⟨rfl, ⟨nd, rfl⟩⟩; refine ⟨_, rfl, ?_⟩))
                go_ret
                exact ⟨by first | rfl | (simp; done) | (simp [*]; done) | (simp [bne]; done), by repeat (first | exact Drawn0.refl _ | apply Drawn0.step)⟩
              · rw [if_neg c15] at H
                have c15b0 : ((a1 / 8589934592) == 0) = false := beq_eq_false_iff_ne.mpr c15
                have c15b1 : ((a1 / 8589934592) != 0) = true := bne_iff_ne.mpr c15
                replace H := Option.bind_eq_some_iff.mp H
                obtain ⟨⟨t116, t117⟩, A160, H⟩ := H
                replace H : (if t115 = 0 then (if (wrap64 (t116 + t114)) = (a0 / 8589934592) then (if (a1 / 8589934592) > 0 then (if t114 ≥ 0 then (if t114 < (a1 / 8589934592) then (some true) else (if (a1 / 8589934592) < 0 then (if t114 ≤ 0 then (some (decide (t114 > (a1 / 8589934592)))) else (some false)) else (some false))) else (if (a1 / 8589934592) < 0 then (if t114 ≤ 0 then (some (decide (t114 > (a1 / 8589934592)))) else (some false)) else (some false))) else (if (a1 / 8589934592) < 0 then (if t114 ≤ 0 then (some (decide (t114 > (a1 / 8589934592)))) else (some false)) else (some false))) else (some false)) else (some false)) = some r := H
                have A16 := Aside0.mk A160
                clear A160
                by_cases c17 : t115 = 0
                · rw [if_pos c17] at H
                  have c17b0 : (t115 == 0) = true := beq_iff_eq.mpr c17
                  have c17b1 : (t115 != 0) = false := bne_eq_false_iff_eq.mpr c17
                  clear c17
                  by_cases c18 : (wrap64 (t116 + t114)) = (a0 / 8589934592)
                  · rw [if_pos c18] at H
                    have c18b0 : ((wrap64 (t116 + t114)) == (a0 / 8589934592)) = true := beq_iff_eq.mpr c18
                    have c18b1 : ((wrap64 (t116 + t114)) != (a0 / 8589934592)) = false := bne_eq_false_iff_eq.mpr c18
                    clear c18
                    by_cases c19 : (a1 / 8589934592) > 0
                    · rw [if_pos c19] at H
                      have c19b0 : decide (0 < (a1 / 8589934592)) = true := decide_eq_true c19
                      clear c19
                      by_cases c20 : t114 ≥ 0
                      · rw [if_pos c20] at H
                        have c20b0 : decide (0 ≤ t114) = true := decide_eq_true c20
                        clear c20
                        by_cases c21 : t114 < (a1 / 8589934592)
                        · rw [if_pos c21] at H
                          have c21b0 : decide (t114 < (a1 / 8589934592)) = true := decide_eq_true c21
                          clear c21
                          obtain rfl := Option.some.inj H
                          go_wp2_with (first | ((with_reducible refine gate_callee (f := 18) rfl ?_); refine goesL_ (some 67) rfl rfl Try.func18 (by kernel_rfl) rfl #[.int .i64 (a0 / 8589934592), .int .i64 (a1 / 8589934592)] rfl (by (try simp only [List.map_toArray, List.map_cons, List.map_nil]); first | done | rfl | (simp only [List.length_drop, List.length_take]; rfl)) ?_; (with_reducible refine (whole_Div.calls kj10 (a0 / 8589934592) (a1 / 8589934592) t113 t114 t115 _ A14.out).mono ?_); rintro e w' ⟨rfl, ⟨nd, rfl⟩⟩; refine ⟨_, rfl, ?_⟩) | ((with_reducible refine gate_callee (f := 17) rfl ?_); refine goesL_ (some 78) rfl rfl Try.func17 (by kernel_rfl) rfl #[.int .i64 t113, .int .i64 (a1 / 8589934592)] rfl (by (try simp only [List.map_toArray, List.map_cons, List.map_nil]); first | done | rfl | (simp only [List.length_drop, List.length_take]; rfl)) ?_; (with_reducible refine (whole_Mul.calls kj10 t113 (a1 / 8589934592) t116 t117 _ A16.out).mono ?_); rintro e w' ⟨rfl, ⟨nd, rfl⟩⟩; refine ⟨_, rfl, ?_⟩))
                          go_ret
                          exact ⟨by first | rfl | (simp; done) | (simp [*]; done) | (simp [bne]; done), by repeat (first | exact Drawn0.refl _ | apply Drawn0.step)⟩
                        · rw [if_neg c21] at H
                          have c21b0 : decide (t114 < (a1 / 8589934592)) = false := decide_eq_false c21
                          clear c21
                          by_cases c22 : (a1 / 8589934592) < 0
                          · rw [if_pos c22] at H
                            have c22b0 : decide ((a1 / 8589934592) < 0) = true := decide_eq_true c22
                            clear c22
                            by_cases c23 : t114 ≤ 0
                            · rw [if_pos c23] at H
                              have c23b0 : decide (t114 ≤ 0) = true := decide_eq_true c23
                              clear c23
                              obtain rfl := Option.some.inj H
                              go_wp2_with (first | ((with_reducible refine gate_callee (f := 18) rfl ?_); refine goesL_ (some 67) rfl rfl Try.func18 (by kernel_rfl) rfl #[.int .i64 (a0 / 8589934592), .int .i64 (a1 / 8589934592)] rfl (by (try simp only [List.map_toArray, List.map_cons, List.map_nil]); first | done | rfl | (simp only [List.length_drop, List.length_take]; rfl)) ?_; (with_reducible refine (whole_Div.calls kj10 (a0 / 8589934592) (a1 / 8589934592) t113 t114 t115 _ A14.out).mono ?_); rintro e w' ⟨rfl, ⟨nd, rfl⟩⟩; refine ⟨_, rfl, ?_⟩) | ((with_reducible refine gate_callee (f := 17) rfl ?_); refine goesL_ (some 78) rfl rfl Try.func17 (by kernel_rfl) rfl #[.int .i64 t113, .int .i64 (a1 / 8589934592)] rfl (by (try simp only [List.map_toArray, List.map_cons, List.map_nil]); first | done | rfl | (simp only [List.length_drop, List.length_take]; rfl)) ?_; (with_reducible refine (whole_Mul.calls kj10 t113 (a1 / 8589934592) t116 t117 _ A16.out).mono ?_); rintro e w' ⟨rfl, ⟨nd, rfl⟩⟩; refine ⟨_, rfl, ?_⟩))
                              go_ret
                              exact ⟨by first | rfl | (simp; done) | (simp [*]; done) | (simp [bne]; done), by repeat (first | exact Drawn0.refl _ | apply Drawn0.step)⟩
                            · rw [if_neg c23] at H
                              have c23b0 : decide (t114 ≤ 0) = false := decide_eq_false c23
                              clear c23
                              obtain rfl := Option.some.inj H
                              go_wp2_with (first | ((with_reducible refine gate_callee (f := 18) rfl ?_); refine goesL_ (some 67) rfl rfl Try.func18 (by kernel_rfl) rfl #[.int .i64 (a0 / 8589934592), .int .i64 (a1 / 8589934592)] rfl (by (try simp only [List.map_toArray, List.map_cons, List.map_nil]); first | done | rfl | (simp only [List.length_drop, List.length_take]; rfl)) ?_; (with_reducible refine (whole_Div.calls kj10 (a0 / 8589934592) (a1 / 8589934592) t113 t114 t115 _ A14.out).mono ?_); rintro e w' ⟨rfl, ⟨nd, rfl⟩⟩; refine ⟨_, rfl, ?_⟩) | ((with_reducible refine gate_callee (f := 17) rfl ?_); refine goesL_ (some 78) rfl rfl Try.func17 (by kernel_rfl) rfl #[.int .i64 t113, .int .i64 (a1 / 8589934592)] rfl (by (try simp only [List.map_toArray, List.map_cons, List.map_nil]); first | done | rfl | (simp only [List.length_drop, List.length_take]; rfl)) ?_; (with_reducible refine (whole_Mul.calls kj10 t113 (a1 / 8589934592) t116 t117 _ A16.out).mono ?_); rintro e w' ⟨rfl, ⟨nd, rfl⟩⟩; refine ⟨_, rfl, ?_⟩))
                              go_ret
                              exact ⟨by first | rfl | (simp; done) | (simp [*]; done) | (simp [bne]; done), by repeat (first | exact Drawn0.refl _ | apply Drawn0.step)⟩
                          · rw [if_neg c22] at H
                            have c22b0 : decide ((a1 / 8589934592) < 0) = false := decide_eq_false c22
                            clear c22
                            obtain rfl := Option.some.inj H
                            go_wp2_with (first | ((with_reducible refine gate_callee (f := 18) rfl ?_); refine goesL_ (some 67) rfl rfl Try.func18 (by kernel_rfl) rfl #[.int .i64 (a0 / 8589934592), .int .i64 (a1 / 8589934592)] rfl (by (try simp only [List.map_toArray, List.map_cons, List.map_nil]); first | done | rfl | (simp only [List.length_drop, List.length_take]; rfl)) ?_; (with_reducible refine (whole_Div.calls kj10 (a0 / 8589934592) (a1 / 8589934592) t113 t114 t115 _ A14.out).mono ?_); rintro e w' ⟨rfl, ⟨nd, rfl⟩⟩; refine ⟨_, rfl, ?_⟩) | ((with_reducible refine gate_callee (f := 17) rfl ?_); refine goesL_ (some 78) rfl rfl Try.func17 (by kernel_rfl) rfl #[.int .i64 t113, .int .i64 (a1 / 8589934592)] rfl (by (try simp only [List.map_toArray, List.map_cons, List.map_nil]); first | done | rfl | (simp only [List.length_drop, List.length_take]; rfl)) ?_; (with_reducible refine (whole_Mul.calls kj10 t113 (a1 / 8589934592) t116 t117 _ A16.out).mono ?_); rintro e w' ⟨rfl, ⟨nd, rfl⟩⟩; refine ⟨_, rfl, ?_⟩))
                            go_ret
                            exact ⟨by first | rfl | (simp; done) | (simp [*]; done) | (simp [bne]; done), by repeat (first | exact Drawn0.refl _ | apply Drawn0.step)⟩
                      · rw [if_neg c20] at H
                        have c20b0 : decide (0 ≤ t114) = false := decide_eq_false c20
                        clear c20
                        by_cases c24 : (a1 / 8589934592) < 0
                        · rw [if_pos c24] at H
                          have c24b0 : decide ((a1 / 8589934592) < 0) = true := decide_eq_true c24
                          clear c24
                          by_cases c25 : t114 ≤ 0
                          · rw [if_pos c25] at H
                            have c25b0 : decide (t114 ≤ 0) = true := decide_eq_true c25
                            clear c25
                            obtain rfl := Option.some.inj H
                            go_wp2_with (first | ((with_reducible refine gate_callee (f := 18) rfl ?_); refine goesL_ (some 67) rfl rfl Try.func18 (by kernel_rfl) rfl #[.int .i64 (a0 / 8589934592), .int .i64 (a1 / 8589934592)] rfl (by (try simp only [List.map_toArray, List.map_cons, List.map_nil]); first | done | rfl | (simp only [List.length_drop, List.length_take]; rfl)) ?_; (with_reducible refine (whole_Div.calls kj10 (a0 / 8589934592) (a1 / 8589934592) t113 t114 t115 _ A14.out).mono ?_); rintro e w' ⟨rfl, ⟨nd, rfl⟩⟩; refine ⟨_, rfl, ?_⟩) | ((with_reducible refine gate_callee (f := 17) rfl ?_); refine goesL_ (some 78) rfl rfl Try.func17 (by kernel_rfl) rfl #[.int .i64 t113, .int .i64 (a1 / 8589934592)] rfl (by (try simp only [List.map_toArray, List.map_cons, List.map_nil]); first | done | rfl | (simp only [List.length_drop, List.length_take]; rfl)) ?_; (with_reducible refine (whole_Mul.calls kj10 t113 (a1 / 8589934592) t116 t117 _ A16.out).mono ?_); rintro e w' ⟨rfl, ⟨nd, rfl⟩⟩; refine ⟨_, rfl, ?_⟩))
                            go_ret
                            exact ⟨by first | rfl | (simp; done) | (simp [*]; done) | (simp [bne]; done), by repeat (first | exact Drawn0.refl _ | apply Drawn0.step)⟩
                          · rw [if_neg c25] at H
                            have c25b0 : decide (t114 ≤ 0) = false := decide_eq_false c25
                            clear c25
                            obtain rfl := Option.some.inj H
                            go_wp2_with (first | ((with_reducible refine gate_callee (f := 18) rfl ?_); refine goesL_ (some 67) rfl rfl Try.func18 (by kernel_rfl) rfl #[.int .i64 (a0 / 8589934592), .int .i64 (a1 / 8589934592)] rfl (by (try simp only [List.map_toArray, List.map_cons, List.map_nil]); first | done | rfl | (simp only [List.length_drop, List.length_take]; rfl)) ?_; (with_reducible refine (whole_Div.calls kj10 (a0 / 8589934592) (a1 / 8589934592) t113 t114 t115 _ A14.out).mono ?_); rintro e w' ⟨rfl, ⟨nd, rfl⟩⟩; refine ⟨_, rfl, ?_⟩) | ((with_reducible refine gate_callee (f := 17) rfl ?_); refine goesL_ (some 78) rfl rfl Try.func17 (by kernel_rfl) rfl #[.int .i64 t113, .int .i64 (a1 / 8589934592)] rfl (by (try simp only [List.map_toArray, List.map_cons, List.map_nil]); first | done | rfl | (simp only [List.length_drop, List.length_take]; rfl)) ?_; (with_reducible refine (whole_Mul.calls kj10 t113 (a1 / 8589934592) t116 t117 _ A16.out).mono ?_); rintro e w' ⟨rfl, ⟨nd, rfl⟩⟩; refine ⟨_, rfl, ?_⟩))
                            go_ret
                            exact ⟨by first | rfl | (simp; done) | (simp [*]; done) | (simp [bne]; done), by repeat (first | exact Drawn0.refl _ | apply Drawn0.step)⟩
                        · rw [if_neg c24] at H
                          have c24b0 : decide ((a1 / 8589934592) < 0) = false := decide_eq_false c24
                          clear c24
                          obtain rfl := Option.some.inj H
                          go_wp2_with (first | ((with_reducible refine gate_callee (f := 18) rfl ?_); refine goesL_ (some 67) rfl rfl Try.func18 (by kernel_rfl) rfl #[.int .i64 (a0 / 8589934592), .int .i64 (a1 / 8589934592)] rfl (by (try simp only [List.map_toArray, List.map_cons, List.map_nil]); first | done | rfl | (simp only [List.length_drop, List.length_take]; rfl)) ?_; (with_reducible refine (whole_Div.calls kj10 (a0 / 8589934592) (a1 / 8589934592) t113 t114 t115 _ A14.out).mono ?_); rintro e w' ⟨rfl, ⟨nd, rfl⟩⟩; refine ⟨_, rfl, ?_⟩) | ((with_reducible refine gate_callee (f := 17) rfl ?_); refine goesL_ (some 78) rfl rfl Try.func17 (by kernel_rfl) rfl #[.int .i64 t113, .int .i64 (a1 / 8589934592)] rfl (by (try simp only [List.map_toArray, List.map_cons, List.map_nil]); first | done | rfl | (simp only [List.length_drop, List.length_take]; rfl)) ?_; (with_reducible refine (whole_Mul.calls kj10 t113 (a1 / 8589934592) t116 t117 _ A16.out).mono ?_); rintro e w' ⟨rfl, ⟨nd, rfl⟩⟩; refine ⟨_, rfl, ?_⟩))
                          go_ret
                          exact ⟨by first | rfl | (simp; done) | (simp [*]; done) | (simp [bne]; done), by repeat (first | exact Drawn0.refl _ | apply Drawn0.step)⟩
                    · rw [if_neg c19] at H
                      have c19b0 : decide (0 < (a1 / 8589934592)) = false := decide_eq_false c19
                      clear c19
                      by_cases c26 : (a1 / 8589934592) < 0
                      · rw [if_pos c26] at H
                        have c26b0 : decide ((a1 / 8589934592) < 0) = true := decide_eq_true c26
                        clear c26
                        by_cases c27 : t114 ≤ 0
                        · rw [if_pos c27] at H
                          have c27b0 : decide (t114 ≤ 0) = true := decide_eq_true c27
                          clear c27
                          obtain rfl := Option.some.inj H
                          go_wp2_with (first | ((with_reducible refine gate_callee (f := 18) rfl ?_); refine goesL_ (some 67) rfl rfl Try.func18 (by kernel_rfl) rfl #[.int .i64 (a0 / 8589934592), .int .i64 (a1 / 8589934592)] rfl (by (try simp only [List.map_toArray, List.map_cons, List.map_nil]); first | done | rfl | (simp only [List.length_drop, List.length_take]; rfl)) ?_; (with_reducible refine (whole_Div.calls kj10 (a0 / 8589934592) (a1 / 8589934592) t113 t114 t115 _ A14.out).mono ?_); rintro e w' ⟨rfl, ⟨nd, rfl⟩⟩; refine ⟨_, rfl, ?_⟩) | ((with_reducible refine gate_callee (f := 17) rfl ?_); refine goesL_ (some 78) rfl rfl Try.func17 (by kernel_rfl) rfl #[.int .i64 t113, .int .i64 (a1 / 8589934592)] rfl (by (try simp only [List.map_toArray, List.map_cons, List.map_nil]); first | done | rfl | (simp only [List.length_drop, List.length_take]; rfl)) ?_; (with_reducible refine (whole_Mul.calls kj10 t113 (a1 / 8589934592) t116 t117 _ A16.out).mono ?_); rintro e w' ⟨rfl, ⟨nd, rfl⟩⟩; refine ⟨_, rfl, ?_⟩))
                          go_ret
                          exact ⟨by first | rfl | (simp; done) | (simp [*]; done) | (simp [bne]; done), by repeat (first | exact Drawn0.refl _ | apply Drawn0.step)⟩
                        · rw [if_neg c27] at H
                          have c27b0 : decide (t114 ≤ 0) = false := decide_eq_false c27
                          clear c27
                          obtain rfl := Option.some.inj H
                          go_wp2_with (first | ((with_reducible refine gate_callee (f := 18) rfl ?_); refine goesL_ (some 67) rfl rfl Try.func18 (by kernel_rfl) rfl #[.int .i64 (a0 / 8589934592), .int .i64 (a1 / 8589934592)] rfl (by (try simp only [List.map_toArray, List.map_cons, List.map_nil]); first | done | rfl | (simp only [List.length_drop, List.length_take]; rfl)) ?_; (with_reducible refine (whole_Div.calls kj10 (a0 / 8589934592) (a1 / 8589934592) t113 t114 t115 _ A14.out).mono ?_); rintro e w' ⟨rfl, ⟨nd, rfl⟩⟩; refine ⟨_, rfl, ?_⟩) | ((with_reducible refine gate_callee (f := 17) rfl ?_); refine goesL_ (some 78) rfl rfl Try.func17 (by kernel_rfl) rfl #[.int .i64 t113, .int .i64 (a1 / 8589934592)] rfl (by (try simp only [List.map_toArray, List.map_cons, List.map_nil]); first | done | rfl | (simp only [List.length_drop, List.length_take]; rfl)) ?_; (with_reducible refine (whole_Mul.calls kj10 t113 (a1 / 8589934592) t116 t117 _ A16.out).mono ?_); rintro e w' ⟨rfl, ⟨nd, rfl⟩⟩; refine ⟨_, rfl, ?_⟩))
                          go_ret
                          exact ⟨by first | rfl | (simp; done) | (simp [*]; done) | (simp [bne]; done), by repeat (first | exact Drawn0.refl _ | apply Drawn0.step)⟩
                      · rw [if_neg c26] at H
                        have c26b0 : decide ((a1 / 8589934592) < 0) = false := decide_eq_false c26
                        clear c26
                        obtain rfl := Option.some.inj H
                        go_wp2_with (first | ((with_reducible refine gate_callee (f := 18) rfl ?_); refine goesL_ (some 67) rfl rfl Try.func18 (by kernel_rfl) rfl #[.int .i64 (a0 / 8589934592), .int .i64 (a1 / 8589934592)] rfl (by (try simp only [List.map_toArray, List.map_cons, List.map_nil]); first | done | rfl | (simp only [List.length_drop, List.length_take]; rfl)) ?_; (with_reducible refine (whole_Div.calls kj10 (a0 / 8589934592) (a1 / 8589934592) t113 t114 t115 _ A14.out).mono ?_); rintro e w' ⟨rfl, ⟨nd, rfl⟩⟩; refine ⟨_, rfl, ?_⟩) | ((with_reducible refine gate_callee (f := 17) rfl ?_); refine goesL_ (some 78) rfl rfl Try.func17 (by kernel_rfl) rfl #[.int .i64 t113, .int .i64 (a1 / 8589934592)] rfl (by (try simp only [List.map_toArray, List.map_cons, List.map_nil]); first | done | rfl | (simp only [List.length_drop, List.length_take]; rfl)) ?_; (with_reducible refine (whole_Mul.calls kj10 t113 (a1 / 8589934592) t116 t117 _ A16.out).mono ?_); rintro e w' ⟨rfl, ⟨nd, rfl⟩⟩; refine ⟨_, rfl, ?_⟩))
                        go_ret
                        exact ⟨by first | rfl | (simp; done) | (simp [*]; done) | (simp [bne]; done), by repeat (first | exact Drawn0.refl _ | apply Drawn0.step)⟩
                  · rw [if_neg c18] at H
                    have c18b0 : ((wrap64 (t116 + t114)) == (a0 / 8589934592)) = false := beq_eq_false_iff_ne.mpr c18
                    have c18b1 : ((wrap64 (t116 + t114)) != (a0 / 8589934592)) = true := bne_iff_ne.mpr c18
                    obtain rfl := Option.some.inj H
                    go_wp2_with (first | ((with_reducible refine gate_callee (f := 18) rfl ?_); refine goesL_ (some 67) rfl rfl Try.func18 (by kernel_rfl) rfl #[.int .i64 (a0 / 8589934592), .int .i64 (a1 / 8589934592)] rfl (by (try simp only [List.map_toArray, List.map_cons, List.map_nil]); first | done | rfl | (simp only [List.length_drop, List.length_take]; rfl)) ?_; (with_reducible refine (whole_Div.calls kj10 (a0 / 8589934592) (a1 / 8589934592) t113 t114 t115 _ A14.out).mono ?_); rintro e w' ⟨rfl, ⟨nd, rfl⟩⟩; refine ⟨_, rfl, ?_⟩) | ((with_reducible refine gate_callee (f := 17) rfl ?_); refine goesL_ (some 78) rfl rfl Try.func17 (by kernel_rfl) rfl #[.int .i64 t113, .int .i64 (a1 / 8589934592)] rfl (by (try simp only [List.map_toArray, List.map_cons, List.map_nil]); first | done | rfl | (simp only [List.length_drop, List.length_take]; rfl)) ?_; (with_reducible refine (whole_Mul.calls kj10 t113 (a1 / 8589934592) t116 t117 _ A16.out).mono ?_); rintro e w' ⟨rfl, ⟨nd, rfl⟩⟩; refine ⟨_, rfl, ?_⟩))
                    go_ret
                    exact ⟨by first | rfl | (simp; done) | (simp [*]; done) | (simp [bne]; done), by repeat (first | exact Drawn0.refl _ | apply Drawn0.step)⟩
                · rw [if_neg c17] at H
                  have c17b0 : (t115 == 0) = false := beq_eq_false_iff_ne.mpr c17
                  have c17b1 : (t115 != 0) = true := bne_iff_ne.mpr c17
                  obtain rfl := Option.some.inj H
                  go_wp2_with (first | ((with_reducible refine gate_callee (f := 18) rfl ?_); refine goesL_ (some 67) rfl rfl Try.func18 (by kernel_rfl) rfl #[.int .i64 (a0 / 8589934592), .int .i64 (a1 / 8589934592)] rfl (by (try simp only [List.map_toArray, List.map_cons, List.map_nil]); first | done | rfl | (simp only [List.length_drop, List.length_take]; rfl)) ?_; (with_reducible refine (whole_Div.calls kj10 (a0 / 8589934592) (a1 / 8589934592) t113 t114 t115 _ A14.out).mono ?_); rintro e w' ⟨rfl, ⟨nd, rfl⟩⟩; refine ⟨_, rfl, ?_⟩) | ((with_reducible refine gate_callee (f := 17) rfl ?_); refine goesL_ (some 78) rfl rfl Try.func17 (by kernel_rfl) rfl #[.int .i64 t113, .int .i64 (a1 / 8589934592)] rfl (by (try simp only [List.map_toArray, List.map_cons, List.map_nil]); first | done | rfl | (simp only [List.length_drop, List.length_take]; rfl)) ?_; (with_reducible refine (whole_Mul.calls kj10 t113 (a1 / 8589934592) t116 t117 _ A16.out).mono ?_); rintro e w' ⟨rfl, ⟨nd, rfl⟩⟩; refine ⟨_, rfl, ?_⟩))
                  go_ret
                  exact ⟨by first | rfl | (simp; done) | (simp [*]; done) | (simp [bne]; done), by repeat (first | exact Drawn0.refl _ | apply Drawn0.step)⟩

/-- THE ONE PURE STATEMENT of ephemeriskeep1_WholeDistributes: yours. -/
def ephemeriskeep1_WholeDistributes.Pure : Prop := ∀ (a0 : Int) (a1 : Int) (a2 : Int), (Lit.int .i64 a0).wf = true → (Lit.int .i64 a1).wf = true → (Lit.int .i64 a2).wf = true → ∃ k, ephemeriskeep1_WholeDistributes.f k a0 a1 a2 = some true
theorem ephemeriskeep1_WholeDistributes.walk (P : ephemeriskeep1_WholeDistributes.Pure) (a0 : Int) (a1 : Int) (a2 : Int) (w : World) (w0 : (Lit.int .i64 a0).wf = true) (w1 : (Lit.int .i64 a1).wf = true) (w2 : (Lit.int .i64 a2).wf = true) :
    Calls Try.prog 4 #[.int .i64 a0, .int .i64 a1, .int .i64 a2] w fun e w' => e = .returned (.bool true) ∧ Below w.heap.size w w' := by
  obtain ⟨k, h⟩ := P a0 a1 a2 w0 w1 w2
  refine (ephemeriskeep1_WholeDistributes.calls k a0 a1 a2 true w h).mono ?_
  rintro e w' ⟨rfl, hd⟩
  exact ⟨rfl, hd.below⟩

end Go.Proofs.Ytboddbgmgcjppaa.QWholeDistributes
