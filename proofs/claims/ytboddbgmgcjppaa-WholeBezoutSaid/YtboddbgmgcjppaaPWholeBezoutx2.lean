-- PRINTED BY print.sh 35421559b90ae4d0a3588c463048766b98c2df88dd9212a6774a882060cdf62d: not written by this session
import Derived.Test.YtboddbgmgcjppaaPWholeBezoutx0
import Derived.Test.YtboddbgmgcjppaaPWholeBezoutx1
namespace Go.Proofs.Ytboddbgmgcjppaa.PWholeBezout
open Go.RowKit Go.Proofs.YtboddbgmgcjppaaW.PrintWords Go.Proofs.YtboddbgmgcjppaaW.PrintLast Go.Proofs.YtboddbgmgcjppaaW.PrintMore
attribute [local go_sem] max2_int min2_int max_two min_two max_three min_three max_four min_four   -- for this text's walks alone
set_option linter.unusedVariables false
set_option linter.unusedSimpArgs false

/-! ### ephemeriskeep1_WholeBezout: function 6 -/
mutual
def ephemeriskeep1_WholeBezout.j0 : Nat → Int → Int → Bool → Option (Bool)
  | 0, _, _, _ => none
  | k + 1, x0, x1, x21 => if x21 = true then (some false) else ((ephemeriskeep1_cut.f x0 (-100000) 200001).bind fun t129 => ((ephemeriskeep1_cut.f x1 1 100000).bind fun t130 => ((whole_Gcd.f k t129 t130).bind fun bt131 => (if bt131.2 = 0 then (if bt131.1 < 1 then (ephemeriskeep1_WholeBezout.j1 k t129 t130 bt131.1 true) else (if bt131.1 = 0 then (none) else (if (Int.tmod t129 bt131.1) = 0 then (ephemeriskeep1_WholeBezout.j1 k t129 t130 bt131.1 ((Int.tmod t130 bt131.1) != 0)) else (ephemeriskeep1_WholeBezout.j1 k t129 t130 bt131.1 true)))) else (ephemeriskeep1_WholeBezout.j1 k t129 t130 bt131.1 true)))))
def ephemeriskeep1_WholeBezout.j1 : Nat → Int → Int → Int → Bool → Option (Bool)
  | 0, _, _, _, _ => none
  | k + 1, x0, x1, x7, x49 => if x49 = true then (some false) else ((whole_Solve.f k x0 x7 x1).bind fun bt133 => (if bt133.2 = 0 then ((ephemeriskeep1_mod.f (wrap64 ((wrap64 (x0 * bt133.1)) - x7)) x1).bind fun t135 => (ephemeriskeep1_WholeBezout.j2 k x0 x1 (t135 != 0))) else (ephemeriskeep1_WholeBezout.j2 k x0 x1 true)))
def ephemeriskeep1_WholeBezout.j2 : Nat → Int → Int → Bool → Option (Bool)
  | 0, _, _, _ => none
  | k + 1, x0, x1, x68 => if x68 = true then (some false) else ((whole_Meet.f k x0 x1 x0 x1).bind fun bt136 => (if bt136.2.2 = 0 then ((ephemeriskeep1_mod.f x0 x1).bind fun t139 => (if bt136.1 = t139 then (some (bt136.2.1 == x1)) else (some false))) else (some false)))
end
def ephemeriskeep1_WholeBezout.f (k : Nat) (a0 : Int) (a1 : Int) : Option (Bool) := (whole_Gcd.f k 4 6).bind fun bt127 => (if bt127.1 = 2 then (ephemeriskeep1_WholeBezout.j0 k a0 a1 (bt127.2 != 0)) else (ephemeriskeep1_WholeBezout.j0 k a0 a1 true))
theorem ephemeriskeep1_WholeBezout.mono_l : ∀ k, (∀ y0 y1 y2, LeO (ephemeriskeep1_WholeBezout.j0 k y0 y1 y2) (ephemeriskeep1_WholeBezout.j0 (k + 1) y0 y1 y2)) ∧ (∀ y0 y1 y2 y3, LeO (ephemeriskeep1_WholeBezout.j1 k y0 y1 y2 y3) (ephemeriskeep1_WholeBezout.j1 (k + 1) y0 y1 y2 y3)) ∧ (∀ y0 y1 y2, LeO (ephemeriskeep1_WholeBezout.j2 k y0 y1 y2) (ephemeriskeep1_WholeBezout.j2 (k + 1) y0 y1 y2))
  | 0 => ⟨fun _ _ _ r h => by simp [ephemeriskeep1_WholeBezout.j0] at h, fun _ _ _ _ r h => by simp [ephemeriskeep1_WholeBezout.j1] at h, fun _ _ _ r h => by simp [ephemeriskeep1_WholeBezout.j2] at h⟩
  | k + 1 => by
    obtain ⟨ih0, ih1, ih2⟩ := ephemeriskeep1_WholeBezout.mono_l k
    refine ⟨?_, ?_, ?_⟩
    · intro y0 y1 y2
      unfold ephemeriskeep1_WholeBezout.j0
      repeat' first
      | (with_reducible exact ih0 _ _ _)
      | (with_reducible exact ih1 _ _ _ _)
      | (with_reducible exact ih2 _ _ _)
      | (with_reducible exact whole_Gcd.mono _ _ _)
      | (with_reducible exact whole_Meet.mono _ _ _ _ _)
      | (with_reducible exact whole_Solve.mono _ _ _ _)
      | (with_reducible exact LeO.refl _)
      | (with_reducible exact LeO.none _)
      | (with_reducible refine LeO.ite ?_ ?_)
      | (with_reducible refine LeO.bind ?_ (fun _ => ?_))
      | exact ih0 _ _ _
      | exact ih1 _ _ _ _
      | exact ih2 _ _ _
      | exact whole_Gcd.mono _ _ _
      | exact whole_Meet.mono _ _ _ _ _
      | exact whole_Solve.mono _ _ _ _
      | exact LeO.none _
      | refine LeO.ite ?_ ?_
      | refine LeO.bind ?_ (fun _ => ?_)
    · intro y0 y1 y2 y3
      unfold ephemeriskeep1_WholeBezout.j1
      repeat' first
      | (with_reducible exact ih0 _ _ _)
      | (with_reducible exact ih1 _ _ _ _)
      | (with_reducible exact ih2 _ _ _)
      | (with_reducible exact whole_Gcd.mono _ _ _)
      | (with_reducible exact whole_Meet.mono _ _ _ _ _)
      | (with_reducible exact whole_Solve.mono _ _ _ _)
      | (with_reducible exact LeO.refl _)
      | (with_reducible exact LeO.none _)
      | (with_reducible refine LeO.ite ?_ ?_)
      | (with_reducible refine LeO.bind ?_ (fun _ => ?_))
      | exact ih0 _ _ _
      | exact ih1 _ _ _ _
      | exact ih2 _ _ _
      | exact whole_Gcd.mono _ _ _
      | exact whole_Meet.mono _ _ _ _ _
      | exact whole_Solve.mono _ _ _ _
      | exact LeO.none _
      | refine LeO.ite ?_ ?_
      | refine LeO.bind ?_ (fun _ => ?_)
    · intro y0 y1 y2
      unfold ephemeriskeep1_WholeBezout.j2
      repeat' first
      | (with_reducible exact ih0 _ _ _)
      | (with_reducible exact ih1 _ _ _ _)
      | (with_reducible exact ih2 _ _ _)
      | (with_reducible exact whole_Gcd.mono _ _ _)
      | (with_reducible exact whole_Meet.mono _ _ _ _ _)
      | (with_reducible exact whole_Solve.mono _ _ _ _)
      | (with_reducible exact LeO.refl _)
      | (with_reducible exact LeO.none _)
      | (with_reducible refine LeO.ite ?_ ?_)
      | (with_reducible refine LeO.bind ?_ (fun _ => ?_))
      | exact ih0 _ _ _
      | exact ih1 _ _ _ _
      | exact ih2 _ _ _
      | exact whole_Gcd.mono _ _ _
      | exact whole_Meet.mono _ _ _ _ _
      | exact whole_Solve.mono _ _ _ _
      | exact LeO.none _
      | refine LeO.ite ?_ ?_
      | refine LeO.bind ?_ (fun _ => ?_)
theorem ephemeriskeep1_WholeBezout.mono : ∀ a0 a1 k, LeO (ephemeriskeep1_WholeBezout.f k a0 a1) (ephemeriskeep1_WholeBezout.f (k + 1) a0 a1) := by
  intro a0 a1 k
  obtain ⟨ih0, ih1, ih2⟩ := ephemeriskeep1_WholeBezout.mono_l k
  unfold ephemeriskeep1_WholeBezout.f
  repeat' first
      | (with_reducible exact ih0 _ _ _)
      | (with_reducible exact ih1 _ _ _ _)
      | (with_reducible exact ih2 _ _ _)
      | (with_reducible exact whole_Gcd.mono _ _ _)
      | (with_reducible exact whole_Meet.mono _ _ _ _ _)
      | (with_reducible exact whole_Solve.mono _ _ _ _)
      | (with_reducible exact LeO.refl _)
      | (with_reducible exact LeO.none _)
      | (with_reducible refine LeO.ite ?_ ?_)
      | (with_reducible refine LeO.bind ?_ (fun _ => ?_))
      | exact ih0 _ _ _
      | exact ih1 _ _ _ _
      | exact ih2 _ _ _
      | exact whole_Gcd.mono _ _ _
      | exact whole_Meet.mono _ _ _ _ _
      | exact whole_Solve.mono _ _ _ _
      | exact LeO.none _
      | refine LeO.ite ?_ ?_
      | refine LeO.bind ?_ (fun _ => ?_)
set_option maxHeartbeats 8000000 in
set_option maxRecDepth 100000 in
theorem ephemeriskeep1_WholeBezout.calls (k : Nat) (a0 : Int) (a1 : Int) (r : Bool) (w : World) (h : ephemeriskeep1_WholeBezout.f k a0 a1 = some r) :
    Calls Try.prog 6 #[.int .i64 a0, .int .i64 a1] w fun e w' => e = .returned (.bool r) ∧ Below w.heap.size w w' := by
  have HB := Aside0.mk (Below.refl w.heap.size w)
  have H : ((whole_Gcd.f k 4 6).bind fun bt127 => (if bt127.1 = 2 then (ephemeriskeep1_WholeBezout.j0 k a0 a1 (bt127.2 != 0)) else (ephemeriskeep1_WholeBezout.j0 k a0 a1 true))) = some r := h
  clear h
  replace H := Option.bind_eq_some_iff.mp H
  obtain ⟨⟨t127, t128⟩, A30, H⟩ := H
  replace H : (if t127 = 2 then (ephemeriskeep1_WholeBezout.j0 k a0 a1 (t128 != 0)) else (ephemeriskeep1_WholeBezout.j0 k a0 a1 true)) = some r := H
  have A3 := Aside0.mk A30
  clear A30
  have HC4 := Aside0.mk H
  clear H
  go_enter Try.func6, Try.ntmps6
  go_upto_region 2 with (first | ((with_reducible refine gate_callee (f := 22) rfl ?_); refine goesL_ (some 13) rfl rfl Try.func22 (by kernel_rfl) rfl #[.int .i64 4, .int .i64 6] rfl (by (try simp only [List.map_toArray, List.map_cons, List.map_nil]); first | done | rfl | (simp only [List.length_drop, List.length_take]; rfl)) ?_; (with_reducible refine (whole_Gcd.calls k 4 6 t127 t128 _ A3.out).mono ?_); rintro e w' ⟨rfl, ⟨nd, rfl⟩⟩; refine ⟨_, rfl, ?_⟩))
  (try simp only [Act.put, List.setIfInBounds_toArray, List.set_cons_zero, List.set_cons_succ])
  go_cut [21] (fun v21 wc => ∃ (kq : Nat) (x21_3 : Bool), v21 = .bool x21_3 ∧ Aside0 (ephemeriskeep1_WholeBezout.j0 kq a0 a1 x21_3 = some r) ∧ Aside0 (kq ≤ k) ∧ Aside0 (Below w.heap.size w wc))
  case first =>
    have H := HC4.out
    clear HC4
    by_cases c5 : t127 = 2
    · rw [if_pos c5] at H
      have c5b0 : (t127 == 2) = true := beq_iff_eq.mpr c5
      have c5b1 : (t127 != 2) = false := bne_eq_false_iff_eq.mpr c5
      clear c5
      (first | rw [c5b0] | (simp only [i64_w, i32_w]; rw [c5b0]) | skip)
      have H' := Aside0.mk H
      clear H
      go_wp2
      go_meet
      case rel => exact ⟨_, ((t128 != 0)), (by first | rfl | (simp; done) | (simp [*]; done)), H', ⟨by first | omega | exact Nat.le_refl _⟩, ⟨by repeat (first | (with_reducible first | exact HB.out | apply below_alloc | apply pw_below_drewN | apply below_drew1) | exact HB.out)⟩⟩
    · rw [if_neg c5] at H
      have c5b0 : (t127 == 2) = false := beq_eq_false_iff_ne.mpr c5
      have c5b1 : (t127 != 2) = true := bne_iff_ne.mpr c5
      (first | rw [c5b0] | (simp only [i64_w, i32_w]; rw [c5b0]) | skip)
      have H' := Aside0.mk H
      clear H
      go_wp2
      go_meet
      case rel => exact ⟨_, (true), (by first | rfl | (simp; done) | (simp [*]; done)), H', ⟨by first | omega | exact Nat.le_refl _⟩, ⟨by repeat (first | (with_reducible first | exact HB.out | apply below_alloc | apply pw_below_drewN | apply below_drew1) | exact HB.out)⟩⟩
  case rest =>
    clear HC4
    try clear p1
    try clear c2
    try clear p2
    try clear c5
    try clear c5b0
    try clear c5b1
    obtain ⟨kq, x21_3, rfl, HA, HJ3, HB⟩ := hcut
    cases kq with
    | zero => exact absurd HA.out (by simp [ephemeriskeep1_WholeBezout.j0])
    | succ kj3 =>
      have H := HA.out
      clear HA
      simp only [ephemeriskeep1_WholeBezout.j0] at H
      by_cases c6 : x21_3 = true
      · subst c6
        have H1 : (some false) = some r := by rw [if_pos rfl] at H; exact H
        clear H
        have H := H1
        clear H1
        obtain rfl := Option.some.inj H
        go_wp2
        go_ret
        exact ⟨by first | rfl | (simp [errW_none, errW_some] <;> rfl) | (simp [*, errW_none, errW_some] <;> rfl), by repeat (first | (with_reducible first | exact HB.out | apply below_alloc | apply pw_below_drewN | apply below_drew1) | exact HB.out)⟩
      · replace c6 := Bool.eq_false_iff.mpr c6
        subst c6
        have H1 : ((ephemeriskeep1_cut.f a0 (-100000) 200001).bind fun t129 => ((ephemeriskeep1_cut.f a1 1 100000).bind fun t130 => ((whole_Gcd.f kj3 t129 t130).bind fun bt131 => (if bt131.2 = 0 then (if bt131.1 < 1 then (ephemeriskeep1_WholeBezout.j1 kj3 t129 t130 bt131.1 true) else (if bt131.1 = 0 then (none) else (if (Int.tmod t129 bt131.1) = 0 then (ephemeriskeep1_WholeBezout.j1 kj3 t129 t130 bt131.1 ((Int.tmod t130 bt131.1) != 0)) else (ephemeriskeep1_WholeBezout.j1 kj3 t129 t130 bt131.1 true)))) else (ephemeriskeep1_WholeBezout.j1 kj3 t129 t130 bt131.1 true))))) = some r := by rw [if_neg (show ¬ (false = true) by decide)] at H; exact H
        clear H
        have H := H1
        clear H1
        replace H := Option.bind_eq_some_iff.mp H
        obtain ⟨t129, A70, H⟩ := H
        replace H : ((ephemeriskeep1_cut.f a1 1 100000).bind fun t130 => ((whole_Gcd.f kj3 t129 t130).bind fun bt131 => (if bt131.2 = 0 then (if bt131.1 < 1 then (ephemeriskeep1_WholeBezout.j1 kj3 t129 t130 bt131.1 true) else (if bt131.1 = 0 then (none) else (if (Int.tmod t129 bt131.1) = 0 then (ephemeriskeep1_WholeBezout.j1 kj3 t129 t130 bt131.1 ((Int.tmod t130 bt131.1) != 0)) else (ephemeriskeep1_WholeBezout.j1 kj3 t129 t130 bt131.1 true)))) else (ephemeriskeep1_WholeBezout.j1 kj3 t129 t130 bt131.1 true)))) = some r := H
        have A7 := Aside0.mk A70
        clear A70
        replace H := Option.bind_eq_some_iff.mp H
        obtain ⟨t130, A80, H⟩ := H
        replace H : ((whole_Gcd.f kj3 t129 t130).bind fun bt131 => (if bt131.2 = 0 then (if bt131.1 < 1 then (ephemeriskeep1_WholeBezout.j1 kj3 t129 t130 bt131.1 true) else (if bt131.1 = 0 then (none) else (if (Int.tmod t129 bt131.1) = 0 then (ephemeriskeep1_WholeBezout.j1 kj3 t129 t130 bt131.1 ((Int.tmod t130 bt131.1) != 0)) else (ephemeriskeep1_WholeBezout.j1 kj3 t129 t130 bt131.1 true)))) else (ephemeriskeep1_WholeBezout.j1 kj3 t129 t130 bt131.1 true))) = some r := H
        have A8 := Aside0.mk A80
        clear A80
        replace H := Option.bind_eq_some_iff.mp H
        obtain ⟨⟨t131, t132⟩, A90, H⟩ := H
        replace H : (if t132 = 0 then (if t131 < 1 then (ephemeriskeep1_WholeBezout.j1 kj3 t129 t130 t131 true) else (if t131 = 0 then (none) else (if (Int.tmod t129 t131) = 0 then (ephemeriskeep1_WholeBezout.j1 kj3 t129 t130 t131 ((Int.tmod t130 t131) != 0)) else (ephemeriskeep1_WholeBezout.j1 kj3 t129 t130 t131 true)))) else (ephemeriskeep1_WholeBezout.j1 kj3 t129 t130 t131 true)) = some r := H
        have A9 := Aside0.mk A90
        clear A90
        have HC10 := Aside0.mk H
        clear H
        go_upto_region 6 with (first | ((with_reducible refine gate_callee (f := 15) rfl ?_); refine goesL_ (some 23) rfl rfl Try.func15 (by kernel_rfl) rfl #[.int .i64 a0, .int .i64 (-100000), .int .i64 200001] rfl (by (try simp only [List.map_toArray, List.map_cons, List.map_nil]); first | done | rfl | (simp only [List.length_drop, List.length_take]; rfl)) ?_; (with_reducible refine (ephemeriskeep1_cut.calls a0 (-100000) 200001 t129 _ A7.out).mono ?_); rintro e w' ⟨rfl, ⟨nd, rfl⟩⟩; refine ⟨_, rfl, ?_⟩) | ((with_reducible refine gate_callee (f := 15) rfl ?_); refine goesL_ (some 25) rfl rfl Try.func15 (by kernel_rfl) rfl #[.int .i64 a1, .int .i64 1, .int .i64 100000] rfl (by (try simp only [List.map_toArray, List.map_cons, List.map_nil]); first | done | rfl | (simp only [List.length_drop, List.length_take]; rfl)) ?_; (with_reducible refine (ephemeriskeep1_cut.calls a1 1 100000 t130 _ A8.out).mono ?_); rintro e w' ⟨rfl, ⟨nd, rfl⟩⟩; refine ⟨_, rfl, ?_⟩) | ((with_reducible refine gate_callee (f := 22) rfl ?_); refine goesL_ (some 29) rfl rfl Try.func22 (by kernel_rfl) rfl #[.int .i64 t129, .int .i64 t130] rfl (by (try simp only [List.map_toArray, List.map_cons, List.map_nil]); first | done | rfl | (simp only [List.length_drop, List.length_take]; rfl)) ?_; (with_reducible refine (whole_Gcd.calls kj3 t129 t130 t131 t132 _ A9.out).mono ?_); rintro e w' ⟨rfl, ⟨nd, rfl⟩⟩; refine ⟨_, rfl, ?_⟩))
        (try simp only [Act.put, List.setIfInBounds_toArray, List.set_cons_zero, List.set_cons_succ])
        go_cut [49] (fun v49 wc => ∃ (kq : Nat) (x49_9 : Bool), v49 = .bool x49_9 ∧ Aside0 (ephemeriskeep1_WholeBezout.j1 kq t129 t130 t131 x49_9 = some r) ∧ Aside0 (kq ≤ kj3) ∧ Aside0 (Below w.heap.size w wc))
        case first =>
          have H := HC10.out
          clear HC10
          by_cases c11 : t132 = 0
          · rw [if_pos c11] at H
            have c11b0 : (t132 == 0) = true := beq_iff_eq.mpr c11
            have c11b1 : (t132 != 0) = false := bne_eq_false_iff_eq.mpr c11
            clear c11
            (first | rw [c11b0] | (simp only [i64_w, i32_w]; rw [c11b0]) | skip)
            by_cases c12 : t131 < 1
            · rw [if_pos c12] at H
              have c12b0 : decide (t131 < 1) = true := decide_eq_true c12
              clear c12
              have H' := Aside0.mk H
              clear H
              go_wp2
              go_meet
              case rel => exact ⟨_, (true), (by first | rfl | (simp; done) | (simp [*]; done)), H', ⟨by have := HJ3.out; first | omega | exact Nat.le_refl _⟩, ⟨by repeat (first | (with_reducible first | exact HB.out | apply below_alloc | apply pw_below_drewN | apply below_drew1) | exact HB.out)⟩⟩
            · rw [if_neg c12] at H
              have c12b0 : decide (t131 < 1) = false := decide_eq_false c12
              clear c12
              by_cases c13 : t131 = 0
              · rw [if_pos c13] at H
                exact absurd H (by simp)
              · rw [if_neg c13] at H
                have c13b0 : (t131 == 0) = false := beq_eq_false_iff_ne.mpr c13
                have c13b1 : (t131 != 0) = true := bne_iff_ne.mpr c13
                by_cases c14 : (Int.tmod t129 t131) = 0
                · rw [if_pos c14] at H
                  have c14b0 : ((Int.tmod t129 t131) == 0) = true := beq_iff_eq.mpr c14
                  have c14b1 : ((Int.tmod t129 t131) != 0) = false := bne_eq_false_iff_eq.mpr c14
                  clear c14
                  have H' := Aside0.mk H
                  clear H
                  go_wp2
                  go_meet
                  case rel => exact ⟨_, (((Int.tmod t130 t131) != 0)), (by first | rfl | (simp; done) | (simp [*]; done)), H', ⟨by have := HJ3.out; first | omega | exact Nat.le_refl _⟩, ⟨by repeat (first | (with_reducible first | exact HB.out | apply below_alloc | apply pw_below_drewN | apply below_drew1) | exact HB.out)⟩⟩
                · rw [if_neg c14] at H
                  have c14b0 : ((Int.tmod t129 t131) == 0) = false := beq_eq_false_iff_ne.mpr c14
                  have c14b1 : ((Int.tmod t129 t131) != 0) = true := bne_iff_ne.mpr c14
                  have H' := Aside0.mk H
                  clear H
                  go_wp2
                  go_meet
                  case rel => exact ⟨_, (true), (by first | rfl | (simp; done) | (simp [*]; done)), H', ⟨by have := HJ3.out; first | omega | exact Nat.le_refl _⟩, ⟨by repeat (first | (with_reducible first | exact HB.out | apply below_alloc | apply pw_below_drewN | apply below_drew1) | exact HB.out)⟩⟩
          · rw [if_neg c11] at H
            have c11b0 : (t132 == 0) = false := beq_eq_false_iff_ne.mpr c11
            have c11b1 : (t132 != 0) = true := bne_iff_ne.mpr c11
            (first | rw [c11b0] | (simp only [i64_w, i32_w]; rw [c11b0]) | skip)
            have H' := Aside0.mk H
            clear H
            go_wp2
            go_meet
            case rel => exact ⟨_, (true), (by first | rfl | (simp; done) | (simp [*]; done)), H', ⟨by have := HJ3.out; first | omega | exact Nat.le_refl _⟩, ⟨by repeat (first | (with_reducible first | exact HB.out | apply below_alloc | apply pw_below_drewN | apply below_drew1) | exact HB.out)⟩⟩
        case rest =>
          clear HC10
          try clear c1
          try clear p1
          try clear c2
          try clear p2
          try clear c5
          try clear c5b0
          try clear c5b1
          try clear c6
          try clear c11
          try clear c11b0
          try clear c11b1
          try clear c12
          try clear c12b0
          try clear c13
          try clear c13b0
          try clear c13b1
          try clear c14
          try clear c14b0
          try clear c14b1
          try clear p1
          try clear p2
          obtain ⟨kq, x49_9, rfl, HA, HJ9, HB⟩ := hcut
          cases kq with
          | zero => exact absurd HA.out (by simp [ephemeriskeep1_WholeBezout.j1])
          | succ kj9 =>
            have H := HA.out
            clear HA
            simp only [ephemeriskeep1_WholeBezout.j1] at H
            by_cases c15 : x49_9 = true
            · subst c15
              have H1 : (some false) = some r := by rw [if_pos rfl] at H; exact H
              clear H
              have H := H1
              clear H1
              obtain rfl := Option.some.inj H
              go_wp2
              go_ret
              exact ⟨by first | rfl | (simp [errW_none, errW_some] <;> rfl) | (simp [*, errW_none, errW_some] <;> rfl), by repeat (first | (with_reducible first | exact HB.out | apply below_alloc | apply pw_below_drewN | apply below_drew1) | exact HB.out)⟩
            · replace c15 := Bool.eq_false_iff.mpr c15
              subst c15
              have H1 : ((whole_Solve.f kj9 t129 t131 t130).bind fun bt133 => (if bt133.2 = 0 then ((ephemeriskeep1_mod.f (wrap64 ((wrap64 (t129 * bt133.1)) - t131)) t130).bind fun t135 => (ephemeriskeep1_WholeBezout.j2 kj9 t129 t130 (t135 != 0))) else (ephemeriskeep1_WholeBezout.j2 kj9 t129 t130 true))) = some r := by rw [if_neg (show ¬ (false = true) by decide)] at H; exact H
              clear H
              have H := H1
              clear H1
              replace H := Option.bind_eq_some_iff.mp H
              obtain ⟨⟨t133, t134⟩, A160, H⟩ := H
              replace H : (if t134 = 0 then ((ephemeriskeep1_mod.f (wrap64 ((wrap64 (t129 * t133)) - t131)) t130).bind fun t135 => (ephemeriskeep1_WholeBezout.j2 kj9 t129 t130 (t135 != 0))) else (ephemeriskeep1_WholeBezout.j2 kj9 t129 t130 true)) = some r := H
              have A16 := Aside0.mk A160
              clear A160
              have HC17 := Aside0.mk H
              clear H
              go_upto_region 9 with (first | ((with_reducible refine gate_callee (f := 23) rfl ?_); refine goesL_ (some 54) rfl rfl Try.func23 (by kernel_rfl) rfl #[.int .i64 t129, .int .i64 t131, .int .i64 t130] rfl (by (try simp only [List.map_toArray, List.map_cons, List.map_nil]); first | done | rfl | (simp only [List.length_drop, List.length_take]; rfl)) ?_; (with_reducible refine (whole_Solve.calls kj9 t129 t131 t130 t133 t134 _ A16.out).mono ?_); rintro e w18 ⟨rfl, hb⟩; refine ⟨_, rfl, ?_⟩; have n0_ := Aside0.mk (below_step (by repeat (first | (with_reducible first | exact HB.out | apply below_alloc | apply pw_below_drewN | apply below_drew1) | exact HB.out)) hb); clear HB; have HB := n0_; clear n0_; (try clear hb); (try clear hb2); (try clear hk); (try clear hi)))
              (try simp only [Act.put, List.setIfInBounds_toArray, List.set_cons_zero, List.set_cons_succ])
              go_cut [68] (fun v68 wc => ∃ (kq : Nat) (x68_16 : Bool), v68 = .bool x68_16 ∧ Aside0 (ephemeriskeep1_WholeBezout.j2 kq t129 t130 x68_16 = some r) ∧ Aside0 (kq ≤ kj9) ∧ Aside0 (Below w.heap.size w wc))
              case first =>
                have H := HC17.out
                clear HC17
                by_cases c19 : t134 = 0
                · rw [if_pos c19] at H
                  have c19b0 : (t134 == 0) = true := beq_iff_eq.mpr c19
                  have c19b1 : (t134 != 0) = false := bne_eq_false_iff_eq.mpr c19
                  clear c19
                  (first | rw [c19b0] | (simp only [i64_w, i32_w]; rw [c19b0]) | skip)
                  replace H := Option.bind_eq_some_iff.mp H
                  obtain ⟨t135, A200, H⟩ := H
                  replace H : (ephemeriskeep1_WholeBezout.j2 kj9 t129 t130 (t135 != 0)) = some r := H
                  have A20 := Aside0.mk A200
                  clear A200
                  have H' := Aside0.mk H
                  clear H
                  go_wp2_with (first | (go_at_call 24; (with_reducible refine (ephemeriskeep1_mod.calls (wrap64 ((wrap64 (t129 * t133)) - t131)) t130 t135 _ A20.out).mono ?_); rintro e w' ⟨rfl, ⟨nd, rfl⟩⟩))
                  go_meet
                  case rel => exact ⟨_, ((t135 != 0)), (by first | rfl | (simp; done) | (simp [*]; done)), H', ⟨by have := HJ3.out; have := HJ9.out; first | omega | exact Nat.le_refl _⟩, ⟨by repeat (first | (with_reducible first | exact HB.out | apply below_alloc | apply pw_below_drewN | apply below_drew1) | exact HB.out)⟩⟩
                · rw [if_neg c19] at H
                  have c19b0 : (t134 == 0) = false := beq_eq_false_iff_ne.mpr c19
                  have c19b1 : (t134 != 0) = true := bne_iff_ne.mpr c19
                  (first | rw [c19b0] | (simp only [i64_w, i32_w]; rw [c19b0]) | skip)
                  have H' := Aside0.mk H
                  clear H
                  go_wp2
                  go_meet
                  case rel => exact ⟨_, (true), (by first | rfl | (simp; done) | (simp [*]; done)), H', ⟨by have := HJ3.out; have := HJ9.out; first | omega | exact Nat.le_refl _⟩, ⟨by repeat (first | (with_reducible first | exact HB.out | apply below_alloc | apply pw_below_drewN | apply below_drew1) | exact HB.out)⟩⟩
              case rest =>
                clear HC17
                try clear c1
                try clear p1
                try clear c2
                try clear p2
                try clear c5
                try clear c5b0
                try clear c5b1
                try clear c6
                try clear p6
                try clear c11
                try clear c11b0
                try clear c11b1
                try clear c12
                try clear c12b0
                try clear c13
                try clear c13b0
                try clear c13b1
                try clear c14
                try clear c14b0
                try clear c14b1
                try clear c15
                try clear c19
                try clear c19b0
                try clear c19b1
                try clear p1
                try clear p2
                obtain ⟨kq, x68_16, rfl, HA, HJ16, HB⟩ := hcut
                cases kq with
                | zero => exact absurd HA.out (by simp [ephemeriskeep1_WholeBezout.j2])
                | succ kj16 =>
                  have H := HA.out
                  clear HA
                  simp only [ephemeriskeep1_WholeBezout.j2] at H
                  by_cases c21 : x68_16 = true
                  · subst c21
                    have H1 : (some false) = some r := by rw [if_pos rfl] at H; exact H
                    clear H
                    have H := H1
                    clear H1
                    obtain rfl := Option.some.inj H
                    go_wp2
                    go_ret
                    exact ⟨by first | rfl | (simp [errW_none, errW_some] <;> rfl) | (simp [*, errW_none, errW_some] <;> rfl), by repeat (first | (with_reducible first | exact HB.out | apply below_alloc | apply pw_below_drewN | apply below_drew1) | exact HB.out)⟩
                  · replace c21 := Bool.eq_false_iff.mpr c21
                    subst c21
                    have H1 : ((whole_Meet.f kj16 t129 t130 t129 t130).bind fun bt136 => (if bt136.2.2 = 0 then ((ephemeriskeep1_mod.f t129 t130).bind fun t139 => (if bt136.1 = t139 then (some (bt136.2.1 == t130)) else (some false))) else (some false))) = some r := by rw [if_neg (show ¬ (false = true) by decide)] at H; exact H
                    clear H
                    have H := H1
                    clear H1
                    replace H := Option.bind_eq_some_iff.mp H
                    obtain ⟨⟨t136, t137, t138⟩, A220, H⟩ := H
                    replace H : (if t138 = 0 then ((ephemeriskeep1_mod.f t129 t130).bind fun t139 => (if t136 = t139 then (some (t137 == t130)) else (some false))) else (some false)) = some r := H
                    have A22 := Aside0.mk A220
                    clear A220
                    by_cases c23 : t138 = 0
                    · rw [if_pos c23] at H
                      have c23b0 : (t138 == 0) = true := beq_iff_eq.mpr c23
                      have c23b1 : (t138 != 0) = false := bne_eq_false_iff_eq.mpr c23
                      clear c23
                      replace H := Option.bind_eq_some_iff.mp H
                      obtain ⟨t139, A240, H⟩ := H
                      replace H : (if t136 = t139 then (some (t137 == t130)) else (some false)) = some r := H
                      have A24 := Aside0.mk A240
                      clear A240
                      by_cases c25 : t136 = t139
                      · rw [if_pos c25] at H
                        have c25b0 : (t136 == t139) = true := beq_iff_eq.mpr c25
                        have c25b1 : (t136 != t139) = false := bne_eq_false_iff_eq.mpr c25
                        clear c25
                        obtain rfl := Option.some.inj H
                        go_wp2_with (first | ((with_reducible refine gate_callee (f := 25) rfl ?_); refine goesL_ (some 74) rfl rfl Try.func25 (by kernel_rfl) rfl #[.int .i64 t129, .int .i64 t130, .int .i64 t129, .int .i64 t130] rfl (by (try simp only [List.map_toArray, List.map_cons, List.map_nil]); first | done | rfl | (simp only [List.length_drop, List.length_take]; rfl)) ?_; (with_reducible refine (whole_Meet.calls kj16 t129 t130 t129 t130 t136 t137 t138 _ A22.out).mono ?_); rintro e w26 ⟨rfl, hb⟩; refine ⟨_, rfl, ?_⟩; have n0_ := Aside0.mk (below_step (by repeat (first | (with_reducible first | exact HB.out | apply below_alloc | apply pw_below_drewN | apply below_drew1) | exact HB.out)) hb); clear HB; have HB := n0_; clear n0_; (try clear hb); (try clear hb2); (try clear hk); (try clear hi)) | (go_at_call 24; (with_reducible refine (ephemeriskeep1_mod.calls t129 t130 t139 _ A24.out).mono ?_); rintro e w' ⟨rfl, ⟨nd, rfl⟩⟩))
                        go_ret
                        exact ⟨by first | rfl | (simp [errW_none, errW_some] <;> rfl) | (simp [*, errW_none, errW_some] <;> rfl), by repeat (first | (with_reducible first | exact HB.out | apply below_alloc | apply pw_below_drewN | apply below_drew1) | exact HB.out)⟩
                      · rw [if_neg c25] at H
                        have c25b0 : (t136 == t139) = false := beq_eq_false_iff_ne.mpr c25
                        have c25b1 : (t136 != t139) = true := bne_iff_ne.mpr c25
                        obtain rfl := Option.some.inj H
                        go_wp2_with (first | ((with_reducible refine gate_callee (f := 25) rfl ?_); refine goesL_ (some 74) rfl rfl Try.func25 (by kernel_rfl) rfl #[.int .i64 t129, .int .i64 t130, .int .i64 t129, .int .i64 t130] rfl (by (try simp only [List.map_toArray, List.map_cons, List.map_nil]); first | done | rfl | (simp only [List.length_drop, List.length_take]; rfl)) ?_; (with_reducible refine (whole_Meet.calls kj16 t129 t130 t129 t130 t136 t137 t138 _ A22.out).mono ?_); rintro e w27 ⟨rfl, hb⟩; refine ⟨_, rfl, ?_⟩; have n0_ := Aside0.mk (below_step (by repeat (first | (with_reducible first | exact HB.out | apply below_alloc | apply pw_below_drewN | apply below_drew1) | exact HB.out)) hb); clear HB; have HB := n0_; clear n0_; (try clear hb); (try clear hb2); (try clear hk); (try clear hi)) | (go_at_call 24; (with_reducible refine (ephemeriskeep1_mod.calls t129 t130 t139 _ A24.out).mono ?_); rintro e w' ⟨rfl, ⟨nd, rfl⟩⟩))
                        go_ret
                        exact ⟨by first | rfl | (simp [errW_none, errW_some] <;> rfl) | (simp [*, errW_none, errW_some] <;> rfl), by repeat (first | (with_reducible first | exact HB.out | apply below_alloc | apply pw_below_drewN | apply below_drew1) | exact HB.out)⟩
                    · rw [if_neg c23] at H
                      have c23b0 : (t138 == 0) = false := beq_eq_false_iff_ne.mpr c23
                      have c23b1 : (t138 != 0) = true := bne_iff_ne.mpr c23
                      obtain rfl := Option.some.inj H
                      go_wp2_with (first | ((with_reducible refine gate_callee (f := 25) rfl ?_); refine goesL_ (some 74) rfl rfl Try.func25 (by kernel_rfl) rfl #[.int .i64 t129, .int .i64 t130, .int .i64 t129, .int .i64 t130] rfl (by (try simp only [List.map_toArray, List.map_cons, List.map_nil]); first | done | rfl | (simp only [List.length_drop, List.length_take]; rfl)) ?_; (with_reducible refine (whole_Meet.calls kj16 t129 t130 t129 t130 t136 t137 t138 _ A22.out).mono ?_); rintro e w28 ⟨rfl, hb⟩; refine ⟨_, rfl, ?_⟩; have n0_ := Aside0.mk (below_step (by repeat (first | (with_reducible first | exact HB.out | apply below_alloc | apply pw_below_drewN | apply below_drew1) | exact HB.out)) hb); clear HB; have HB := n0_; clear n0_; (try clear hb); (try clear hb2); (try clear hk); (try clear hi)))
                      go_ret
                      exact ⟨by first | rfl | (simp [errW_none, errW_some] <;> rfl) | (simp [*, errW_none, errW_some] <;> rfl), by repeat (first | (with_reducible first | exact HB.out | apply below_alloc | apply pw_below_drewN | apply below_drew1) | exact HB.out)⟩

/-- THE ONE PURE STATEMENT of ephemeriskeep1_WholeBezout: yours. -/
def ephemeriskeep1_WholeBezout.Pure : Prop := ∀ (a0 : Int) (a1 : Int), (Lit.int .i64 a0).wf = true → (Lit.int .i64 a1).wf = true → ∃ k, ephemeriskeep1_WholeBezout.f k a0 a1 = some true
theorem ephemeriskeep1_WholeBezout.walk (P : ephemeriskeep1_WholeBezout.Pure) (a0 : Int) (a1 : Int) (w : World) (w0 : (Lit.int .i64 a0).wf = true) (w1 : (Lit.int .i64 a1).wf = true) :
    Calls Try.prog 6 #[.int .i64 a0, .int .i64 a1] w fun e w' => e = .returned (.bool true) ∧ Below w.heap.size w w' := by
  obtain ⟨k, h⟩ := P a0 a1 w0 w1
  refine (ephemeriskeep1_WholeBezout.calls k a0 a1 true w h).mono ?_
  rintro e w' ⟨rfl, hd⟩
  exact ⟨rfl, hd⟩

end Go.Proofs.Ytboddbgmgcjppaa.PWholeBezout
