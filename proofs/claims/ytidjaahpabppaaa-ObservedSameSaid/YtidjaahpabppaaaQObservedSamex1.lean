import Derived.Test.YtidjaahpabppaaaQObservedSamex0
namespace Go.Proofs.Ytidjaahpabppaaa.QObservedSame
open Go.RowKit Go.Proofs.YtidjaahpabppaaaW.PrintWords Go.Proofs.YtidjaahpabppaaaW.PrintLast Go.Proofs.YtidjaahpabppaaaW.PrintMore
attribute [local go_sem] max2_int min2_int max_two min_two max_three min_three max_four min_four
set_option linter.unusedVariables false
set_option linter.unusedSimpArgs false

/-! ### line_Check: function 38 -/
def line_Check.f (a0 : Int) : Option (Int) := if a0 < (-4000000) then (some 3) else (if a0 > 4000000 then (some 3) else (some 0))
set_option maxHeartbeats 8000000 in
set_option maxRecDepth 100000 in
theorem line_Check.calls (a0 : Int) (r : Int) (w : World) (h : line_Check.f a0 = some r) :
  Calls Try.prog 38 #[.int .i64 a0] w fun e w' => e = .returned (.int .i64 r) ∧ Drawn0 w w' := by
 have H : (if a0 < (-4000000) then (some 3) else (if a0 > 4000000 then (some 3) else (some 0))) = some r := h
 clear h
 by_cases c2 : a0 < (-4000000)
 ·rw [if_pos c2] at H
  have c2b0 : decide (a0 < (-4000000)) = true := decide_eq_true c2
  clear c2
  obtain rfl := Option.some.inj H
  go_enter Try.func38, Try.ntmps38
  go_wp2
  go_ret
  exact ⟨by first | rfl | (simp; done) | (simp [*]; done) | (simp [bne]; done) | (simp [i64_w, i32_w]; done), by repeat (first | exact Drawn0.refl _ | apply Drawn0.step)⟩
 ·rw [if_neg c2] at H
  have c2b0 : decide (a0 < (-4000000)) = false := decide_eq_false c2
  clear c2
  by_cases c3 : a0 > 4000000
  ·rw [if_pos c3] at H
   have c3b0 : decide (4000000 < a0) = true := decide_eq_true c3
   clear c3
   obtain rfl := Option.some.inj H
   go_enter Try.func38, Try.ntmps38
   go_wp2
   go_ret
   exact ⟨by first | rfl | (simp; done) | (simp [*]; done) | (simp [bne]; done) | (simp [i64_w, i32_w]; done), by repeat (first | exact Drawn0.refl _ | apply Drawn0.step)⟩
  ·rw [if_neg c3] at H
   have c3b0 : decide (4000000 < a0) = false := decide_eq_false c3
   clear c3
   obtain rfl := Option.some.inj H
   go_enter Try.func38, Try.ntmps38
   go_wp2
   go_ret
   exact ⟨by first | rfl | (simp; done) | (simp [*]; done) | (simp [bne]; done) | (simp [i64_w, i32_w]; done), by repeat (first | exact Drawn0.refl _ | apply Drawn0.step)⟩

end Go.Proofs.Ytidjaahpabppaaa.QObservedSame
