-- Written by a program of ours over the translation of this seat. Not trusted: Lean checks it.
import Derived.Test.YtboddbgmgcjppaaDoorQRuleNegatesx0
namespace Go.Proofs.YtboddbgmgcjppaaDoor.QRuleNegates
open Go.RowKit Go.Proofs.YtboddbgmgcjppaaDoorW.PrintWords Go.Proofs.YtboddbgmgcjppaaDoorW.PrintLast Go.Proofs.YtboddbgmgcjppaaDoorW.PrintMore
attribute [local go_sem] max2_int min2_int max_two min_two max_three min_three max_four min_four   -- for this text's walks alone
set_option linter.unusedVariables false
set_option linter.unusedSimpArgs false

/-! ### rule_boolean: function 11 -/
def rule_boolean.f (a0 : Bool) : Option (Int) := if a0 = true then (some 1) else (some 0)
set_option maxHeartbeats 8000000 in
set_option maxRecDepth 100000 in
theorem rule_boolean.calls (a0 : Bool) (r : Int) (w : World) (h : rule_boolean.f a0 = some r) :
  Calls Tryd.prog 11 #[.bool a0] w fun e w' => e = .returned (.int .i64 r) ∧ Drawn0 w w' := by
 have H : (if a0 = true then (some 1) else (some 0)) = some r := h
 clear h
 by_cases c2 : a0 = true
 ·subst c2
  have H1 : (some 1) = some r := by rw [if_pos rfl] at H; exact H
  clear H
  have H := H1
  clear H1
  obtain rfl := Option.some.inj H
  go_enter Tryd.func11, Tryd.ntmps11
  go_wp2
  go_ret
  exact ⟨by first | rfl | (simp; done) | (simp [*]; done) | (simp [bne]; done) | (simp only [i64_w, i32_w]; done) | (simp [i64_w, i32_w]; done), by repeat (first | exact Drawn0.refl _ | apply Drawn0.step)⟩
 ·replace c2 := Bool.eq_false_iff.mpr c2
  subst c2
  have H1 : (some 0) = some r := by rw [if_neg (show ¬ (false = true) by decide)] at H; exact H
  clear H
  have H := H1
  clear H1
  obtain rfl := Option.some.inj H
  go_enter Tryd.func11, Tryd.ntmps11
  go_wp2
  go_ret
  exact ⟨by first | rfl | (simp; done) | (simp [*]; done) | (simp [bne]; done) | (simp only [i64_w, i32_w]; done) | (simp [i64_w, i32_w]; done), by repeat (first | exact Drawn0.refl _ | apply Drawn0.step)⟩

end Go.Proofs.YtboddbgmgcjppaaDoor.QRuleNegates
