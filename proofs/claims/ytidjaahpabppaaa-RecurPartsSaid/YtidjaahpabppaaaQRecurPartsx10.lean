-- Written by a program of ours over the translation of this seat. Not trusted: Lean checks it.
import Derived.Test.YtidjaahpabppaaaQRecurPartsx0
import Derived.Test.YtidjaahpabppaaaQRecurPartsx9
namespace Go.Proofs.Ytidjaahpabppaaa.QRecurParts
open Go.RowKit Go.Proofs.YtidjaahpabppaaaW.PrintWords Go.Proofs.YtidjaahpabppaaaW.PrintLast Go.Proofs.YtidjaahpabppaaaW.PrintMore
attribute [local go_sem] max2_int min2_int max_two min_two max_three min_three max_four min_four   -- for this text's walks alone
set_option linter.unusedVariables false
set_option linter.unusedSimpArgs false

/-! ### line_begin: function 70 -/
def line_begin.f (k : Nat) (a0 : Int) : Option (Int) := (whole_Div.f k (wrap64 (a0 - 1)) 4).bind fun bt113 => ((whole_Div.f k (wrap64 (a0 - 1)) 100).bind fun bt116 => ((whole_Div.f k (wrap64 (a0 - 1)) 400).bind fun bt119 => (some (wrap64 ((wrap64 ((wrap64 ((wrap64 (365 * (wrap64 (a0 - 1)))) + bt113.1)) - bt116.1)) + bt119.1)))))
theorem line_begin.mono : ∀ a0 k, LeO (line_begin.f k a0) (line_begin.f (k + 1) a0) := by
 intro a0 k
 unfold line_begin.f
 repeat' first
   | (with_reducible exact whole_Div.mono _ _ _)
   | (with_reducible exact LeO.refl _)
   | (with_reducible exact LeO.none _)
   | (with_reducible refine LeO.ite ?_ ?_)
   | (with_reducible refine LeO.bind ?_ (fun _ => ?_))
   | exact whole_Div.mono _ _ _
   | exact LeO.none _
   | refine LeO.ite ?_ ?_
   | refine LeO.bind ?_ (fun _ => ?_)
set_option maxHeartbeats 8000000 in
set_option maxRecDepth 100000 in
theorem line_begin.calls (k : Nat) (a0 : Int) (r : Int) (w : World) (h : line_begin.f k a0 = some r) :
  Calls Try.prog 70 #[.int .i64 a0] w fun e w' => e = .returned (.int .i64 r) ∧ Drawn0 w w' := by
 have H : ((whole_Div.f k (wrap64 (a0 - 1)) 4).bind fun bt113 => ((whole_Div.f k (wrap64 (a0 - 1)) 100).bind fun bt116 => ((whole_Div.f k (wrap64 (a0 - 1)) 400).bind fun bt119 => (some (wrap64 ((wrap64 ((wrap64 ((wrap64 (365 * (wrap64 (a0 - 1)))) + bt113.1)) - bt116.1)) + bt119.1)))))) = some r := h
 clear h
 replace H := Option.bind_eq_some_iff.mp H
 obtain ⟨⟨t113, t114, t115⟩, A20, H⟩ := H
 replace H : ((whole_Div.f k (wrap64 (a0 - 1)) 100).bind fun bt116 => ((whole_Div.f k (wrap64 (a0 - 1)) 400).bind fun bt119 => (some (wrap64 ((wrap64 ((wrap64 ((wrap64 (365 * (wrap64 (a0 - 1)))) + t113)) - bt116.1)) + bt119.1))))) = some r := H
 have A2 := Aside0.mk A20
 clear A20
 replace H := Option.bind_eq_some_iff.mp H
 obtain ⟨⟨t116, t117, t118⟩, A30, H⟩ := H
 replace H : ((whole_Div.f k (wrap64 (a0 - 1)) 400).bind fun bt119 => (some (wrap64 ((wrap64 ((wrap64 ((wrap64 (365 * (wrap64 (a0 - 1)))) + t113)) - t116)) + bt119.1)))) = some r := H
 have A3 := Aside0.mk A30
 clear A30
 replace H := Option.bind_eq_some_iff.mp H
 obtain ⟨⟨t119, t120, t121⟩, A40, H⟩ := H
 replace H : (some (wrap64 ((wrap64 ((wrap64 ((wrap64 (365 * (wrap64 (a0 - 1)))) + t113)) - t116)) + t119))) = some r := H
 have A4 := Aside0.mk A40
 clear A40
 obtain rfl := Option.some.inj H
 go_enter Try.func70, Try.ntmps70
 go_wp2_with (first | ((with_reducible refine gate_callee (f := 62) rfl ?_); refine goesL_ (some 17) rfl rfl Try.func62 (by kernel_rfl) rfl #[.int .i64 (wrap64 (a0 - 1)), .int .i64 4] rfl (by (try simp only [List.map_toArray, List.map_cons, List.map_nil]); first | done | rfl | (simp only [List.length_drop, List.length_take]; rfl)) ?_; (with_reducible refine (whole_Div.calls k (wrap64 (a0 - 1)) 4 t113 t114 t115 _ A2.out).mono ?_); rintro e w' ⟨rfl, ⟨nd, rfl⟩⟩; refine ⟨_, rfl, ?_⟩) | ((with_reducible refine gate_callee (f := 62) rfl ?_); refine goesL_ (some 23) rfl rfl Try.func62 (by kernel_rfl) rfl #[.int .i64 (wrap64 (a0 - 1)), .int .i64 100] rfl (by (try simp only [List.map_toArray, List.map_cons, List.map_nil]); first | done | rfl | (simp only [List.length_drop, List.length_take]; rfl)) ?_; (with_reducible refine (whole_Div.calls k (wrap64 (a0 - 1)) 100 t116 t117 t118 _ A3.out).mono ?_); rintro e w' ⟨rfl, ⟨nd, rfl⟩⟩; refine ⟨_, rfl, ?_⟩) | ((with_reducible refine gate_callee (f := 62) rfl ?_); refine goesL_ (some 29) rfl rfl Try.func62 (by kernel_rfl) rfl #[.int .i64 (wrap64 (a0 - 1)), .int .i64 400] rfl (by (try simp only [List.map_toArray, List.map_cons, List.map_nil]); first | done | rfl | (simp only [List.length_drop, List.length_take]; rfl)) ?_; (with_reducible refine (whole_Div.calls k (wrap64 (a0 - 1)) 400 t119 t120 t121 _ A4.out).mono ?_); rintro e w' ⟨rfl, ⟨nd, rfl⟩⟩; refine ⟨_, rfl, ?_⟩))
 go_ret
 exact ⟨by first | rfl | (simp; done) | (simp [*]; done) | (simp [bne]; done) | (simp only [i64_w, i32_w]; done) | (simp [i64_w, i32_w]; done), by repeat (first | exact Drawn0.refl _ | apply Drawn0.step)⟩

end Go.Proofs.Ytidjaahpabppaaa.QRecurParts
