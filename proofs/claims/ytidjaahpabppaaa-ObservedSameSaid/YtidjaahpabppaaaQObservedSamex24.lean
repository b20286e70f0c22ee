import Derived.Test.YtidjaahpabppaaaQObservedSamex0
import Derived.Test.YtidjaahpabppaaaQObservedSamex23
namespace Go.Proofs.Ytidjaahpabppaaa.QObservedSame
open Go.RowKit Go.Proofs.YtidjaahpabppaaaW.PrintWords Go.Proofs.YtidjaahpabppaaaW.PrintLast Go.Proofs.YtidjaahpabppaaaW.PrintMore
attribute [local go_sem] max2_int min2_int max_two min_two max_three min_three max_four min_four
set_option linter.unusedVariables false
set_option linter.unusedSimpArgs false

/-! ### ephemeriskeep1_cut: function 13 -/
def ephemeriskeep1_cut.f (a0 : Int) (a1 : Int) (a2 : Int) : Option (Int) := (ephemeriskeep1_mod.f a0 a2).bind fun t213 => (some (wrap64 (a1 + t213)))
set_option maxHeartbeats 8000000 in
set_option maxRecDepth 100000 in
theorem ephemeriskeep1_cut.calls (a0 : Int) (a1 : Int) (a2 : Int) (r : Int) (w : World) (h : ephemeriskeep1_cut.f a0 a1 a2 = some r) :
  Calls Try.prog 13 #[.int .i64 a0, .int .i64 a1, .int .i64 a2] w fun e w' => e = .returned (.int .i64 r) ∧ Drawn0 w w' := by
 have H : ((ephemeriskeep1_mod.f a0 a2).bind fun t213 => (some (wrap64 (a1 + t213)))) = some r := h
 clear h
 replace H := Option.bind_eq_some_iff.mp H
 obtain ⟨t213, A40, H⟩ := H
 replace H : (some (wrap64 (a1 + t213))) = some r := H
 have A4 := Aside0.mk A40
 clear A40
 obtain rfl := Option.some.inj H
 go_enter Try.func13, Try.ntmps13
 go_wp2_with (first | ((with_reducible refine gate_callee (f := 43) rfl ?_); refine goesL_ (some 10) rfl rfl Try.func43 (by kernel_rfl) rfl #[.int .i64 a0, .int .i64 a2] rfl (by (try simp only [List.map_toArray, List.map_cons, List.map_nil]); first | done | rfl) ?_; (with_reducible refine (ephemeriskeep1_mod.calls a0 a2 t213 _ A4.out).mono ?_); rintro e w' ⟨rfl, ⟨nd, rfl⟩⟩; refine ⟨_, rfl, ?_⟩))
 go_ret
 exact ⟨by first | rfl | (simp; done) | (simp [*]; done) | (simp [bne]; done) | (simp [i64_w, i32_w]; done), by repeat (first | exact Drawn0.refl _ | apply Drawn0.step)⟩

end Go.Proofs.Ytidjaahpabppaaa.QObservedSame
