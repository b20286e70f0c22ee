/- The row of the law ObservedSame: what its arguments read as, handed to the walk of its printed function. -/
import Derived.Test.YtidjaahpabppaaaRows
import Derived.Test.YtidjaahpabppaaaStmtObservedSame
import Derived.Test.YtidjaahpabppaaaPureObservedSame
import Derived.WalkKit
import Derived.ProofKit
import Derived.OpenShut
import Derived.ShutString
import Derived.ChangeOld
import Derived.Below
import Derived.SizedLaws
import Derived.Carry
set_option linter.unusedVariables false
set_option linter.unusedSimpArgs false
namespace Go.Proofs.Ytidjaahpabppaaa.observedSame
open Go.ChangeShapes Go.WideShapes Go.ChangeAt Go.RowKit
open Go.ChangeMaps (open_string shut_string)
open Go.Proofs.YtidjaahpabppaaaW.PrintWords Go.Proofs.YtidjaahpabppaaaOpens
theorem own : ownKnob Try.prog.godebug = none := by kernel_rfl
theorem laidOut : laidOutB Try.prog = true := by kernel_rfl
set_option maxRecDepth 100000 in
theorem lifted (os : Os) (started : os.Started) (H : Type) (enc : TypeId × Value → H) :
    ReturnsInHanded {} Try.checked os 10 .any (Rows.observedSameSpec.pre6 enc Try.prog Try.f10 Rows.observedSameRow.domain false) (Rows.observedSameSpec.post enc Try.prog Try.f10 false true false false) := by
  refine returnsInHanded_of_change_sized (C := Try.checked) own started (by kernel_rfl) Try.func10
    (ChangeSpec.witness6 (enc := enc) (C := Try.checked) false ⟨#[], #[.agg #[.string ByteArray.empty, .int .i64 0, .int .i64 0, .int .i64 0, .int .i64 0, .int .i64 0, .int .i64 0, .int .i64 0, .int .i64 0, .slice none 0 0, .slice none 0 0], .int .i64 0, .int .i64 0], []⟩ 8 (by kernel_rfl) (by kernel_rfl) (by kernel_rfl) (by kernel_rfl)) ?_
  intro W base args ds gs before hval0 hW hcnd hsz0 _
  have hsz : (DataW.weightsEach Try.prog (Try.f10.params.toList ++ Rows.observedSameSpec.plain.varTypes Try.prog) (ds ++ gs)).all (· ≤ reachBytes) = true := hsz0
  have hval : ∀ (j : Nat) t v, Try.f10.params[j]? = some t → args[j]? = some v → Value.okWide Try.prog W .any base t v := hval0
  have hW' := hW
  obtain ⟨p, q, hA0, hV, rfl, hfz, hnd⟩ := hW
  have hA : DataW.TrodAll enc Try.prog W 0 (fun _ => true) true Try.f10.params.toList args.toList ds p := hA0
  rw [Try.params10] at hA hval hsz
  obtain ⟨v0, vs0, d0, ds0, p0, q0, hargs, rfl, rfl, h0, r0⟩ := trodAll_cons hA
  obtain ⟨v1, vs1, d1, ds1, p1, q1, rfl, rfl, rfl, h1, r1⟩ := trodAll_cons r0
  obtain ⟨v2, vs2, d2, ds2, p2, q2, rfl, rfl, rfl, h2, r2⟩ := trodAll_cons r1
  obtain ⟨rfl, rfl, rfl⟩ := trodAll_nil r2
  obtain rfl : args = #[v0, v1, v2] := by cases args; simp_all
  obtain ⟨rfl, rfl⟩ := trodVars_none hV
  have k0 := h0
  have lt0 : ∀ x ∈ p0, x.block < W.heap.size := by obtain ⟨m, hm⟩ := k0; exact DataW.trod_lt m _ _ _ hm
  obtain ⟨y0, ky0, wy0⟩ := opens_arg (QObservedSame.op26 W) h0 (light_of_row hsz (j := 0) rfl rfl)
  obtain ⟨C0, rfl, hs0⟩ := okWide_struct Try.underlying26 (hval 0 26 v0 rfl rfl)
  replace ky0 : (Kd.pair Kd.string (Kd.pair (Kd.int .i64) (Kd.pair (Kd.pair (Kd.int .i64) ((Kd.int .i64))) (Kd.pair (Kd.pair (Kd.int .i64) ((Kd.int .i64))) (Kd.pair (Kd.pair (Kd.int .i64) ((Kd.int .i64))) (Kd.pair (Kd.int .i64) (Kd.pair (Kd.slice 3 (Kd.int .i64)) ((Kd.slice 3 (Kd.int .i64)))))))))).K W y0 C0.toList := ky0
  generalize hC0_ : C0.toList = cs0_ at ky0
  replace ky0 : (Kd.pair Kd.string (Kd.pair (Kd.int .i64) (Kd.pair (Kd.pair (Kd.int .i64) ((Kd.int .i64))) (Kd.pair (Kd.pair (Kd.int .i64) ((Kd.int .i64))) (Kd.pair (Kd.pair (Kd.int .i64) ((Kd.int .i64))) (Kd.pair (Kd.int .i64) (Kd.pair (Kd.slice 3 (Kd.int .i64)) ((Kd.slice 3 (Kd.int .i64)))))))))).K W y0 _ := ky0
  obtain ⟨ca0_0, cb0_0, rfl, ka0_0, kb0_0⟩ := ky0
  obtain ⟨wa0_0, wb0_0⟩ := wy0
  have ka0_0' := ka0_0
  simp only [Kd.int, Kd.bool, Kd.string, Kd.scalar] at ka0_0'
  subst ka0_0'
  obtain ⟨ca1_0, cb1_0, rfl, ka1_0, kb1_0⟩ := kb0_0
  obtain ⟨wa1_0, wb1_0⟩ := wb0_0
  have ka1_0' := ka1_0
  simp only [Kd.int, Kd.bool, Kd.string, Kd.scalar] at ka1_0'
  subst ka1_0'
  obtain ⟨ca2_0, cb2_0, rfl, ka2_0, kb2_0⟩ := kb1_0
  obtain ⟨wa2_0, wb2_0⟩ := wb1_0
  replace ka2_0 : (Kd.pair (Kd.int .i64) ((Kd.int .i64))).K W (((y0).2).2).1 _ := ka2_0
  obtain ⟨ca3_0, cb3_0, rfl, ka3_0, kb3_0⟩ := ka2_0
  obtain ⟨wa3_0, wb3_0⟩ := wa2_0
  have ka3_0' := ka3_0
  simp only [Kd.int, Kd.bool, Kd.string, Kd.scalar] at ka3_0'
  subst ka3_0'
  have kb3_0' := kb3_0
  simp only [Kd.int, Kd.bool, Kd.string, Kd.scalar] at kb3_0'
  subst kb3_0'
  obtain ⟨ca4_0, cb4_0, rfl, ka4_0, kb4_0⟩ := kb2_0
  obtain ⟨wa4_0, wb4_0⟩ := wb2_0
  replace ka4_0 : (Kd.pair (Kd.int .i64) ((Kd.int .i64))).K W ((((y0).2).2).2).1 _ := ka4_0
  obtain ⟨ca5_0, cb5_0, rfl, ka5_0, kb5_0⟩ := ka4_0
  obtain ⟨wa5_0, wb5_0⟩ := wa4_0
  have ka5_0' := ka5_0
  simp only [Kd.int, Kd.bool, Kd.string, Kd.scalar] at ka5_0'
  subst ka5_0'
  have kb5_0' := kb5_0
  simp only [Kd.int, Kd.bool, Kd.string, Kd.scalar] at kb5_0'
  subst kb5_0'
  obtain ⟨ca6_0, cb6_0, rfl, ka6_0, kb6_0⟩ := kb4_0
  obtain ⟨wa6_0, wb6_0⟩ := wb4_0
  replace ka6_0 : (Kd.pair (Kd.int .i64) ((Kd.int .i64))).K W (((((y0).2).2).2).2).1 _ := ka6_0
  obtain ⟨ca7_0, cb7_0, rfl, ka7_0, kb7_0⟩ := ka6_0
  obtain ⟨wa7_0, wb7_0⟩ := wa6_0
  have ka7_0' := ka7_0
  simp only [Kd.int, Kd.bool, Kd.string, Kd.scalar] at ka7_0'
  subst ka7_0'
  have kb7_0' := kb7_0
  simp only [Kd.int, Kd.bool, Kd.string, Kd.scalar] at kb7_0'
  subst kb7_0'
  obtain ⟨ca8_0, cb8_0, rfl, ka8_0, kb8_0⟩ := kb6_0
  obtain ⟨wa8_0, wb8_0⟩ := wb6_0
  have ka8_0' := ka8_0
  simp only [Kd.int, Kd.bool, Kd.string, Kd.scalar] at ka8_0'
  subst ka8_0'
  obtain ⟨ca9_0, cb9_0, rfl, ka9_0, kb9_0⟩ := kb8_0
  obtain ⟨wa9_0, wb9_0⟩ := wb8_0
  obtain ⟨A0_10, c0_10, rfl, hl0_10, hC0_10⟩ := ka9_0
  obtain ⟨A0_11, c0_11, rfl, hl0_11, hC0_11⟩ := kb9_0
  obtain ⟨C0⟩ := C0
  simp only [List.append_assoc, List.cons_append, List.nil_append, List.singleton_append] at hC0_
  subst hC0_
  obtain ⟨a1, rfl, rfl, rfl, w1⟩ := open_int Try.underlying3 (hval 1 3 v1 rfl rfl) h1
  obtain ⟨a2, rfl, rfl, rfl, w2⟩ := open_int Try.underlying3 (hval 2 3 v2 rfl rfl) h2
  clear hA0 hval0 hsz0 hsz
  obtain ⟨k, h⟩ := Pure.ObservedSame ((y0).1) (((y0).2).1) (((((y0).2).2).1).1) (((((y0).2).2).1).2) ((((((y0).2).2).2).1).1) ((((((y0).2).2).2).1).2) (((((((y0).2).2).2).2).1).1) (((((((y0).2).2).2).2).1).2) (((((((y0).2).2).2).2).2).1) ((((((((y0).2).2).2).2).2).2).1) ((((((((y0).2).2).2).2).2).2).2) a1 a2 wa0_0 wa1_0 wa3_0 wb3_0 wa5_0 wb5_0 wa7_0 wb7_0 wa8_0 wa9_0 wb9_0 w1 w2
  refine (QObservedSame.ephemeriskeep1_ObservedSame.calls k ((y0).1) (((y0).2).1) (((((y0).2).2).1).1) (((((y0).2).2).1).2) ((((((y0).2).2).2).1).1) ((((((y0).2).2).2).1).2) (((((((y0).2).2).2).2).1).1) (((((((y0).2).2).2).2).1).2) (((((((y0).2).2).2).2).2).1) _ _ ((((((((y0).2).2).2).2).2).2).1) _ _ ((((((((y0).2).2).2).2).2).2).2) a1 a2 true W hC0_10 hl0_10 hC0_11 hl0_11 h).mono fun e W' ⟨he, bel0⟩ => ?_
  have bel : Below W.heap.size W W' := bel0
  subst he
  exact ⟨_, rfl, _, _, _, [], _, [], hW', trodAll_mk1 (shut_bool Try.underlying4 _), (trodAll_cons_mk (Below.trod laidOut (by kernel_rfl) (of_decide_eq_true (by kernel_rfl)) k0 bel lt0) (trodAll_cons_mk (shut_int Try.underlying3 w1) (trodAll_cons_mk (shut_int Try.underlying3 w2) trodAll_mk0))), rfl, bel.frame _, fun h => by cases h⟩
theorem over : Rows.observedSameRow.holds Try.pinned (OpenSpec.ofChange Rows.observedSameSpec) :=
  OpenClaim.holds_of_wide 10 Try.f10 rfl rfl rfl rfl rfl rfl rfl ⟨rfl, rfl, rfl, rfl, rfl⟩ rfl rfl rfl rfl rfl (by kernel_rfl) Try.func10 (by kernel_rfl)
    (of_decide_eq_true (by kernel_rfl)) (by unfold Func.isWrapper; first | (rw [if_pos (by decide +kernel)]; kernel_rfl) | (rw [if_neg (by decide +kernel)]; exact ⟨rfl, rfl⟩))
    (fun os started H enc _ => lifted os started H enc)
theorem proved : Rows.ObservedSameSaid := over
#print axioms proved
end Go.Proofs.Ytidjaahpabppaaa.observedSame
namespace Go.Proofs.Ytidjaahpabppaaa
/-- The row, under a short name, for the claim. -/
theorem observedSame_holds : Rows.ObservedSameSaid := observedSame.proved
end Go.Proofs.Ytidjaahpabppaaa
