/- The row of the law ZoneJumps: what its arguments read as, handed to the walk of its printed function. -/
import Derived.Test.YtboddbgmgcjppaaRows
import Derived.Test.YtboddbgmgcjppaaStmtZoneJumps
import Derived.Test.YtboddbgmgcjppaaPureZoneJumps
import Derived.WalkKit
import Derived.ProofKit
import Derived.OpenShut
import Derived.ShutString
import Derived.ChangeOld
import Derived.Below
import Derived.SizedLaws
import Derived.Carry
set_option linter.unusedVariables false
set_option linter.unusedSimpArgs false
namespace Go.Proofs.Ytboddbgmgcjppaa.zoneJumps
open Go.ChangeShapes Go.WideShapes Go.ChangeAt Go.RowKit
open Go.ChangeMaps (open_string shut_string)
open Go.Proofs.YtboddbgmgcjppaaW.PrintWords Go.Proofs.YtboddbgmgcjppaaOpens
theorem own : ownKnob Try.prog.godebug = none := by kernel_rfl
theorem laidOut : laidOutB Try.prog = true := by kernel_rfl
set_option maxRecDepth 100000 in
theorem lifted (os : Os) (started : os.Started) (H : Type) (enc : TypeId × Value → H) :
    ReturnsInHanded {} Try.checked os 12 .any (Rows.zoneJumpsSpec.pre6 enc Try.prog Try.f12 Rows.zoneJumpsRow.domain false) (Rows.zoneJumpsSpec.post enc Try.prog Try.f12 false true false false) := by
  refine returnsInHanded_of_change_sized (C := Try.checked) own started (by kernel_rfl) Try.func12
    (ChangeSpec.witness6 (enc := enc) (C := Try.checked) false ⟨#[], #[.agg #[.string ByteArray.empty, .int .i64 0, .slice none 0 0], .int .i64 0], []⟩ 8 (by kernel_rfl) (by kernel_rfl) (by kernel_rfl) (by kernel_rfl)) ?_
  intro W base args ds gs before hval0 hW hcnd hsz0 _
  have hsz : (DataW.weightsEach Try.prog (Try.f12.params.toList ++ Rows.zoneJumpsSpec.plain.varTypes Try.prog) (ds ++ gs)).all (· ≤ reachBytes) = true := hsz0
  have hval : ∀ (j : Nat) t v, Try.f12.params[j]? = some t → args[j]? = some v → Value.okWide Try.prog W .any base t v := hval0
  have hW' := hW
  obtain ⟨p, q, hA0, hV, rfl, hfz, hnd⟩ := hW
  have hA : DataW.TrodAll enc Try.prog W 0 (fun _ => true) true Try.f12.params.toList args.toList ds p := hA0
  rw [Try.params12] at hA hval hsz
  obtain ⟨v0, vs0, d0, ds0, p0, q0, hargs, rfl, rfl, h0, r0⟩ := trodAll_cons hA
  obtain ⟨v1, vs1, d1, ds1, p1, q1, rfl, rfl, rfl, h1, r1⟩ := trodAll_cons r0
  obtain ⟨rfl, rfl, rfl⟩ := trodAll_nil r1
  obtain rfl : args = #[v0, v1] := by cases args; simp_all
  obtain ⟨rfl, rfl⟩ := trodVars_none hV
  have k0 := h0
  have lt0 : ∀ x ∈ p0, x.block < W.heap.size := by obtain ⟨m, hm⟩ := k0; exact DataW.trod_lt m _ _ _ hm
  obtain ⟨y0, ky0, wy0⟩ := opens_arg (QZoneJumps.op59 W) h0 (light_of_row hsz (j := 0) rfl rfl)
  obtain ⟨C0, rfl, hs0⟩ := okWide_struct Try.underlying59 (hval 0 59 v0 rfl rfl)
  replace ky0 : (Kd.pair Kd.string (Kd.pair (Kd.int .i64) ((Kd.slice 69 QZoneJumps.k69)))).K W y0 C0.toList := ky0
  generalize hC0_ : C0.toList = cs0_ at ky0
  replace ky0 : (Kd.pair Kd.string (Kd.pair (Kd.int .i64) ((Kd.slice 69 QZoneJumps.k69)))).K W y0 _ := ky0
  obtain ⟨ca0_0, cb0_0, rfl, ka0_0, kb0_0⟩ := ky0
  obtain ⟨wa0_0, wb0_0⟩ := wy0
  have ka0_0' := ka0_0
  simp only [Kd.int, Kd.bool, Kd.string, Kd.scalar] at ka0_0'
  subst ka0_0'
  obtain ⟨ca1_0, cb1_0, rfl, ka1_0, kb1_0⟩ := kb0_0
  obtain ⟨wa1_0, wb1_0⟩ := wb0_0
  have ka1_0' := ka1_0
  simp only [Kd.int, Kd.bool, Kd.string, Kd.scalar] at ka1_0'
  subst ka1_0'
  obtain ⟨A0_2, c0_2, rfl, hl0_2, hC0_2⟩ := kb1_0
  obtain ⟨C0⟩ := C0
  simp only [List.append_assoc, List.cons_append, List.nil_append, List.singleton_append] at hC0_
  subst hC0_
  obtain ⟨a1, rfl, rfl, rfl, w1⟩ := open_int Try.underlying3 (hval 1 3 v1 rfl rfl) h1
  clear hA0 hval0 hsz0 hsz
  obtain ⟨k, h⟩ := Pure.ZoneJumps ((y0).1) (((y0).2).1) (((y0).2).2) a1 wa0_0 wa1_0 wb1_0 w1
  refine (QZoneJumps.ephemeriskeep1_ZoneJumps.calls k ((y0).1) (((y0).2).1) _ _ (((y0).2).2) a1 true W hC0_2 hl0_2 h).mono fun e W' ⟨he, bel0⟩ => ?_
  have bel : Below W.heap.size W W' := bel0
  subst he
  exact ⟨_, rfl, _, _, _, [], _, [], hW', trodAll_mk1 (shut_bool Try.underlying4 _), (trodAll_cons_mk (Below.trod laidOut (by kernel_rfl) (of_decide_eq_true (by kernel_rfl)) k0 bel lt0) (trodAll_cons_mk (shut_int Try.underlying3 w1) trodAll_mk0)), rfl, bel.frame _, fun h => by cases h⟩
theorem over : Rows.zoneJumpsRow.holds Try.pinned (OpenSpec.ofChange Rows.zoneJumpsSpec) :=
  OpenClaim.holds_of_wide 12 Try.f12 rfl rfl rfl rfl rfl rfl rfl ⟨rfl, rfl, rfl, rfl, rfl⟩ rfl rfl rfl rfl rfl (by kernel_rfl) Try.func12 (by kernel_rfl)
    (of_decide_eq_true (by kernel_rfl)) (by unfold Func.isWrapper; first | (rw [if_pos (by decide +kernel)]; kernel_rfl) | (rw [if_neg (by decide +kernel)]; exact ⟨rfl, rfl⟩))
    (fun os started H enc _ => lifted os started H enc)
theorem proved : Rows.ZoneJumpsSaid := over
#print axioms proved
end Go.Proofs.Ytboddbgmgcjppaa.zoneJumps
namespace Go.Proofs.Ytboddbgmgcjppaa
/-- The row, under a short name, for the claim. -/
theorem zoneJumps_holds : Rows.ZoneJumpsSaid := zoneJumps.proved
end Go.Proofs.Ytboddbgmgcjppaa
