/- The law CatalogGregorian holds of the given program: whatever the input, it returns true, and the input reads as it did. -/
import Derived.Test.YtdkifonomakcbaaGreatDoorRows
import Derived.Test.YtdkifonomakcbaaGreatDoorTie
import Derived.Test.YtdkifonomakcbaaGreatDoorCards
import Derived.LaidMore
import Derived.Stop.Joined
import Derived.SevenTiedAt
import Derived.Test.YtdkifonomakcbaaGreatDoorPG2
import Derived.Test.YtdkifonomakcbaaGreatDoorPW21
import Derived.WalkKit
import Derived.ProofKit
import Derived.OpenShut
import Derived.Below
import Derived.Lay
import Derived.SizedLaws
set_option linter.unusedVariables false
set_option linter.unusedSimpArgs false
namespace Go.Proofs.YtdkifonomakcbaaGreatDoor.catalogGregorian
open Go.ChangeShapes Go.WideShapes Go.ChangeAt Go.RowKit Go.Proofs.YtdkifonomakcbaaGreatDoorA Go.Proofs.YtdkifonomakcbaaGreatDoor
theorem own : ownKnob Tryz.prog.godebug = none := by kernel_rfl
theorem told : ToldT Rows.catalogGregorianRow.laid := ⟨List.mem_of_getElem? (i := 9) (by rfl), List.mem_of_getElem? (i := 10) (by rfl), List.mem_of_getElem? (i := 8) (by rfl), List.mem_of_getElem? (i := 7) (by rfl), List.mem_of_getElem? (i := 2) (by rfl)⟩
/-- A heap that meets the condition. -/
theorem door_met (os : Os) (args : Array Value) : laidMetH Tryz.prog Rows.catalogGregorianRow.laid ((World.laidAll Tryz.prog os Rows.catalogGregorianRow.laid).forCall (fun _ _ => 0) ⟨#[], args, []⟩).memory := by
  rw [MakeChecks.laidMetH_plain _ _ _ (by kernel_rfl)]
  exact laidMet_laidAll _ (by kernel_rfl) (by kernel_rfl)
set_option maxRecDepth 100000 in
theorem lifted (os : Os) (started : os.Started) (H : Type) (enc : TypeId × Value → H) :
    ReturnsInHanded {} Tryz.checked os 6 .any (fun w args => (Rows.catalogGregorianSpec.pre enc Tryz.prog Tryz.f6 [] false w args ∧ laidMetH Tryz.prog Rows.catalogGregorianRow.laid w) ∧ sizedMet enc Tryz.prog Tryz.f6 (OpenSpec.ofChange Rows.catalogGregorianSpec) false w args)
      (Rows.catalogGregorianSpec.post enc Tryz.prog Tryz.f6 false true false false) := by
  refine handed (C := Tryz.checked) (X := (fun w _ => laidMetH Tryz.prog Rows.catalogGregorianRow.laid w)) (fun _ _ _ hh h => h.of_heap hh) own started (by kernel_rfl) Tryz.func6
    (ChangeSpec.witness_shaped (enc := enc) (C := Tryz.checked) (os := os) (X := (fun w _ => laidMetH Tryz.prog Rows.catalogGregorianRow.laid w)) false (World.laidAll Tryz.prog os Rows.catalogGregorianRow.laid) #[.int .i64 0] 8 (World.laidAll_os ..) (World.shaped_of_ZipB (by kernel_rfl) (by kernel_rfl)) (by kernel_rfl) (by kernel_rfl) (by kernel_rfl) (door_met os _)) ?_
  intro W base args ds gs before hval0 hW hLaid hS
  rw [MakeChecks.laidMetH_plain _ _ _ (by kernel_rfl)] at hLaid
  obtain ⟨m, hGl⟩ := globs_of hLaid told hS
  clear hLaid
  have hval : ∀ (j : Nat) t v, Tryz.f6.params[j]? = some t → args[j]? = some v → Value.okWide Tryz.prog W .any base t v := hval0
  have hW' := hW
  obtain ⟨p, q, hA0, hV, rfl, hfz, hnd⟩ := hW
  have hA : DataW.TrodAll enc Tryz.prog W 0 (fun _ => true) true Tryz.f6.params.toList args.toList ds p := hA0
  rw [Tryz.params6] at hA hval
  obtain ⟨v0, vs0, d0, ds0, p0, q0, hargs, rfl, rfl, h0, r0⟩ := trodAll_cons hA
  obtain ⟨rfl, rfl, rfl⟩ := trodAll_nil r0
  obtain rfl : args = #[v0] := by cases args; simp_all
  obtain ⟨rfl, rfl⟩ := trodVars_none hV
  obtain ⟨a0, rfl, rfl, rfl, w0⟩ := open_int Tryz.underlying3 (hval 0 3 v0 rfl rfl) h0
  refine (((catalogGregorianP (m := m) a0).2 (okW W) W #[.int .i64 a0] hGl (fun b i h => h) rfl ?_).mono fun e W' hpost => ?_)
  · intro j v a hv ha
    match j, hv, ha with
    | 0, hv, ha => cases hv; cases ha; exact .i _ _ _
    | n + 1, hv, ha => simp at hv
  · obtain ⟨v, ok', rfl, bel0, _, _, _, hr⟩ := hpost
    have bel : Below W.heap.size W W' := bel0
    cases hr
    exact ⟨_, rfl, _, _, _, [], _, [], hW', trodAll_mk1 (shut_bool Tryz.underlying4 _), (trodAll_cons_mk (shut_int Tryz.underlying3 w0) trodAll_mk0), rfl, bel.frame _, fun h => by cases h⟩
theorem over : Rows.catalogGregorianRow.holds Tryz.pinned (OpenSpec.ofChange Rows.catalogGregorianSpec) :=
  OpenClaim.holds_of_wide 6 Tryz.f6 rfl rfl rfl rfl rfl rfl rfl ⟨rfl, rfl, rfl, rfl, rfl⟩ rfl rfl rfl rfl rfl (by kernel_rfl) Tryz.func6 (by kernel_rfl)
    (of_decide_eq_true (by kernel_rfl)) (by unfold Func.isWrapper; first | (rw [if_pos (by decide +kernel)]; kernel_rfl) | (rw [if_neg (by decide +kernel)]; exact ⟨rfl, rfl⟩))
    (fun os started H enc _ => lifted os started H enc)
theorem proved : Rows.CatalogGregorianSaid := over
#print axioms proved
end Go.Proofs.YtdkifonomakcbaaGreatDoor.catalogGregorian
namespace Go.Proofs.YtdkifonomakcbaaGreatDoor
/-- The row, under a short name, for the claim. -/
theorem catalogGregorian_holds : Rows.CatalogGregorianSaid := catalogGregorian.proved
/-- The tied card. -/
theorem catalogGregorian_card : Rows.CatalogGregorianCardSaid :=
  Claim7.holds_tied_plain_at .later [] [.data, .data, .data, .data, .sentinel, .sentinel, .listed, .data, .data, .data, .data, .pinned] true (true, "d9182b051e343a6aef9268354ef3d3b8dd3688fbef3a737658f8043c142b8425") true
    catalogGregorian.proved (fun _ h => by cases h) (by kernel_rfl) (fun _ h => by cases h) catalogGregorian_row_tie rfl ⟨rfl, rfl⟩ (by kernel_rfl) rfl
    (fun f fn hf hfn => by
      obtain rfl : f = 6 := Option.some.inj ((show Tryz.prog.funcNamed "ephemeris/ephemeriskeep1.CatalogGregorian" = some 6 by kernel_rfl).symm.trans hf) |>.symm
      obtain rfl : fn = Tryz.f6 := (Option.some.inj (Tryz.func6.symm.trans hfn)).symm
      exact ⟨by kernel_rfl, fun j t ht => by
        rw [Tryz.params6] at ht
        have hm : t ∈ [3] := by simpa using Array.mem_of_getElem? ht
        have hall : ([3].all fun u => !Tryz.prog.wantsStandIn u) = true := by kernel_rfl
        exact (show Tryz.prog.wantsStandIn t = false by simpa using List.all_eq_true.1 hall t hm)⟩)
    (by kernel_rfl)
#print axioms catalogGregorian_card
end Go.Proofs.YtdkifonomakcbaaGreatDoor
