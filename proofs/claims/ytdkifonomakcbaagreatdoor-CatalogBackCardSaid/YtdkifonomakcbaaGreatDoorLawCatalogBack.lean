/- The law CatalogBack holds of the given program: whatever the input, it returns true, and the input reads as it did. -/
import Derived.Test.YtdkifonomakcbaaGreatDoorRows
import Derived.Test.YtdkifonomakcbaaGreatDoorTie
import Derived.Test.YtdkifonomakcbaaGreatDoorCards
import Derived.LaidMore
import Derived.Stop.Joined
import Derived.SevenTiedAt
import Derived.Test.YtdkifonomakcbaaGreatDoorPG3
import Derived.Test.YtdkifonomakcbaaGreatDoorPW24
import Derived.WalkKit
import Derived.ProofKit
import Derived.OpenShut
import Derived.Below
import Derived.Lay
import Derived.SizedLaws
set_option linter.unusedVariables false
set_option linter.unusedSimpArgs false
namespace Go.Proofs.YtdkifonomakcbaaGreatDoor.catalogBack
open Go.ChangeShapes Go.WideShapes Go.ChangeAt Go.RowKit Go.Proofs.YtdkifonomakcbaaGreatDoorA Go.Proofs.YtdkifonomakcbaaGreatDoor
theorem own : ownKnob Tryz.prog.godebug = none := by kernel_rfl
theorem told : ToldC Rows.catalogBackRow.laid := ⟨⟨List.mem_of_getElem? (i := 11) (by rfl), List.mem_of_getElem? (i := 12) (by rfl), List.mem_of_getElem? (i := 8) (by rfl), List.mem_of_getElem? (i := 7) (by rfl), List.mem_of_getElem? (i := 2) (by rfl)⟩, List.mem_of_getElem? (i := 9) (by rfl), List.mem_of_getElem? (i := 10) (by rfl)⟩
/-- A heap that meets the condition. -/
theorem door_met (os : Os) (args : Array Value) : laidMetH Tryz.prog Rows.catalogBackRow.laid ((World.laidAll Tryz.prog os Rows.catalogBackRow.laid).forCall (fun _ _ => 0) ⟨#[], args, []⟩).memory := by
  rw [MakeChecks.laidMetH_plain _ _ _ (by kernel_rfl)]
  exact laidMet_laidAll _ (by kernel_rfl) (by kernel_rfl)
set_option maxRecDepth 100000 in
theorem lifted (os : Os) (started : os.Started) (H : Type) (enc : TypeId × Value → H) :
    ReturnsInHanded {} Tryz.checked os 8 .any (fun w args => (Rows.catalogBackSpec.pre enc Tryz.prog Tryz.f8 [] false w args ∧ laidMetH Tryz.prog Rows.catalogBackRow.laid w) ∧ sizedMet enc Tryz.prog Tryz.f8 (OpenSpec.ofChange Rows.catalogBackSpec) false w args)
      (Rows.catalogBackSpec.post enc Tryz.prog Tryz.f8 false true false false) := by
  refine handed (C := Tryz.checked) (X := (fun w _ => laidMetH Tryz.prog Rows.catalogBackRow.laid w)) (fun _ _ _ hh h => h.of_heap hh) own started (by kernel_rfl) Tryz.func8
    (ChangeSpec.witness_shaped (enc := enc) (C := Tryz.checked) (os := os) (X := (fun w _ => laidMetH Tryz.prog Rows.catalogBackRow.laid w)) false (World.laidAll Tryz.prog os Rows.catalogBackRow.laid) #[.int .i64 0, .int .i64 0] 8 (World.laidAll_os ..) (World.shaped_of_ZipB (by kernel_rfl) (by kernel_rfl)) (by kernel_rfl) (by kernel_rfl) (by kernel_rfl) (door_met os _)) ?_
  intro W base args ds gs before hval0 hW hLaid hS
  rw [MakeChecks.laidMetH_plain _ _ _ (by kernel_rfl)] at hLaid
  obtain ⟨m, hGl⟩ := globs_ofC hLaid told hS
  clear hLaid
  have hval : ∀ (j : Nat) t v, Tryz.f8.params[j]? = some t → args[j]? = some v → Value.okWide Tryz.prog W .any base t v := hval0
  have hW' := hW
  obtain ⟨p, q, hA0, hV, rfl, hfz, hnd⟩ := hW
  have hA : DataW.TrodAll enc Tryz.prog W 0 (fun _ => true) true Tryz.f8.params.toList args.toList ds p := hA0
  rw [Tryz.params8] at hA hval
  obtain ⟨v0, vs0, d0, ds0, p0, q0, hargs, rfl, rfl, h0, r0⟩ := trodAll_cons hA
  obtain ⟨v1, vs1, d1, ds1, p1, q1, rfl, rfl, rfl, h1, r1⟩ := trodAll_cons r0
  obtain ⟨rfl, rfl, rfl⟩ := trodAll_nil r1
  obtain rfl : args = #[v0, v1] := by cases args; simp_all
  obtain ⟨rfl, rfl⟩ := trodVars_none hV
  obtain ⟨a0, rfl, rfl, rfl, w0⟩ := open_int Tryz.underlying3 (hval 0 3 v0 rfl rfl) h0
  obtain ⟨a1, rfl, rfl, rfl, w1⟩ := open_int Tryz.underlying3 (hval 1 3 v1 rfl rfl) h1
  refine (((catalogBackP (m := m) a0 a1).2 (okW W) W #[.int .i64 a0, .int .i64 a1] hGl (fun b i h => h) rfl ?_).mono fun e W' hpost => ?_)
  · intro j v a hv ha
    match j, hv, ha with
    | 0, hv, ha => cases hv; cases ha; exact .i _ _ _
    | 1, hv, ha => cases hv; cases ha; exact .i _ _ _
    | n + 2, hv, ha => simp at hv
  · obtain ⟨v, ok', rfl, bel0, _, _, _, hr⟩ := hpost
    have bel : Below W.heap.size W W' := bel0
    cases hr
    exact ⟨_, rfl, _, _, _, [], _, [], hW', trodAll_mk1 (shut_bool Tryz.underlying4 _), (trodAll_cons_mk (shut_int Tryz.underlying3 w0) (trodAll_cons_mk (shut_int Tryz.underlying3 w1) trodAll_mk0)), rfl, bel.frame _, fun h => by cases h⟩
theorem over : Rows.catalogBackRow.holds Tryz.pinned (OpenSpec.ofChange Rows.catalogBackSpec) :=
  OpenClaim.holds_of_wide 8 Tryz.f8 rfl rfl rfl rfl rfl rfl rfl ⟨rfl, rfl, rfl, rfl, rfl⟩ rfl rfl rfl rfl rfl (by kernel_rfl) Tryz.func8 (by kernel_rfl)
    (of_decide_eq_true (by kernel_rfl)) (by unfold Func.isWrapper; first | (rw [if_pos (by decide +kernel)]; kernel_rfl) | (rw [if_neg (by decide +kernel)]; exact ⟨rfl, rfl⟩))
    (fun os started H enc _ => lifted os started H enc)
theorem proved : Rows.CatalogBackSaid := over
#print axioms proved
end Go.Proofs.YtdkifonomakcbaaGreatDoor.catalogBack
namespace Go.Proofs.YtdkifonomakcbaaGreatDoor
/-- The row, under a short name, for the claim. -/
theorem catalogBack_holds : Rows.CatalogBackSaid := catalogBack.proved
/-- The tied card. -/
theorem catalogBack_card : Rows.CatalogBackCardSaid :=
  Claim7.holds_tied_plain_at .later [] [.data, .data, .data, .data, .sentinel, .sentinel, .listed, .data, .data, .data, .data, .data, .data, .pinned] true (true, "d9182b051e343a6aef9268354ef3d3b8dd3688fbef3a737658f8043c142b8425") true
    catalogBack.proved (fun _ h => by cases h) (by kernel_rfl) (fun _ h => by cases h) catalogBack_row_tie rfl ⟨rfl, rfl⟩ (by kernel_rfl) rfl
    (fun f fn hf hfn => by
      obtain rfl : f = 8 := Option.some.inj ((show Tryz.prog.funcNamed "ephemeris/ephemeriskeep1.CatalogBack" = some 8 by kernel_rfl).symm.trans hf) |>.symm
      obtain rfl : fn = Tryz.f8 := (Option.some.inj (Tryz.func8.symm.trans hfn)).symm
      exact ⟨by kernel_rfl, fun j t ht => by
        rw [Tryz.params8] at ht
        have hm : t ∈ [3, 3] := by simpa using Array.mem_of_getElem? ht
        have hall : ([3, 3].all fun u => !Tryz.prog.wantsStandIn u) = true := by kernel_rfl
        exact (show Tryz.prog.wantsStandIn t = false by simpa using List.all_eq_true.1 hall t hm)⟩)
    (by kernel_rfl)
#print axioms catalogBack_card
end Go.Proofs.YtdkifonomakcbaaGreatDoor
