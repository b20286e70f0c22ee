/- The row of the law RuleNegates: what its arguments read as, handed to the walk of its printed function. -/
import Derived.Test.YtboddbgmgcjppaaDoorRows
import Derived.Test.YtboddbgmgcjppaaDoorTie
import Derived.Test.YtboddbgmgcjppaaDoorCards
import Derived.LaidMore
import Derived.Stop.Joined
import Derived.SevenTiedAt
import Derived.Lib.LaidTab
import Derived.Test.YtboddbgmgcjppaaDoorStmtRuleNegates
import Derived.Test.YtboddbgmgcjppaaDoorPureRuleNegates
import Derived.WalkKit
import Derived.ProofKit
import Derived.OpenShut
import Derived.ShutString
import Derived.ChangeOld
import Derived.Below
import Derived.SizedLaws
import Derived.Carry
set_option linter.unusedVariables false
set_option linter.unusedSimpArgs false
namespace Go.Proofs.YtboddbgmgcjppaaDoor.ruleNegates
open Go.ChangeShapes Go.WideShapes Go.ChangeAt Go.RowKit
open Go.ChangeMaps (open_string shut_string)
open Go.Proofs.YtboddbgmgcjppaaDoorW.PrintWords Go.Proofs.YtboddbgmgcjppaaDoorOpens Go.Proofs.YtboddbgmgcjppaaDoor
theorem own : ownKnob Tryd.prog.godebug = none := by kernel_rfl
theorem gKids : Tryd.prog.globalNamed "ephemeris/rule.kids" = some 0 := by kernel_rfl
theorem tKids : (Tryd.prog.globals[0]?).map (·.type) = some 37 := by kernel_rfl
/-- The heap that the program's own start leaves meets the condition. -/
theorem door_met (os : Os) (args : Array Value) : laidMetH Tryd.prog Rows.ruleNegatesRow.laid ((World.doorLaid Tryd.prog 400 os).forCall (fun _ _ => 0) ⟨#[], args, []⟩).memory :=
  laidMetH_of_parts3 (fuel := 8) (laidMet_of_run' 8 (by kernel_rfl) (by kernel_rfl)) (by kernel_rfl) (by kernel_rfl)
/-- What the condition gives the walks: the table's cells. -/
theorem of_laid {W : World} (h : laidMetH Tryd.prog Rows.ruleNegatesRow.laid W) : Glob W := by
  rw [MakeChecks.laidMetH_plain _ _ _ (by kernel_rfl)] at h
  have hT : Lib.TabIs Tryd.prog W "ephemeris/rule.kids" .i64 kidsT := Lib.tabIs_of_head gKids tKids Tryd.underlying37 Tryd.underlying3 (by kernel_rfl) (by kernel_rfl) (rest := []) h
  exact ⟨fun i hi => hT.cell gKids i hi⟩
theorem laidOut : laidOutB Tryd.prog = true := by kernel_rfl
set_option maxRecDepth 100000 in
theorem lifted (os : Os) (started : os.Started) (H : Type) (enc : TypeId × Value → H) :
    ReturnsInHanded {} Tryd.checked os 3 .any (fun w args => (Rows.ruleNegatesSpec.pre enc Tryd.prog Tryd.f3 [] false w args ∧ laidMetH Tryd.prog Rows.ruleNegatesRow.laid w) ∧ sizedMet enc Tryd.prog Tryd.f3 (OpenSpec.ofChange Rows.ruleNegatesSpec) false w args)
      (Rows.ruleNegatesSpec.post enc Tryd.prog Tryd.f3 false true false false) := by
  refine returnsInHanded_of_change_and (C := Tryd.checked) (X := (fun w _ => laidMetH Tryd.prog Rows.ruleNegatesRow.laid w)) (fun _ _ _ hh h => h.of_heap hh) own started (by kernel_rfl) Tryd.func3
    (ChangeSpec.witness_shaped (enc := enc) (C := Tryd.checked) (os := os) (X := (fun w _ => laidMetH Tryd.prog Rows.ruleNegatesRow.laid w)) false (World.doorLaid Tryd.prog 400 os) #[.agg #[.int .i64 0, .int .i64 0, .slice none 0 0], .int .i64 0] 8 rfl (World.shaped_of_RefB (by kernel_rfl) (by kernel_rfl)) (by kernel_rfl) (by kernel_rfl) (by kernel_rfl) (door_met os _)) ?_
  intro W base args ds gs before hval0 hW hcnd hsz0 hLaid _
  have hGl : Glob W := of_laid hLaid
  clear hLaid
  have hsz : (DataW.weightsEach Tryd.prog (Tryd.f3.params.toList ++ Rows.ruleNegatesSpec.plain.varTypes Tryd.prog) (ds ++ gs)).all (· ≤ reachBytes) = true := hsz0
  have hval : ∀ (j : Nat) t v, Tryd.f3.params[j]? = some t → args[j]? = some v → Value.okWide Tryd.prog W .any base t v := hval0
  have hW' := hW
  obtain ⟨p, q, hA0, hV, rfl, hfz, hnd⟩ := hW
  have hA : DataW.TrodAll enc Tryd.prog W 0 (fun _ => true) true Tryd.f3.params.toList args.toList ds p := hA0
  rw [Tryd.params3] at hA hval hsz
  obtain ⟨v0, vs0, d0, ds0, p0, q0, hargs, rfl, rfl, h0, r0⟩ := trodAll_cons hA
  obtain ⟨v1, vs1, d1, ds1, p1, q1, rfl, rfl, rfl, h1, r1⟩ := trodAll_cons r0
  obtain ⟨rfl, rfl, rfl⟩ := trodAll_nil r1
  obtain rfl : args = #[v0, v1] := by cases args; simp_all
  obtain ⟨rfl, rfl⟩ := trodVars_none hV
  have k0 := h0
  have lt0 : ∀ x ∈ p0, x.block < W.heap.size := by obtain ⟨m, hm⟩ := k0; exact DataW.trod_lt m _ _ _ hm
  obtain ⟨y0, ky0, wy0⟩ := opens_arg (QRuleNegates.op24 W) h0 (light_of_row hsz (j := 0) rfl rfl)
  obtain ⟨C0, rfl, hs0⟩ := okWide_struct Tryd.underlying24 (hval 0 24 v0 rfl rfl)
  replace ky0 : (QRuleNegates.k24).K W y0 C0.toList := ky0
  generalize hC0_ : C0.toList = cs0_ at ky0
  obtain ⟨A0_0, c0_0, rfl, hl0_0, hC0_0⟩ := QRuleNegates.k24_open ky0
  obtain ⟨C0⟩ := C0
  simp only [List.append_assoc, List.cons_append, List.nil_append, List.singleton_append] at hC0_
  subst hC0_
  obtain ⟨a1, rfl, rfl, rfl, w1⟩ := open_int Tryd.underlying3 (hval 1 3 v1 rfl rfl) h1
  clear hA0 hval0 hsz0 hsz
  obtain ⟨k, h⟩ := Pure.RuleNegates ((y0).f0) ((y0).f1) ((y0).f2) a1 wy0.1 wy0.2.1 wy0.2.2 w1
  refine (QRuleNegates.ephemeriskeep1_RuleNegates.calls (hG := hGl) k ((y0).f0) ((y0).f1) _ _ ((y0).f2) a1 true W hC0_0 hl0_0 h).mono fun e W' ⟨he, bel0⟩ => ?_
  have bel : Below W.heap.size W W' := bel0
  subst he
  exact ⟨_, rfl, _, _, _, [], _, [], hW', trodAll_mk1 (shut_bool Tryd.underlying4 _), (trodAll_cons_mk (Below.trod laidOut (by kernel_rfl) (of_decide_eq_true (by kernel_rfl)) k0 bel lt0) (trodAll_cons_mk (shut_int Tryd.underlying3 w1) trodAll_mk0)), rfl, bel.frame _, fun h => by cases h⟩
theorem over : Rows.ruleNegatesRow.holds Tryd.pinned (OpenSpec.ofChange Rows.ruleNegatesSpec) :=
  OpenClaim.holds_of_wide 3 Tryd.f3 rfl rfl rfl rfl rfl rfl rfl ⟨rfl, rfl, rfl, rfl, rfl⟩ rfl rfl rfl rfl rfl (by kernel_rfl) Tryd.func3 (by kernel_rfl)
    (of_decide_eq_true (by kernel_rfl)) (by unfold Func.isWrapper; first | (rw [if_pos (by decide +kernel)]; kernel_rfl) | (rw [if_neg (by decide +kernel)]; exact ⟨rfl, rfl⟩))
    (fun os started H enc _ => lifted os started H enc)
theorem proved : Rows.RuleNegatesSaid := over
#print axioms proved
end Go.Proofs.YtboddbgmgcjppaaDoor.ruleNegates
namespace Go.Proofs.YtboddbgmgcjppaaDoor
/-- The row, under a short name, for the claim. -/
theorem ruleNegates_holds : Rows.RuleNegatesSaid := ruleNegates.proved
/-- THE TIED CARD. -/
theorem ruleNegates_card : Rows.RuleNegatesCardSaid :=
  Claim7.holds_tied_plain_at .later [] [.data] true (true, "b3868aec835bddc275cad71edb67aba9c4d620baf78c90c7be10a184ceb0915f") false
    ruleNegates.proved (fun _ h => by cases h) (by kernel_rfl) (fun _ h => by cases h) ruleNegates_row_tie rfl ⟨rfl, rfl⟩ (by kernel_rfl) rfl
    (fun f fn hf hfn => by
      obtain rfl : f = 3 := Option.some.inj ((show Tryd.prog.funcNamed "ephemeris/ephemeriskeep1.RuleNegates" = some 3 by kernel_rfl).symm.trans hf) |>.symm
      obtain rfl : fn = Tryd.f3 := (Option.some.inj (Tryd.func3.symm.trans hfn)).symm
      exact ⟨by kernel_rfl, fun j t ht => by
        rw [Tryd.params3] at ht
        have hm : t ∈ [24, 3] := by simpa using Array.mem_of_getElem? ht
        have hall : ([24, 3].all fun u => !Tryd.prog.wantsStandIn u) = true := by kernel_rfl
        exact (show Tryd.prog.wantsStandIn t = false by simpa using List.all_eq_true.1 hall t hm)⟩)
    (by kernel_rfl)
#print axioms ruleNegates_card
end Go.Proofs.YtboddbgmgcjppaaDoor
