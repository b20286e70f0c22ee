/- The row of the law CompileLeastSame: what its arguments read as, handed to the walk of its printed function. -/
import Derived.Test.YtidjaahpabppaaaDoorRows
import Derived.Test.YtidjaahpabppaaaDoorTie
import Derived.Test.YtidjaahpabppaaaDoorCards
import Derived.LaidMore
import Derived.Stop.Joined
import Derived.SevenTiedAt
import Derived.Lib.LaidTab
import Derived.Test.YtidjaahpabppaaaDoorStmtCompileLeastSame
import Derived.Test.YtidjaahpabppaaaDoorPureCompileLeastSame
import Derived.WalkKit
import Derived.ProofKit
import Derived.OpenShut
import Derived.ShutString
import Derived.ChangeOld
import Derived.Below
import Derived.SizedLaws
import Derived.Carry
set_option linter.unusedVariables false
set_option linter.unusedSimpArgs false
namespace Go.Proofs.YtidjaahpabppaaaDoor.compileLeastSame
open Go.ChangeShapes Go.WideShapes Go.ChangeAt Go.RowKit
open Go.ChangeMaps (open_string shut_string)
open Go.Proofs.YtidjaahpabppaaaDoorW.PrintWords Go.Proofs.YtidjaahpabppaaaDoorOpens Go.Proofs.YtidjaahpabppaaaDoor
theorem own : ownKnob Tryd.prog.godebug = none := by kernel_rfl
theorem gKids : Tryd.prog.globalNamed "ephemeris/rule.kids" = some 5 := by kernel_rfl
theorem tKids : (Tryd.prog.globals[5]?).map (·.type) = some 144 := by kernel_rfl
/-- The heap that the program's own start leaves meets the condition. -/
theorem door_met (os : Os) (args : Array Value) : laidMetH Tryd.prog Rows.compileLeastSameRow.laid ((World.doorLaid Tryd.prog 400 os).forCall (fun _ _ => 0) ⟨#[], args, []⟩).memory :=
  laidMetH_of_parts3 (fuel := 8) (laidMet_of_run' 8 (by kernel_rfl) (by kernel_rfl)) (by kernel_rfl) (by kernel_rfl)
/-- What the condition gives the walks: the table's cells. -/
theorem of_laid {W : World} (h : laidMetH Tryd.prog Rows.compileLeastSameRow.laid W) : Glob W := by
  rw [MakeChecks.laidMetH_plain _ _ _ (by kernel_rfl)] at h
  have hT : Lib.TabIs Tryd.prog W "ephemeris/rule.kids" .i64 kidsT := Lib.tabIs_of_head gKids tKids Tryd.underlying144 Tryd.underlying3 (by kernel_rfl) (by kernel_rfl) (rest := []) h
  exact ⟨fun i hi => hT.cell gKids i hi⟩
theorem laidOut : laidOutB Tryd.prog = true := by kernel_rfl
set_option maxRecDepth 100000 in
theorem lifted (os : Os) (started : os.Started) (H : Type) (enc : TypeId × Value → H) :
    ReturnsInHanded {} Tryd.checked os 4 .any (fun w args => (Rows.compileLeastSameSpec.pre enc Tryd.prog Tryd.f4 [] false w args ∧ laidMetH Tryd.prog Rows.compileLeastSameRow.laid w) ∧ sizedMet enc Tryd.prog Tryd.f4 (OpenSpec.ofChange Rows.compileLeastSameSpec) false w args)
      (Rows.compileLeastSameSpec.post enc Tryd.prog Tryd.f4 false true false false) := by
  refine returnsInHanded_of_change_and (C := Tryd.checked) (X := (fun w _ => laidMetH Tryd.prog Rows.compileLeastSameRow.laid w)) (fun _ _ _ hh h => h.of_heap hh) own started (by kernel_rfl) Tryd.func4
    (ChangeSpec.witness_shaped (enc := enc) (C := Tryd.checked) (os := os) (X := (fun w _ => laidMetH Tryd.prog Rows.compileLeastSameRow.laid w)) false (World.doorLaid Tryd.prog 400 os) #[.agg #[.string ByteArray.empty, .int .i64 0, .int .i64 0, .int .i64 0, .int .i64 0, .slice none 0 0, .slice none 0 0], .int .i64 0] 8 rfl (World.shaped_of_RefB (by kernel_rfl) (by kernel_rfl)) (by kernel_rfl) (by kernel_rfl) (by kernel_rfl) (door_met os _)) ?_
  intro W base args ds gs before hval0 hW hcnd hsz0 hLaid _
  have hGl : Glob W := of_laid hLaid
  clear hLaid
  have hsz : (DataW.weightsEach Tryd.prog (Tryd.f4.params.toList ++ Rows.compileLeastSameSpec.plain.varTypes Tryd.prog) (ds ++ gs)).all (· ≤ reachBytes) = true := hsz0
  have hval : ∀ (j : Nat) t v, Tryd.f4.params[j]? = some t → args[j]? = some v → Value.okWide Tryd.prog W .any base t v := hval0
  have hW' := hW
  obtain ⟨p, q, hA0, hV, rfl, hfz, hnd⟩ := hW
  have hA : DataW.TrodAll enc Tryd.prog W 0 (fun _ => true) true Tryd.f4.params.toList args.toList ds p := hA0
  rw [Tryd.params4] at hA hval hsz
  obtain ⟨v0, vs0, d0, ds0, p0, q0, hargs, rfl, rfl, h0, r0⟩ := trodAll_cons hA
  obtain ⟨v1, vs1, d1, ds1, p1, q1, rfl, rfl, rfl, h1, r1⟩ := trodAll_cons r0
  obtain ⟨rfl, rfl, rfl⟩ := trodAll_nil r1
  obtain rfl : args = #[v0, v1] := by cases args; simp_all
  obtain ⟨rfl, rfl⟩ := trodVars_none hV
  have k0 := h0
  have lt0 : ∀ x ∈ p0, x.block < W.heap.size := by obtain ⟨m, hm⟩ := k0; exact DataW.trod_lt m _ _ _ hm
  obtain ⟨y0, ky0, wy0⟩ := opens_arg (QCompileLeastSame.op44 W) h0 (light_of_row hsz (j := 0) rfl rfl)
  obtain ⟨C0, rfl, hs0⟩ := okWide_struct Tryd.underlying44 (hval 0 44 v0 rfl rfl)
  replace ky0 : (Kd.pair Kd.string (Kd.pair (Kd.int .i64) (Kd.pair (Kd.int .i64) (Kd.pair QCompileLeastSame.k41 ((Kd.slice 46 QCompileLeastSame.k46)))))).K W y0 C0.toList := ky0
  generalize hC0_ : C0.toList = cs0_ at ky0
  replace ky0 : (Kd.pair Kd.string (Kd.pair (Kd.int .i64) (Kd.pair (Kd.int .i64) (Kd.pair QCompileLeastSame.k41 ((Kd.slice 46 QCompileLeastSame.k46)))))).K W y0 _ := ky0
  obtain ⟨ca0_0, cb0_0, rfl, ka0_0, kb0_0⟩ := ky0
  obtain ⟨wa0_0, wb0_0⟩ := wy0
  have ka0_0' := ka0_0
  simp only [Kd.int, Kd.bool, Kd.string, Kd.scalar] at ka0_0'
  subst ka0_0'
  obtain ⟨ca1_0, cb1_0, rfl, ka1_0, kb1_0⟩ := kb0_0
  obtain ⟨wa1_0, wb1_0⟩ := wb0_0
  have ka1_0' := ka1_0
  simp only [Kd.int, Kd.bool, Kd.string, Kd.scalar] at ka1_0'
  subst ka1_0'
  obtain ⟨ca2_0, cb2_0, rfl, ka2_0, kb2_0⟩ := kb1_0
  obtain ⟨wa2_0, wb2_0⟩ := wb1_0
  have ka2_0' := ka2_0
  simp only [Kd.int, Kd.bool, Kd.string, Kd.scalar] at ka2_0'
  subst ka2_0'
  obtain ⟨ca3_0, cb3_0, rfl, ka3_0, kb3_0⟩ := kb2_0
  obtain ⟨wa3_0, wb3_0⟩ := wb2_0
  obtain ⟨A0_4, c0_4, rfl, hl0_4, hC0_4⟩ := QCompileLeastSame.k41_open ka3_0
  obtain ⟨A0_5, c0_5, rfl, hl0_5, hC0_5⟩ := kb3_0
  obtain ⟨C0⟩ := C0
  simp only [List.append_assoc, List.cons_append, List.nil_append, List.singleton_append] at hC0_
  subst hC0_
  obtain ⟨a1, rfl, rfl, rfl, w1⟩ := open_int Tryd.underlying3 (hval 1 3 v1 rfl rfl) h1
  clear hA0 hval0 hsz0 hsz
  obtain ⟨k, h⟩ := Pure.CompileLeastSame ((y0).1) (((y0).2).1) ((((y0).2).2).1) ((((((y0).2).2).2).1).f0) ((((((y0).2).2).2).1).f1) ((((((y0).2).2).2).1).f2) (((((y0).2).2).2).2) a1 wa0_0 wa1_0 wa2_0 wa3_0.1 wa3_0.2.1 wa3_0.2.2 wb3_0 w1
  refine (QCompileLeastSame.ephemeriskeep1_CompileLeastSame.calls (hG := hGl) k ((y0).1) (((y0).2).1) ((((y0).2).2).1) ((((((y0).2).2).2).1).f0) ((((((y0).2).2).2).1).f1) _ _ ((((((y0).2).2).2).1).f2) _ _ (((((y0).2).2).2).2) a1 true W hC0_4 hl0_4 hC0_5 hl0_5 h).mono fun e W' ⟨he, bel0⟩ => ?_
  have bel : Below W.heap.size W W' := bel0
  subst he
  exact ⟨_, rfl, _, _, _, [], _, [], hW', trodAll_mk1 (shut_bool Tryd.underlying4 _), (trodAll_cons_mk (Below.trod laidOut (by kernel_rfl) (of_decide_eq_true (by kernel_rfl)) k0 bel lt0) (trodAll_cons_mk (shut_int Tryd.underlying3 w1) trodAll_mk0)), rfl, bel.frame _, fun h => by cases h⟩
theorem over : Rows.compileLeastSameRow.holds Tryd.pinned (OpenSpec.ofChange Rows.compileLeastSameSpec) :=
  OpenClaim.holds_of_wide 4 Tryd.f4 rfl rfl rfl rfl rfl rfl rfl ⟨rfl, rfl, rfl, rfl, rfl⟩ rfl rfl rfl rfl rfl (by kernel_rfl) Tryd.func4 (by kernel_rfl)
    (of_decide_eq_true (by kernel_rfl)) (by unfold Func.isWrapper; first | (rw [if_pos (by decide +kernel)]; kernel_rfl) | (rw [if_neg (by decide +kernel)]; exact ⟨rfl, rfl⟩))
    (fun os started H enc _ => lifted os started H enc)
theorem proved : Rows.CompileLeastSameSaid := over
#print axioms proved
end Go.Proofs.YtidjaahpabppaaaDoor.compileLeastSame
namespace Go.Proofs.YtidjaahpabppaaaDoor
/-- The row, under a short name, for the claim. -/
theorem compileLeastSame_holds : Rows.CompileLeastSameSaid := compileLeastSame.proved
/-- THE TIED CARD. -/
theorem compileLeastSame_card : Rows.CompileLeastSameCardSaid :=
  Claim7.holds_tied_plain_at .later [] [.data] true (true, "8f3412075017ce7b38981c26e9453402b5850dd0e055e14372e5afe1bef21a84") true
    compileLeastSame.proved (fun _ h => by cases h) (by kernel_rfl) (fun _ h => by cases h) compileLeastSame_row_tie rfl ⟨rfl, rfl⟩ (by kernel_rfl) rfl
    (fun f fn hf hfn => by
      obtain rfl : f = 4 := Option.some.inj ((show Tryd.prog.funcNamed "ephemeris/ephemeriskeep1.CompileLeastSame" = some 4 by kernel_rfl).symm.trans hf) |>.symm
      obtain rfl : fn = Tryd.f4 := (Option.some.inj (Tryd.func4.symm.trans hfn)).symm
      exact ⟨by kernel_rfl, fun j t ht => by
        rw [Tryd.params4] at ht
        have hm : t ∈ [44, 3] := by simpa using Array.mem_of_getElem? ht
        have hall : ([44, 3].all fun u => !Tryd.prog.wantsStandIn u) = true := by kernel_rfl
        exact (show Tryd.prog.wantsStandIn t = false by simpa using List.all_eq_true.1 hall t hm)⟩)
    (by kernel_rfl)
#print axioms compileLeastSame_card
end Go.Proofs.YtidjaahpabppaaaDoor
