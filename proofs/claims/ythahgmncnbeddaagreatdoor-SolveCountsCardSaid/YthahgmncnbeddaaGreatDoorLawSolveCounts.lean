/- The law SolveCounts holds of the given program: whatever the input, it returns true, and the input reads as it did. -/
import Derived.Test.YthahgmncnbeddaaGreatDoorRows
import Derived.Test.YthahgmncnbeddaaGreatDoorTie
import Derived.Test.YthahgmncnbeddaaGreatDoorCards
import Derived.LaidMore
import Derived.Stop.Joined
import Derived.SevenTiedAt
import Derived.Test.YthahgmncnbeddaaGreatDoorNG
import Derived.Test.YthahgmncnbeddaaGreatDoorPO4
import Derived.Test.YthahgmncnbeddaaGreatDoorPS26
import Derived.WalkKit
import Derived.ProofKit
import Derived.OpenShut
import Derived.Below
import Derived.Lay
import Derived.SizedLaws
import Derived.Carry
set_option linter.unusedVariables false
set_option linter.unusedSimpArgs false
namespace Go.Proofs.YthahgmncnbeddaaGreatDoor.solveCounts
open Go.ChangeShapes Go.WideShapes Go.ChangeAt Go.RowKit Go.Proofs.YthahgmncnbeddaaGreatDoorA Go.Proofs.YthahgmncnbeddaaGreatDoor
theorem own : ownKnob Tryz.prog.godebug = none := by kernel_rfl
theorem laidOut : laidOutB Tryz.prog = true := by kernel_rfl
theorem told : ToldF Rows.solveCountsRow.laid := ⟨⟨List.mem_of_getElem? (i := 9) (by rfl), List.mem_of_getElem? (i := 10) (by rfl), List.mem_of_getElem? (i := 8) (by rfl), List.mem_of_getElem? (i := 7) (by rfl), List.mem_of_getElem? (i := 2) (by rfl)⟩, List.mem_of_getElem? (i := 11) (by rfl)⟩
/-- A heap that meets the condition. -/
theorem door_met (os : Os) (args : Array Value) : laidMetH Tryz.prog Rows.solveCountsRow.laid ((World.laidAll Tryz.prog os Rows.solveCountsRow.laid).forCall (fun _ _ => 0) ⟨#[], args, []⟩).memory := by
  rw [MakeChecks.laidMetH_plain _ _ _ (by kernel_rfl)]
  exact laidMet_laidAll _ (by kernel_rfl) (by kernel_rfl)
set_option maxRecDepth 100000 in
theorem lifted (os : Os) (started : os.Started) (H : Type) (enc : TypeId × Value → H) :
    ReturnsInHanded {} Tryz.checked os 6 .any (fun w args => (Rows.solveCountsSpec.pre enc Tryz.prog Tryz.f6 [] false w args ∧ laidMetH Tryz.prog Rows.solveCountsRow.laid w) ∧ sizedMet enc Tryz.prog Tryz.f6 (OpenSpec.ofChange Rows.solveCountsSpec) false w args)
      (Rows.solveCountsSpec.post enc Tryz.prog Tryz.f6 false true false false) := by
  refine handed2 (C := Tryz.checked) (X := (fun w _ => laidMetH Tryz.prog Rows.solveCountsRow.laid w)) (fun _ _ _ hh h => h.of_heap hh) own started (by kernel_rfl) Tryz.func6
    (ChangeSpec.witness_shaped (enc := enc) (C := Tryz.checked) (os := os) (X := (fun w _ => laidMetH Tryz.prog Rows.solveCountsRow.laid w)) false (World.laidAll Tryz.prog os Rows.solveCountsRow.laid) #[.agg #[.int .i64 0, .int .i64 0, .int .i64 0, .string ByteArray.empty, .slice none 0 0], .int .i64 0, .int .i64 0, .int .i64 0] 8 (World.laidAll_os ..) (World.shaped_of_ZipB (by kernel_rfl) (by kernel_rfl)) (by kernel_rfl) (by kernel_rfl) (by kernel_rfl) (door_met os _)) ?_
  intro W base args ds gs before hval0 hW hsz0 hLaid hS
  have hsz : (DataW.weightsEach Tryz.prog (Tryz.f6.params.toList ++ Rows.solveCountsSpec.plain.varTypes Tryz.prog) (ds ++ gs)).all (· ≤ reachBytes) = true := hsz0
  rw [MakeChecks.laidMetH_plain _ _ _ (by kernel_rfl)] at hLaid
  obtain ⟨m, hGl⟩ := globs_ofF hLaid told hS
  clear hLaid
  have hval : ∀ (j : Nat) t v, Tryz.f6.params[j]? = some t → args[j]? = some v → Value.okWide Tryz.prog W .any base t v := hval0
  have hW' := hW
  obtain ⟨p, q, hA0, hV, rfl, hfz, hnd⟩ := hW
  have hA : DataW.TrodAll enc Tryz.prog W 0 (fun _ => true) true Tryz.f6.params.toList args.toList ds p := hA0
  rw [Tryz.params6] at hA hval hsz
  obtain ⟨v0, vs0, d0, ds0, p0, q0, hargs, rfl, rfl, h0, r0⟩ := trodAll_cons hA
  obtain ⟨v1, vs1, d1, ds1, p1, q1, rfl, rfl, rfl, h1, r1⟩ := trodAll_cons r0
  obtain ⟨v2, vs2, d2, ds2, p2, q2, rfl, rfl, rfl, h2, r2⟩ := trodAll_cons r1
  obtain ⟨v3, vs3, d3, ds3, p3, q3, rfl, rfl, rfl, h3, r3⟩ := trodAll_cons r2
  obtain ⟨rfl, rfl, rfl⟩ := trodAll_nil r3
  obtain rfl : args = #[v0, v1, v2, v3] := by cases args; simp_all
  obtain ⟨rfl, rfl⟩ := trodVars_none hV
  have k0 := h0
  have lt0 : ∀ x ∈ p0, x.block < W.heap.size := by obtain ⟨n, hn⟩ := k0; exact DataW.trod_lt n _ _ _ hn
  obtain ⟨zs0, R0, _, W0⟩ := arg_struct Tryz.underlying24 oaFeast (hval 0 24 v0 rfl rfl) h0 (light_of_rowA hsz (j := 0) rfl rfl)
  obtain ⟨a1, rfl, rfl, rfl, w1⟩ := open_int Tryz.underlying3 (hval 1 3 v1 rfl rfl) h1
  obtain ⟨a2, rfl, rfl, rfl, w2⟩ := open_int Tryz.underlying3 (hval 2 3 v2 rfl rfl) h2
  obtain ⟨a3, rfl, rfl, rfl, w3⟩ := open_int Tryz.underlying3 (hval 3 3 v3 rfl rfl) h3
  refine (((solveCountsP (m := m) W0 a1 a2 a3).2 (okW W) W #[v0, .int .i64 a1, .int .i64 a2, .int .i64 a3] hGl (fun b i h => h) rfl ?_).mono fun e W' hpost => ?_)
  · intro j v a hv ha
    match j, hv, ha with
    | 0, hv, ha => cases hv; cases ha; exact R0
    | 1, hv, ha => cases hv; cases ha; exact .i _ _ _
    | 2, hv, ha => cases hv; cases ha; exact .i _ _ _
    | 3, hv, ha => cases hv; cases ha; exact .i _ _ _
    | n + 4, hv, ha => simp at hv
  · obtain ⟨v, ok', rfl, bel0, _, _, _, hr⟩ := hpost
    have bel : Below W.heap.size W W' := bel0
    cases hr
    exact ⟨_, rfl, _, _, _, [], _, [], hW', trodAll_mk1 (shut_bool Tryz.underlying4 _), (trodAll_cons_mk (Below.trod laidOut (by kernel_rfl) (of_decide_eq_true (by kernel_rfl)) k0 bel lt0) (trodAll_cons_mk (shut_int Tryz.underlying3 w1) (trodAll_cons_mk (shut_int Tryz.underlying3 w2) (trodAll_cons_mk (shut_int Tryz.underlying3 w3) trodAll_mk0)))), rfl, bel.frame _, fun h => by cases h⟩
theorem over : Rows.solveCountsRow.holds Tryz.pinned (OpenSpec.ofChange Rows.solveCountsSpec) :=
  OpenClaim.holds_of_wide 6 Tryz.f6 rfl rfl rfl rfl rfl rfl rfl ⟨rfl, rfl, rfl, rfl, rfl⟩ rfl rfl rfl rfl rfl (by kernel_rfl) Tryz.func6 (by kernel_rfl)
    (of_decide_eq_true (by kernel_rfl)) (by unfold Func.isWrapper; first | (rw [if_pos (by decide +kernel)]; kernel_rfl) | (rw [if_neg (by decide +kernel)]; exact ⟨rfl, rfl⟩))
    (fun os started H enc _ => lifted os started H enc)
theorem proved : Rows.SolveCountsSaid := over
#print axioms proved
end Go.Proofs.YthahgmncnbeddaaGreatDoor.solveCounts
namespace Go.Proofs.YthahgmncnbeddaaGreatDoor
/-- The row, under a short name, for the claim. -/
theorem solveCounts_holds : Rows.SolveCountsSaid := solveCounts.proved
/-- The tied card. -/
theorem solveCounts_card : Rows.SolveCountsCardSaid :=
  Claim7.holds_tied_plain_at .later [] [.data, .data, .data, .data, .sentinel, .sentinel, .listed, .data, .data, .data, .data, .data, .pinned] true (true, "0146e91338688e23cab8196a7fb1f9a0a2ef9dc4383bac5904487409a68654be") true
    solveCounts.proved (fun _ h => by cases h) (by kernel_rfl) (fun _ h => by cases h) solveCounts_row_tie rfl ⟨rfl, rfl⟩ (by kernel_rfl) rfl
    (fun f fn hf hfn => by
      obtain rfl : f = 6 := Option.some.inj ((show Tryz.prog.funcNamed "ephemeris/ephemeriskeep1.SolveCounts" = some 6 by kernel_rfl).symm.trans hf) |>.symm
      obtain rfl : fn = Tryz.f6 := (Option.some.inj (Tryz.func6.symm.trans hfn)).symm
      exact ⟨by kernel_rfl, fun j t ht => by
        rw [Tryz.params6] at ht
        have hm : t ∈ [24, 3, 3, 3] := by simpa using Array.mem_of_getElem? ht
        have hall : ([24, 3, 3, 3].all fun u => !Tryz.prog.wantsStandIn u) = true := by kernel_rfl
        exact (show Tryz.prog.wantsStandIn t = false by simpa using List.all_eq_true.1 hall t hm)⟩)
    (by kernel_rfl)
#print axioms solveCounts_card
end Go.Proofs.YthahgmncnbeddaaGreatDoor
