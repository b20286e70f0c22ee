/- Names and months of the catalog, checked by the program. -/
import Derived.Test.YthahgmncnbeddaaGreatDoorNC
import Derived.Test.YthahgmncnbeddaaGreatDoorKA
set_option linter.unusedVariables false
set_option linter.unusedSimpArgs false
namespace Go.Proofs.YthahgmncnbeddaaGreatDoorA
open Go Go.RowKit Go.Proofs
set_option maxRecDepth 10000000
theorem nameAt_0 (m : Int) : (((catT).drop 0).take 10).all (fun r => isOut (outP (evO (ET m) (XP m) 100000 80 [.s r.name] ⟨[], 0⟩)) (.b true)) = true := by kernel_rfl
theorem nameAt_10 (m : Int) : (((catT).drop 10).take 10).all (fun r => isOut (outP (evO (ET m) (XP m) 100000 80 [.s r.name] ⟨[], 0⟩)) (.b true)) = true := by kernel_rfl
theorem nameAt_20 (m : Int) : (((catT).drop 20).take 10).all (fun r => isOut (outP (evO (ET m) (XP m) 100000 80 [.s r.name] ⟨[], 0⟩)) (.b true)) = true := by kernel_rfl
theorem nameAt_30 (m : Int) : (((catT).drop 30).take 10).all (fun r => isOut (outP (evO (ET m) (XP m) 100000 80 [.s r.name] ⟨[], 0⟩)) (.b true)) = true := by kernel_rfl
theorem namesAll (m : Int) : (((catT).drop 0).take 40).all (fun r => isOut (outP (evO (ET m) (XP m) 100000 80 [.s r.name] ⟨[], 0⟩)) (.b true)) = true := (all_join (i := 0) (a := 10) (n := 30) (nameAt_0 m) (all_join (i := 10) (a := 10) (n := 20) (nameAt_10 m) (all_join (i := 20) (a := 10) (n := 10) (nameAt_20 m) (all_join (i := 30) (a := 10) (n := 0) (nameAt_30 m) rfl))))
theorem namesOk (m : Int) : (catT.all fun r => isOut (outP (evO (ET m) (XP m) 100000 80 [.s r.name] ⟨[], 0⟩)) (.b true)) = true := by
  have h := namesAll m
  rwa [List.drop_zero, List.take_of_length_le (Nat.le_of_eq (by kernel_rfl))] at h
theorem monthAt_0 (m : Int) : (((monT).drop 0).take 2).all (fun l => isOut (outP (evO (ET m) (XP m) 100000 81 [monF l] ⟨[], 0⟩)) (.i .i64 0)) = true := by kernel_rfl
theorem monthAt_2 (m : Int) : (((monT).drop 2).take 2).all (fun l => isOut (outP (evO (ET m) (XP m) 100000 81 [monF l] ⟨[], 0⟩)) (.i .i64 0)) = true := by kernel_rfl
theorem monthAt_4 (m : Int) : (((monT).drop 4).take 2).all (fun l => isOut (outP (evO (ET m) (XP m) 100000 81 [monF l] ⟨[], 0⟩)) (.i .i64 0)) = true := by kernel_rfl
theorem monthAt_6 (m : Int) : (((monT).drop 6).take 2).all (fun l => isOut (outP (evO (ET m) (XP m) 100000 81 [monF l] ⟨[], 0⟩)) (.i .i64 0)) = true := by kernel_rfl
theorem monthAt_8 (m : Int) : (((monT).drop 8).take 2).all (fun l => isOut (outP (evO (ET m) (XP m) 100000 81 [monF l] ⟨[], 0⟩)) (.i .i64 0)) = true := by kernel_rfl
theorem monthAt_10 (m : Int) : (((monT).drop 10).take 2).all (fun l => isOut (outP (evO (ET m) (XP m) 100000 81 [monF l] ⟨[], 0⟩)) (.i .i64 0)) = true := by kernel_rfl
theorem monthAt_12 (m : Int) : (((monT).drop 12).take 2).all (fun l => isOut (outP (evO (ET m) (XP m) 100000 81 [monF l] ⟨[], 0⟩)) (.i .i64 0)) = true := by kernel_rfl
theorem monthAt_14 (m : Int) : (((monT).drop 14).take 2).all (fun l => isOut (outP (evO (ET m) (XP m) 100000 81 [monF l] ⟨[], 0⟩)) (.i .i64 0)) = true := by kernel_rfl
theorem monthAt_16 (m : Int) : (((monT).drop 16).take 2).all (fun l => isOut (outP (evO (ET m) (XP m) 100000 81 [monF l] ⟨[], 0⟩)) (.i .i64 0)) = true := by kernel_rfl
theorem monthAt_18 (m : Int) : (((monT).drop 18).take 2).all (fun l => isOut (outP (evO (ET m) (XP m) 100000 81 [monF l] ⟨[], 0⟩)) (.i .i64 0)) = true := by kernel_rfl
theorem monthsAll (m : Int) : (((monT).drop 0).take 20).all (fun l => isOut (outP (evO (ET m) (XP m) 100000 81 [monF l] ⟨[], 0⟩)) (.i .i64 0)) = true := (all_join (i := 0) (a := 2) (n := 18) (monthAt_0 m) (all_join (i := 2) (a := 2) (n := 16) (monthAt_2 m) (all_join (i := 4) (a := 2) (n := 14) (monthAt_4 m) (all_join (i := 6) (a := 2) (n := 12) (monthAt_6 m) (all_join (i := 8) (a := 2) (n := 10) (monthAt_8 m) (all_join (i := 10) (a := 2) (n := 8) (monthAt_10 m) (all_join (i := 12) (a := 2) (n := 6) (monthAt_12 m) (all_join (i := 14) (a := 2) (n := 4) (monthAt_14 m) (all_join (i := 16) (a := 2) (n := 2) (monthAt_16 m) (all_join (i := 18) (a := 2) (n := 0) (monthAt_18 m) rfl))))))))))
theorem monthsOkF (m : Int) : (monT.all fun l => isOut (outP (evO (ET m) (XP m) 100000 81 [monF l] ⟨[], 0⟩)) (.i .i64 0)) = true := by
  have h := monthsAll m
  rwa [List.drop_zero, List.take_of_length_le (Nat.le_of_eq (by kernel_rfl))] at h
end Go.Proofs.YthahgmncnbeddaaGreatDoorA
