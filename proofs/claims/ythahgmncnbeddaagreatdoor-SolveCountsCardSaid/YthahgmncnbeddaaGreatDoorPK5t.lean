/- The texts of the calendars. -/
import Derived.Test.YthahgmncnbeddaaGreatDoorKA
set_option linter.unusedVariables false
set_option linter.unusedSimpArgs false
namespace Go.Proofs.YthahgmncnbeddaaGreatDoorA
open Go Go.RowKit Go.Proofs
set_option maxRecDepth 10000000
theorem textAt_0 (m : Int) : (((catT).drop 0).take 4).all (fun r => chkText m r) = true := by kernel_rfl
theorem textAt_4 (m : Int) : (((catT).drop 4).take 4).all (fun r => chkText m r) = true := by kernel_rfl
theorem textAt_8 (m : Int) : (((catT).drop 8).take 4).all (fun r => chkText m r) = true := by kernel_rfl
theorem textAt_12 (m : Int) : (((catT).drop 12).take 4).all (fun r => chkText m r) = true := by kernel_rfl
theorem textAt_16 (m : Int) : (((catT).drop 16).take 4).all (fun r => chkText m r) = true := by kernel_rfl
theorem textAt_20 (m : Int) : (((catT).drop 20).take 4).all (fun r => chkText m r) = true := by kernel_rfl
theorem textAt_24 (m : Int) : (((catT).drop 24).take 4).all (fun r => chkText m r) = true := by kernel_rfl
theorem textAt_28 (m : Int) : (((catT).drop 28).take 4).all (fun r => chkText m r) = true := by kernel_rfl
theorem textAt_32 (m : Int) : (((catT).drop 32).take 4).all (fun r => chkText m r) = true := by kernel_rfl
theorem textAt_36 (m : Int) : (((catT).drop 36).take 4).all (fun r => chkText m r) = true := by kernel_rfl
theorem textsAll (m : Int) : (((catT).drop 0).take 40).all (fun r => chkText m r) = true := (all_join (i := 0) (a := 4) (n := 36) (textAt_0 m) (all_join (i := 4) (a := 4) (n := 32) (textAt_4 m) (all_join (i := 8) (a := 4) (n := 28) (textAt_8 m) (all_join (i := 12) (a := 4) (n := 24) (textAt_12 m) (all_join (i := 16) (a := 4) (n := 20) (textAt_16 m) (all_join (i := 20) (a := 4) (n := 16) (textAt_20 m) (all_join (i := 24) (a := 4) (n := 12) (textAt_24 m) (all_join (i := 28) (a := 4) (n := 8) (textAt_28 m) (all_join (i := 32) (a := 4) (n := 4) (textAt_32 m) (all_join (i := 36) (a := 4) (n := 0) (textAt_36 m) rfl))))))))))
theorem texts (m : Int) : (catT.all fun r => chkText m r) = true := by
  have h := textsAll m
  rwa [List.drop_zero, List.take_of_length_le (Nat.le_of_eq (by kernel_rfl))] at h
end Go.Proofs.YthahgmncnbeddaaGreatDoorA
