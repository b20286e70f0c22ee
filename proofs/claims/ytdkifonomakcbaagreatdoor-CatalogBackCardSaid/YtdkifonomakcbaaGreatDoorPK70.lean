/- What rule.Print makes of the rules of twenty calendars. -/
import Derived.Test.YtdkifonomakcbaaGreatDoorPK7
set_option linter.unusedVariables false
set_option linter.unusedSimpArgs false
namespace Go.Proofs.YtdkifonomakcbaaGreatDoorA
open Go Go.RowKit Go.Proofs
set_option maxRecDepth 10000000
theorem printAt_0 (m : Int) : (((catT.zipIdx).drop 0).take 1).all (fun p => chkPrint m p.2 p.1) = true := by kernel_rfl
theorem printAt_1 (m : Int) : (((catT.zipIdx).drop 1).take 1).all (fun p => chkPrint m p.2 p.1) = true := by kernel_rfl
theorem printAt_2 (m : Int) : (((catT.zipIdx).drop 2).take 1).all (fun p => chkPrint m p.2 p.1) = true := by kernel_rfl
theorem printAt_3 (m : Int) : (((catT.zipIdx).drop 3).take 1).all (fun p => chkPrint m p.2 p.1) = true := by kernel_rfl
theorem printAt_4 (m : Int) : (((catT.zipIdx).drop 4).take 1).all (fun p => chkPrint m p.2 p.1) = true := by kernel_rfl
theorem printAt_5 (m : Int) : (((catT.zipIdx).drop 5).take 1).all (fun p => chkPrint m p.2 p.1) = true := by kernel_rfl
theorem printAt_6 (m : Int) : (((catT.zipIdx).drop 6).take 1).all (fun p => chkPrint m p.2 p.1) = true := by kernel_rfl
theorem printAt_7 (m : Int) : (((catT.zipIdx).drop 7).take 1).all (fun p => chkPrint m p.2 p.1) = true := by kernel_rfl
theorem printAt_8 (m : Int) : (((catT.zipIdx).drop 8).take 1).all (fun p => chkPrint m p.2 p.1) = true := by kernel_rfl
theorem printAt_9 (m : Int) : (((catT.zipIdx).drop 9).take 1).all (fun p => chkPrint m p.2 p.1) = true := by kernel_rfl
theorem printAt_10 (m : Int) : (((catT.zipIdx).drop 10).take 1).all (fun p => chkPrint m p.2 p.1) = true := by kernel_rfl
theorem printAt_11 (m : Int) : (((catT.zipIdx).drop 11).take 1).all (fun p => chkPrint m p.2 p.1) = true := by kernel_rfl
theorem printAt_12 (m : Int) : (((catT.zipIdx).drop 12).take 1).all (fun p => chkPrint m p.2 p.1) = true := by kernel_rfl
theorem printAt_13 (m : Int) : (((catT.zipIdx).drop 13).take 1).all (fun p => chkPrint m p.2 p.1) = true := by kernel_rfl
theorem printAt_14 (m : Int) : (((catT.zipIdx).drop 14).take 1).all (fun p => chkPrint m p.2 p.1) = true := by kernel_rfl
theorem printAt_15 (m : Int) : (((catT.zipIdx).drop 15).take 1).all (fun p => chkPrint m p.2 p.1) = true := by kernel_rfl
theorem printAt_16 (m : Int) : (((catT.zipIdx).drop 16).take 1).all (fun p => chkPrint m p.2 p.1) = true := by kernel_rfl
theorem printAt_17 (m : Int) : (((catT.zipIdx).drop 17).take 1).all (fun p => chkPrint m p.2 p.1) = true := by kernel_rfl
theorem printAt_18 (m : Int) : (((catT.zipIdx).drop 18).take 1).all (fun p => chkPrint m p.2 p.1) = true := by kernel_rfl
theorem printAt_19 (m : Int) : (((catT.zipIdx).drop 19).take 1).all (fun p => chkPrint m p.2 p.1) = true := by kernel_rfl
theorem printed0 (m : Int) : (((catT.zipIdx).drop 0).take 20).all (fun p => chkPrint m p.2 p.1) = true := (all_join (i := 0) (a := 1) (n := 19) (printAt_0 m) (all_join (i := 1) (a := 1) (n := 18) (printAt_1 m) (all_join (i := 2) (a := 1) (n := 17) (printAt_2 m) (all_join (i := 3) (a := 1) (n := 16) (printAt_3 m) (all_join (i := 4) (a := 1) (n := 15) (printAt_4 m) (all_join (i := 5) (a := 1) (n := 14) (printAt_5 m) (all_join (i := 6) (a := 1) (n := 13) (printAt_6 m) (all_join (i := 7) (a := 1) (n := 12) (printAt_7 m) (all_join (i := 8) (a := 1) (n := 11) (printAt_8 m) (all_join (i := 9) (a := 1) (n := 10) (printAt_9 m) (all_join (i := 10) (a := 1) (n := 9) (printAt_10 m) (all_join (i := 11) (a := 1) (n := 8) (printAt_11 m) (all_join (i := 12) (a := 1) (n := 7) (printAt_12 m) (all_join (i := 13) (a := 1) (n := 6) (printAt_13 m) (all_join (i := 14) (a := 1) (n := 5) (printAt_14 m) (all_join (i := 15) (a := 1) (n := 4) (printAt_15 m) (all_join (i := 16) (a := 1) (n := 3) (printAt_16 m) (all_join (i := 17) (a := 1) (n := 2) (printAt_17 m) (all_join (i := 18) (a := 1) (n := 1) (printAt_18 m) (all_join (i := 19) (a := 1) (n := 0) (printAt_19 m) rfl))))))))))))))))))))
end Go.Proofs.YtdkifonomakcbaaGreatDoorA
