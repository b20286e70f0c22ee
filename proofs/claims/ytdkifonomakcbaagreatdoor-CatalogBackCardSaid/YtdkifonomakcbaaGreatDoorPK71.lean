/- What rule.Print makes of the rules of twenty calendars. -/
import Derived.Test.YtdkifonomakcbaaGreatDoorPK7
set_option linter.unusedVariables false
set_option linter.unusedSimpArgs false
namespace Go.Proofs.YtdkifonomakcbaaGreatDoorA
open Go Go.RowKit Go.Proofs
set_option maxRecDepth 10000000
theorem printAt_20 (m : Int) : (((catT.zipIdx).drop 20).take 1).all (fun p => chkPrint m p.2 p.1) = true := by kernel_rfl
theorem printAt_21 (m : Int) : (((catT.zipIdx).drop 21).take 1).all (fun p => chkPrint m p.2 p.1) = true := by kernel_rfl
theorem printAt_22 (m : Int) : (((catT.zipIdx).drop 22).take 1).all (fun p => chkPrint m p.2 p.1) = true := by kernel_rfl
theorem printAt_23 (m : Int) : (((catT.zipIdx).drop 23).take 1).all (fun p => chkPrint m p.2 p.1) = true := by kernel_rfl
theorem printAt_24 (m : Int) : (((catT.zipIdx).drop 24).take 1).all (fun p => chkPrint m p.2 p.1) = true := by kernel_rfl
theorem printAt_25 (m : Int) : (((catT.zipIdx).drop 25).take 1).all (fun p => chkPrint m p.2 p.1) = true := by kernel_rfl
theorem printAt_26 (m : Int) : (((catT.zipIdx).drop 26).take 1).all (fun p => chkPrint m p.2 p.1) = true := by kernel_rfl
theorem printAt_27 (m : Int) : (((catT.zipIdx).drop 27).take 1).all (fun p => chkPrint m p.2 p.1) = true := by kernel_rfl
theorem printAt_28 (m : Int) : (((catT.zipIdx).drop 28).take 1).all (fun p => chkPrint m p.2 p.1) = true := by kernel_rfl
theorem printAt_29 (m : Int) : (((catT.zipIdx).drop 29).take 1).all (fun p => chkPrint m p.2 p.1) = true := by kernel_rfl
theorem printAt_30 (m : Int) : (((catT.zipIdx).drop 30).take 1).all (fun p => chkPrint m p.2 p.1) = true := by kernel_rfl
theorem printAt_31 (m : Int) : (((catT.zipIdx).drop 31).take 1).all (fun p => chkPrint m p.2 p.1) = true := by kernel_rfl
theorem printAt_32 (m : Int) : (((catT.zipIdx).drop 32).take 1).all (fun p => chkPrint m p.2 p.1) = true := by kernel_rfl
theorem printAt_33 (m : Int) : (((catT.zipIdx).drop 33).take 1).all (fun p => chkPrint m p.2 p.1) = true := by kernel_rfl
theorem printAt_34 (m : Int) : (((catT.zipIdx).drop 34).take 1).all (fun p => chkPrint m p.2 p.1) = true := by kernel_rfl
theorem printAt_35 (m : Int) : (((catT.zipIdx).drop 35).take 1).all (fun p => chkPrint m p.2 p.1) = true := by kernel_rfl
theorem printAt_36 (m : Int) : (((catT.zipIdx).drop 36).take 1).all (fun p => chkPrint m p.2 p.1) = true := by kernel_rfl
theorem printAt_37 (m : Int) : (((catT.zipIdx).drop 37).take 1).all (fun p => chkPrint m p.2 p.1) = true := by kernel_rfl
theorem printAt_38 (m : Int) : (((catT.zipIdx).drop 38).take 1).all (fun p => chkPrint m p.2 p.1) = true := by kernel_rfl
theorem printAt_39 (m : Int) : (((catT.zipIdx).drop 39).take 1).all (fun p => chkPrint m p.2 p.1) = true := by kernel_rfl
theorem printed1 (m : Int) : (((catT.zipIdx).drop 20).take 20).all (fun p => chkPrint m p.2 p.1) = true := (all_join (i := 20) (a := 1) (n := 19) (printAt_20 m) (all_join (i := 21) (a := 1) (n := 18) (printAt_21 m) (all_join (i := 22) (a := 1) (n := 17) (printAt_22 m) (all_join (i := 23) (a := 1) (n := 16) (printAt_23 m) (all_join (i := 24) (a := 1) (n := 15) (printAt_24 m) (all_join (i := 25) (a := 1) (n := 14) (printAt_25 m) (all_join (i := 26) (a := 1) (n := 13) (printAt_26 m) (all_join (i := 27) (a := 1) (n := 12) (printAt_27 m) (all_join (i := 28) (a := 1) (n := 11) (printAt_28 m) (all_join (i := 29) (a := 1) (n := 10) (printAt_29 m) (all_join (i := 30) (a := 1) (n := 9) (printAt_30 m) (all_join (i := 31) (a := 1) (n := 8) (printAt_31 m) (all_join (i := 32) (a := 1) (n := 7) (printAt_32 m) (all_join (i := 33) (a := 1) (n := 6) (printAt_33 m) (all_join (i := 34) (a := 1) (n := 5) (printAt_34 m) (all_join (i := 35) (a := 1) (n := 4) (printAt_35 m) (all_join (i := 36) (a := 1) (n := 3) (printAt_36 m) (all_join (i := 37) (a := 1) (n := 2) (printAt_37 m) (all_join (i := 38) (a := 1) (n := 1) (printAt_38 m) (all_join (i := 39) (a := 1) (n := 0) (printAt_39 m) rfl))))))))))))))))))))
end Go.Proofs.YtdkifonomakcbaaGreatDoorA
