/- What rule.Parse makes of the texts of ten calendars. -/
import Derived.Test.YthahgmncnbeddaaGreatDoorKA
set_option linter.unusedVariables false
set_option linter.unusedSimpArgs false
namespace Go.Proofs.YthahgmncnbeddaaGreatDoorA
open Go Go.RowKit Go.Proofs
set_option maxRecDepth 10000000
theorem parsedAt_30 (m : Int) : (((catT.zipIdx).drop 30).take 1).all (fun p => chkParse m p.2 p.1) = true := by kernel_rfl
theorem parsedAt_31 (m : Int) : (((catT.zipIdx).drop 31).take 1).all (fun p => chkParse m p.2 p.1) = true := by kernel_rfl
theorem parsedAt_32 (m : Int) : (((catT.zipIdx).drop 32).take 1).all (fun p => chkParse m p.2 p.1) = true := by kernel_rfl
theorem parsedAt_33 (m : Int) : (((catT.zipIdx).drop 33).take 1).all (fun p => chkParse m p.2 p.1) = true := by kernel_rfl
theorem parsedAt_34 (m : Int) : (((catT.zipIdx).drop 34).take 1).all (fun p => chkParse m p.2 p.1) = true := by kernel_rfl
theorem parsedAt_35 (m : Int) : (((catT.zipIdx).drop 35).take 1).all (fun p => chkParse m p.2 p.1) = true := by kernel_rfl
theorem parsedAt_36 (m : Int) : (((catT.zipIdx).drop 36).take 1).all (fun p => chkParse m p.2 p.1) = true := by kernel_rfl
theorem parsedAt_37 (m : Int) : (((catT.zipIdx).drop 37).take 1).all (fun p => chkParse m p.2 p.1) = true := by kernel_rfl
theorem parsedAt_38 (m : Int) : (((catT.zipIdx).drop 38).take 1).all (fun p => chkParse m p.2 p.1) = true := by kernel_rfl
theorem parsedAt_39 (m : Int) : (((catT.zipIdx).drop 39).take 1).all (fun p => chkParse m p.2 p.1) = true := by kernel_rfl
theorem parsed3 (m : Int) : (((catT.zipIdx).drop 30).take 10).all (fun p => chkParse m p.2 p.1) = true := (all_join (i := 30) (a := 1) (n := 9) (parsedAt_30 m) (all_join (i := 31) (a := 1) (n := 8) (parsedAt_31 m) (all_join (i := 32) (a := 1) (n := 7) (parsedAt_32 m) (all_join (i := 33) (a := 1) (n := 6) (parsedAt_33 m) (all_join (i := 34) (a := 1) (n := 5) (parsedAt_34 m) (all_join (i := 35) (a := 1) (n := 4) (parsedAt_35 m) (all_join (i := 36) (a := 1) (n := 3) (parsedAt_36 m) (all_join (i := 37) (a := 1) (n := 2) (parsedAt_37 m) (all_join (i := 38) (a := 1) (n := 1) (parsedAt_38 m) (all_join (i := 39) (a := 1) (n := 0) (parsedAt_39 m) rfl))))))))))
end Go.Proofs.YthahgmncnbeddaaGreatDoorA
