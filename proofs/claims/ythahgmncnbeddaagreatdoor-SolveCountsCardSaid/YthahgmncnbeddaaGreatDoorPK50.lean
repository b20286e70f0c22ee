/- What rule.Parse makes of the texts of ten calendars. -/
import Derived.Test.YthahgmncnbeddaaGreatDoorKA
set_option linter.unusedVariables false
set_option linter.unusedSimpArgs false
namespace Go.Proofs.YthahgmncnbeddaaGreatDoorA
open Go Go.RowKit Go.Proofs
set_option maxRecDepth 10000000
theorem parsedAt_0 (m : Int) : (((catT.zipIdx).drop 0).take 1).all (fun p => chkParse m p.2 p.1) = true := by kernel_rfl
theorem parsedAt_1 (m : Int) : (((catT.zipIdx).drop 1).take 1).all (fun p => chkParse m p.2 p.1) = true := by kernel_rfl
theorem parsedAt_2 (m : Int) : (((catT.zipIdx).drop 2).take 1).all (fun p => chkParse m p.2 p.1) = true := by kernel_rfl
theorem parsedAt_3 (m : Int) : (((catT.zipIdx).drop 3).take 1).all (fun p => chkParse m p.2 p.1) = true := by kernel_rfl
theorem parsedAt_4 (m : Int) : (((catT.zipIdx).drop 4).take 1).all (fun p => chkParse m p.2 p.1) = true := by kernel_rfl
theorem parsedAt_5 (m : Int) : (((catT.zipIdx).drop 5).take 1).all (fun p => chkParse m p.2 p.1) = true := by kernel_rfl
theorem parsedAt_6 (m : Int) : (((catT.zipIdx).drop 6).take 1).all (fun p => chkParse m p.2 p.1) = true := by kernel_rfl
theorem parsedAt_7 (m : Int) : (((catT.zipIdx).drop 7).take 1).all (fun p => chkParse m p.2 p.1) = true := by kernel_rfl
theorem parsedAt_8 (m : Int) : (((catT.zipIdx).drop 8).take 1).all (fun p => chkParse m p.2 p.1) = true := by kernel_rfl
theorem parsedAt_9 (m : Int) : (((catT.zipIdx).drop 9).take 1).all (fun p => chkParse m p.2 p.1) = true := by kernel_rfl
theorem parsed0 (m : Int) : (((catT.zipIdx).drop 0).take 10).all (fun p => chkParse m p.2 p.1) = true := (all_join (i := 0) (a := 1) (n := 9) (parsedAt_0 m) (all_join (i := 1) (a := 1) (n := 8) (parsedAt_1 m) (all_join (i := 2) (a := 1) (n := 7) (parsedAt_2 m) (all_join (i := 3) (a := 1) (n := 6) (parsedAt_3 m) (all_join (i := 4) (a := 1) (n := 5) (parsedAt_4 m) (all_join (i := 5) (a := 1) (n := 4) (parsedAt_5 m) (all_join (i := 6) (a := 1) (n := 3) (parsedAt_6 m) (all_join (i := 7) (a := 1) (n := 2) (parsedAt_7 m) (all_join (i := 8) (a := 1) (n := 1) (parsedAt_8 m) (all_join (i := 9) (a := 1) (n := 0) (parsedAt_9 m) rfl))))))))))
end Go.Proofs.YthahgmncnbeddaaGreatDoorA
