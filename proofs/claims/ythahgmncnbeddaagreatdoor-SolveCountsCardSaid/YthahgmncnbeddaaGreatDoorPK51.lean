/- What rule.Parse makes of the texts of ten calendars. -/
import Derived.Test.YthahgmncnbeddaaGreatDoorKA
set_option linter.unusedVariables false
set_option linter.unusedSimpArgs false
namespace Go.Proofs.YthahgmncnbeddaaGreatDoorA
open Go Go.RowKit Go.Proofs
set_option maxRecDepth 10000000
theorem parsedAt_10 (m : Int) : (((catT.zipIdx).drop 10).take 1).all (fun p => chkParse m p.2 p.1) = true := by kernel_rfl
theorem parsedAt_11 (m : Int) : (((catT.zipIdx).drop 11).take 1).all (fun p => chkParse m p.2 p.1) = true := by kernel_rfl
theorem parsedAt_12 (m : Int) : (((catT.zipIdx).drop 12).take 1).all (fun p => chkParse m p.2 p.1) = true := by kernel_rfl
theorem parsedAt_13 (m : Int) : (((catT.zipIdx).drop 13).take 1).all (fun p => chkParse m p.2 p.1) = true := by kernel_rfl
theorem parsedAt_14 (m : Int) : (((catT.zipIdx).drop 14).take 1).all (fun p => chkParse m p.2 p.1) = true := by kernel_rfl
theorem parsedAt_15 (m : Int) : (((catT.zipIdx).drop 15).take 1).all (fun p => chkParse m p.2 p.1) = true := by kernel_rfl
theorem parsedAt_16 (m : Int) : (((catT.zipIdx).drop 16).take 1).all (fun p => chkParse m p.2 p.1) = true := by kernel_rfl
theorem parsedAt_17 (m : Int) : (((catT.zipIdx).drop 17).take 1).all (fun p => chkParse m p.2 p.1) = true := by kernel_rfl
theorem parsedAt_18 (m : Int) : (((catT.zipIdx).drop 18).take 1).all (fun p => chkParse m p.2 p.1) = true := by kernel_rfl
theorem parsedAt_19 (m : Int) : (((catT.zipIdx).drop 19).take 1).all (fun p => chkParse m p.2 p.1) = true := by kernel_rfl
theorem parsed1 (m : Int) : (((catT.zipIdx).drop 10).take 10).all (fun p => chkParse m p.2 p.1) = true := (all_join (i := 10) (a := 1) (n := 9) (parsedAt_10 m) (all_join (i := 11) (a := 1) (n := 8) (parsedAt_11 m) (all_join (i := 12) (a := 1) (n := 7) (parsedAt_12 m) (all_join (i := 13) (a := 1) (n := 6) (parsedAt_13 m) (all_join (i := 14) (a := 1) (n := 5) (parsedAt_14 m) (all_join (i := 15) (a := 1) (n := 4) (parsedAt_15 m) (all_join (i := 16) (a := 1) (n := 3) (parsedAt_16 m) (all_join (i := 17) (a := 1) (n := 2) (parsedAt_17 m) (all_join (i := 18) (a := 1) (n := 1) (parsedAt_18 m) (all_join (i := 19) (a := 1) (n := 0) (parsedAt_19 m) rfl))))))))))
end Go.Proofs.YthahgmncnbeddaaGreatDoorA
