/- What rule.Parse makes of the texts of ten calendars. -/
import Derived.Test.YthahgmncnbeddaaGreatDoorKA
set_option linter.unusedVariables false
set_option linter.unusedSimpArgs false
namespace Go.Proofs.YthahgmncnbeddaaGreatDoorA
open Go Go.RowKit Go.Proofs
set_option maxRecDepth 10000000
theorem parsedAt_20 (m : Int) : (((catT.zipIdx).drop 20).take 1).all (fun p => chkParse m p.2 p.1) = true := by kernel_rfl
theorem parsedAt_21 (m : Int) : (((catT.zipIdx).drop 21).take 1).all (fun p => chkParse m p.2 p.1) = true := by kernel_rfl
theorem parsedAt_22 (m : Int) : (((catT.zipIdx).drop 22).take 1).all (fun p => chkParse m p.2 p.1) = true := by kernel_rfl
theorem parsedAt_23 (m : Int) : (((catT.zipIdx).drop 23).take 1).all (fun p => chkParse m p.2 p.1) = true := by kernel_rfl
theorem parsedAt_24 (m : Int) : (((catT.zipIdx).drop 24).take 1).all (fun p => chkParse m p.2 p.1) = true := by kernel_rfl
theorem parsedAt_25 (m : Int) : (((catT.zipIdx).drop 25).take 1).all (fun p => chkParse m p.2 p.1) = true := by kernel_rfl
theorem parsedAt_26 (m : Int) : (((catT.zipIdx).drop 26).take 1).all (fun p => chkParse m p.2 p.1) = true := by kernel_rfl
theorem parsedAt_27 (m : Int) : (((catT.zipIdx).drop 27).take 1).all (fun p => chkParse m p.2 p.1) = true := by kernel_rfl
theorem parsedAt_28 (m : Int) : (((catT.zipIdx).drop 28).take 1).all (fun p => chkParse m p.2 p.1) = true := by kernel_rfl
theorem parsedAt_29 (m : Int) : (((catT.zipIdx).drop 29).take 1).all (fun p => chkParse m p.2 p.1) = true := by kernel_rfl
theorem parsed2 (m : Int) : (((catT.zipIdx).drop 20).take 10).all (fun p => chkParse m p.2 p.1) = true := (all_join (i := 20) (a := 1) (n := 9) (parsedAt_20 m) (all_join (i := 21) (a := 1) (n := 8) (parsedAt_21 m) (all_join (i := 22) (a := 1) (n := 7) (parsedAt_22 m) (all_join (i := 23) (a := 1) (n := 6) (parsedAt_23 m) (all_join (i := 24) (a := 1) (n := 5) (parsedAt_24 m) (all_join (i := 25) (a := 1) (n := 4) (parsedAt_25 m) (all_join (i := 26) (a := 1) (n := 3) (parsedAt_26 m) (all_join (i := 27) (a := 1) (n := 2) (parsedAt_27 m) (all_join (i := 28) (a := 1) (n := 1) (parsedAt_28 m) (all_join (i := 29) (a := 1) (n := 0) (parsedAt_29 m) rfl))))))))))
end Go.Proofs.YthahgmncnbeddaaGreatDoorA
