/- Facts of types, printed by wip/av/facts.py. -/
import Derived.Test.YthahgmncnbeddaaGreatDoorProg
import Derived.Test.YthahgmncnbeddaaGreatDoorMA
set_option linter.unusedVariables false
namespace Go.Proofs.YthahgmncnbeddaaGreatDoorFx
open Go Go.Proofs.YthahgmncnbeddaaGreatDoorA Go.Proofs
@[go_sem] theorem un3 : Program.underlying Tryz.prog 3 = some (TypeDesc.int IntKind.i64) := by kernel_rfl
@[go_sem] theorem sf3 : selfT Tryz.prog 3 = false := by kernel_rfl
@[go_sem] theorem sz3 : szT Tryz.prog 3 = some 1 := by kernel_rfl
@[go_sem] theorem ag3 : aggT Tryz.prog 3 = some false := by kernel_rfl
@[go_sem] theorem zr3 : zeroT Tryz.prog 3 = some [AV.i IntKind.i64 0] := by kernel_rfl
@[go_sem] theorem u83 : u8T Tryz.prog 3 = false := by kernel_rfl
@[go_sem] theorem un4 : Program.underlying Tryz.prog 4 = some TypeDesc.bool := by kernel_rfl
@[go_sem] theorem sz4 : szT Tryz.prog 4 = some 1 := by kernel_rfl
@[go_sem] theorem ag4 : aggT Tryz.prog 4 = some false := by kernel_rfl
@[go_sem] theorem zr4 : zeroT Tryz.prog 4 = some [AV.b false] := by kernel_rfl
@[go_sem] theorem un9 : Program.underlying Tryz.prog 9 = some TypeDesc.string := by kernel_rfl
@[go_sem] theorem sz9 : szT Tryz.prog 9 = some 1 := by kernel_rfl
@[go_sem] theorem ag9 : aggT Tryz.prog 9 = some false := by kernel_rfl
@[go_sem] theorem zr9 : zeroT Tryz.prog 9 = some [AV.s []] := by kernel_rfl
@[go_sem] theorem u89 : u8T Tryz.prog 9 = false := by kernel_rfl
@[go_sem] theorem un22 : Program.underlying Tryz.prog 22 = some (TypeDesc.slice 24) := by kernel_rfl
@[go_sem] theorem sz22 : szT Tryz.prog 22 = some 1 := by kernel_rfl
@[go_sem] theorem ag22 : aggT Tryz.prog 22 = some false := by kernel_rfl
@[go_sem] theorem el22 : elT Tryz.prog 22 = some (5, 24) := by kernel_rfl
@[go_sem] theorem sf24 : selfT Tryz.prog 24 = false := by kernel_rfl
@[go_sem] theorem sz24 : szT Tryz.prog 24 = some 5 := by kernel_rfl
@[go_sem] theorem ag24 : aggT Tryz.prog 24 = some true := by kernel_rfl
@[go_sem] theorem zr24 : zeroT Tryz.prog 24 = some [AV.i IntKind.i64 0, AV.i IntKind.i64 0, AV.i IntKind.i64 0, AV.s [], AV.nils] := by kernel_rfl
@[go_sem] theorem pl24 : plT Tryz.prog 24 = some (Sum.inl [(0, 1), (1, 1), (2, 1), (3, 1), (4, 1)]) := by kernel_rfl
@[go_sem] theorem fd24_0 : fldT Tryz.prog 24 0 = some (0, 3) := by kernel_rfl
@[go_sem] theorem fd24_1 : fldT Tryz.prog 24 1 = some (1, 3) := by kernel_rfl
@[go_sem] theorem fd24_2 : fldT Tryz.prog 24 2 = some (2, 3) := by kernel_rfl
@[go_sem] theorem fd24_3 : fldT Tryz.prog 24 3 = some (3, 9) := by kernel_rfl
@[go_sem] theorem fd24_4 : fldT Tryz.prog 24 4 = some (4, 22) := by kernel_rfl
@[go_sem] theorem sz27 : szT Tryz.prog 27 = some 1 := by kernel_rfl
@[go_sem] theorem ag27 : aggT Tryz.prog 27 = some false := by kernel_rfl
@[go_sem] theorem un30 : Program.underlying Tryz.prog 30 = some (TypeDesc.array 3 4) := by kernel_rfl
@[go_sem] theorem sf30 : selfT Tryz.prog 30 = false := by kernel_rfl
@[go_sem] theorem sz30 : szT Tryz.prog 30 = some 3 := by kernel_rfl
@[go_sem] theorem ag30 : aggT Tryz.prog 30 = some true := by kernel_rfl
@[go_sem] theorem zr30 : zeroT Tryz.prog 30 = some [AV.b false, AV.b false, AV.b false] := by kernel_rfl
@[go_sem] theorem pl30 : plT Tryz.prog 30 = some (Sum.inr 1) := by kernel_rfl
@[go_sem] theorem sf41 : selfT Tryz.prog 41 = false := by kernel_rfl
@[go_sem] theorem sz41 : szT Tryz.prog 41 = some 3 := by kernel_rfl
@[go_sem] theorem ag41 : aggT Tryz.prog 41 = some true := by kernel_rfl
@[go_sem] theorem zr41 : zeroT Tryz.prog 41 = some [AV.i IntKind.i64 0, AV.i IntKind.i64 0, AV.i IntKind.i64 0] := by kernel_rfl
@[go_sem] theorem pl41 : plT Tryz.prog 41 = some (Sum.inl [(0, 1), (1, 1), (2, 1)]) := by kernel_rfl
@[go_sem] theorem fd41_0 : fldT Tryz.prog 41 0 = some (0, 3) := by kernel_rfl
@[go_sem] theorem fd41_1 : fldT Tryz.prog 41 1 = some (1, 3) := by kernel_rfl
@[go_sem] theorem fd41_2 : fldT Tryz.prog 41 2 = some (2, 3) := by kernel_rfl
@[go_sem] theorem un47 : Program.underlying Tryz.prog 47 = some (TypeDesc.slice 3) := by kernel_rfl
@[go_sem] theorem sz47 : szT Tryz.prog 47 = some 1 := by kernel_rfl
@[go_sem] theorem ag47 : aggT Tryz.prog 47 = some false := by kernel_rfl
@[go_sem] theorem el47 : elT Tryz.prog 47 = some (1, 3) := by kernel_rfl
@[go_sem] theorem sf54 : selfT Tryz.prog 54 = false := by kernel_rfl
@[go_sem] theorem sz54 : szT Tryz.prog 54 = some 6 := by kernel_rfl
@[go_sem] theorem ag54 : aggT Tryz.prog 54 = some true := by kernel_rfl
@[go_sem] theorem zr54 : zeroT Tryz.prog 54 = some [AV.nils, AV.i IntKind.i64 0, AV.i IntKind.i64 0, AV.i IntKind.i64 0, AV.s [], AV.nils] := by kernel_rfl
@[go_sem] theorem pl54 : plT Tryz.prog 54 = some (Sum.inl [(0, 1), (1, 5)]) := by kernel_rfl
@[go_sem] theorem fd54_0 : fldT Tryz.prog 54 0 = some (0, 47) := by kernel_rfl
@[go_sem] theorem fd54_1 : fldT Tryz.prog 54 1 = some (1, 24) := by kernel_rfl
@[go_sem] theorem un59 : Program.underlying Tryz.prog 59 = some (TypeDesc.slice 9) := by kernel_rfl
@[go_sem] theorem sz59 : szT Tryz.prog 59 = some 1 := by kernel_rfl
@[go_sem] theorem ag59 : aggT Tryz.prog 59 = some false := by kernel_rfl
@[go_sem] theorem el59 : elT Tryz.prog 59 = some (1, 9) := by kernel_rfl
@[go_sem] theorem un60 : Program.underlying Tryz.prog 60 = some (TypeDesc.slice 71) := by kernel_rfl
@[go_sem] theorem sz60 : szT Tryz.prog 60 = some 1 := by kernel_rfl
@[go_sem] theorem ag60 : aggT Tryz.prog 60 = some false := by kernel_rfl
@[go_sem] theorem el60 : elT Tryz.prog 60 = some (5, 71) := by kernel_rfl
@[go_sem] theorem sf62 : selfT Tryz.prog 62 = false := by kernel_rfl
@[go_sem] theorem zr62 : zeroT Tryz.prog 62 = some [AV.nils, AV.nils] := by kernel_rfl
@[go_sem] theorem fd62_0 : fldT Tryz.prog 62 0 = some (0, 59) := by kernel_rfl
@[go_sem] theorem fd62_1 : fldT Tryz.prog 62 1 = some (1, 60) := by kernel_rfl
@[go_sem] theorem un63 : Program.underlying Tryz.prog 63 = some (TypeDesc.slice 4) := by kernel_rfl
@[go_sem] theorem sf63 : selfT Tryz.prog 63 = false := by kernel_rfl
@[go_sem] theorem sz63 : szT Tryz.prog 63 = some 1 := by kernel_rfl
@[go_sem] theorem ag63 : aggT Tryz.prog 63 = some false := by kernel_rfl
@[go_sem] theorem zr63 : zeroT Tryz.prog 63 = some [AV.nils] := by kernel_rfl
@[go_sem] theorem el63 : elT Tryz.prog 63 = some (1, 4) := by kernel_rfl
@[go_sem] theorem sf66 : selfT Tryz.prog 66 = false := by kernel_rfl
@[go_sem] theorem zr66 : zeroT Tryz.prog 66 = some [AV.i IntKind.i64 0] := by kernel_rfl
@[go_sem] theorem fd66_0 : fldT Tryz.prog 66 0 = some (0, 3) := by kernel_rfl
@[go_sem] theorem un69 : Program.underlying Tryz.prog 69 = some (TypeDesc.slice 128) := by kernel_rfl
@[go_sem] theorem sz69 : szT Tryz.prog 69 = some 1 := by kernel_rfl
@[go_sem] theorem ag69 : aggT Tryz.prog 69 = some false := by kernel_rfl
@[go_sem] theorem el69 : elT Tryz.prog 69 = some (3, 128) := by kernel_rfl
@[go_sem] theorem sf71 : selfT Tryz.prog 71 = false := by kernel_rfl
@[go_sem] theorem sz71 : szT Tryz.prog 71 = some 5 := by kernel_rfl
@[go_sem] theorem ag71 : aggT Tryz.prog 71 = some true := by kernel_rfl
@[go_sem] theorem zr71 : zeroT Tryz.prog 71 = some [AV.s [], AV.i IntKind.i64 0, AV.i IntKind.i64 0, AV.nils, AV.nils] := by kernel_rfl
@[go_sem] theorem u871 : u8T Tryz.prog 71 = false := by kernel_rfl
@[go_sem] theorem pl71 : plT Tryz.prog 71 = some (Sum.inl [(0, 1), (1, 1), (2, 1), (3, 1), (4, 1)]) := by kernel_rfl
@[go_sem] theorem fd71_0 : fldT Tryz.prog 71 0 = some (0, 9) := by kernel_rfl
@[go_sem] theorem fd71_1 : fldT Tryz.prog 71 1 = some (1, 3) := by kernel_rfl
@[go_sem] theorem fd71_2 : fldT Tryz.prog 71 2 = some (2, 3) := by kernel_rfl
@[go_sem] theorem fd71_3 : fldT Tryz.prog 71 3 = some (3, 69) := by kernel_rfl
@[go_sem] theorem fd71_4 : fldT Tryz.prog 71 4 = some (4, 47) := by kernel_rfl
@[go_sem] theorem un81 : Program.underlying Tryz.prog 81 = some (TypeDesc.slice 41) := by kernel_rfl
@[go_sem] theorem sf81 : selfT Tryz.prog 81 = false := by kernel_rfl
@[go_sem] theorem sz81 : szT Tryz.prog 81 = some 1 := by kernel_rfl
@[go_sem] theorem ag81 : aggT Tryz.prog 81 = some false := by kernel_rfl
@[go_sem] theorem zr81 : zeroT Tryz.prog 81 = some [AV.nils] := by kernel_rfl
@[go_sem] theorem el81 : elT Tryz.prog 81 = some (3, 41) := by kernel_rfl
@[go_sem] theorem el85 : elT Tryz.prog 85 = none := by kernel_rfl
@[go_sem] theorem ar85 : arT Tryz.prog 85 = some (13, 1) := by kernel_rfl
@[go_sem] theorem un87 : Program.underlying Tryz.prog 87 = some (TypeDesc.slice 90) := by kernel_rfl
@[go_sem] theorem el87 : elT Tryz.prog 87 = some (5, 90) := by kernel_rfl
@[go_sem] theorem sf90 : selfT Tryz.prog 90 = false := by kernel_rfl
@[go_sem] theorem sz90 : szT Tryz.prog 90 = some 5 := by kernel_rfl
@[go_sem] theorem ag90 : aggT Tryz.prog 90 = some true := by kernel_rfl
@[go_sem] theorem zr90 : zeroT Tryz.prog 90 = some [AV.s [], AV.i IntKind.i64 0, AV.i IntKind.i64 0, AV.s [], AV.i IntKind.u8 0] := by kernel_rfl
@[go_sem] theorem fd90_0 : fldT Tryz.prog 90 0 = some (0, 9) := by kernel_rfl
@[go_sem] theorem un93 : Program.underlying Tryz.prog 93 = some (TypeDesc.slice 95) := by kernel_rfl
@[go_sem] theorem sz93 : szT Tryz.prog 93 = some 1 := by kernel_rfl
@[go_sem] theorem ag93 : aggT Tryz.prog 93 = some false := by kernel_rfl
@[go_sem] theorem el93 : elT Tryz.prog 93 = some (3, 95) := by kernel_rfl
@[go_sem] theorem sf95 : selfT Tryz.prog 95 = false := by kernel_rfl
@[go_sem] theorem sz95 : szT Tryz.prog 95 = some 3 := by kernel_rfl
@[go_sem] theorem ag95 : aggT Tryz.prog 95 = some true := by kernel_rfl
@[go_sem] theorem zr95 : zeroT Tryz.prog 95 = some [AV.i IntKind.i64 0, AV.i IntKind.i64 0, AV.nils] := by kernel_rfl
@[go_sem] theorem fd95_0 : fldT Tryz.prog 95 0 = some (0, 3) := by kernel_rfl
@[go_sem] theorem fd95_1 : fldT Tryz.prog 95 1 = some (1, 3) := by kernel_rfl
@[go_sem] theorem fd95_2 : fldT Tryz.prog 95 2 = some (2, 93) := by kernel_rfl
@[go_sem] theorem sf97 : selfT Tryz.prog 97 = false := by kernel_rfl
@[go_sem] theorem sz97 : szT Tryz.prog 97 = some 7 := by kernel_rfl
@[go_sem] theorem ag97 : aggT Tryz.prog 97 = some true := by kernel_rfl
@[go_sem] theorem zr97 : zeroT Tryz.prog 97 = some [AV.s [], AV.i IntKind.i64 0, AV.i IntKind.i64 0, AV.i IntKind.i64 0, AV.i IntKind.i64 0, AV.nils, AV.nils] := by kernel_rfl
@[go_sem] theorem fd97_0 : fldT Tryz.prog 97 0 = some (0, 9) := by kernel_rfl
@[go_sem] theorem fd97_1 : fldT Tryz.prog 97 1 = some (1, 3) := by kernel_rfl
@[go_sem] theorem fd97_2 : fldT Tryz.prog 97 2 = some (2, 3) := by kernel_rfl
@[go_sem] theorem fd97_3 : fldT Tryz.prog 97 3 = some (3, 95) := by kernel_rfl
@[go_sem] theorem fd97_4 : fldT Tryz.prog 97 4 = some (6, 69) := by kernel_rfl
@[go_sem] theorem sf128 : selfT Tryz.prog 128 = false := by kernel_rfl
@[go_sem] theorem sz128 : szT Tryz.prog 128 = some 3 := by kernel_rfl
@[go_sem] theorem ag128 : aggT Tryz.prog 128 = some true := by kernel_rfl
@[go_sem] theorem zr128 : zeroT Tryz.prog 128 = some [AV.s [], AV.i IntKind.i64 0, AV.i IntKind.i64 0] := by kernel_rfl
@[go_sem] theorem u8128 : u8T Tryz.prog 128 = false := by kernel_rfl
@[go_sem] theorem fd128_1 : fldT Tryz.prog 128 1 = some (1, 3) := by kernel_rfl
@[go_sem] theorem fd128_2 : fldT Tryz.prog 128 2 = some (2, 3) := by kernel_rfl
@[go_sem] theorem fd148_0 : fldT Tryz.prog 148 0 = some (0, 9) := by kernel_rfl
@[go_sem] theorem fd148_1 : fldT Tryz.prog 148 1 = some (1, 3) := by kernel_rfl
@[go_sem] theorem sf155 : selfT Tryz.prog 155 = false := by kernel_rfl
@[go_sem] theorem sz155 : szT Tryz.prog 155 = some 2 := by kernel_rfl
@[go_sem] theorem zr155 : zeroT Tryz.prog 155 = some [AV.i IntKind.i64 0, AV.i IntKind.i64 0] := by kernel_rfl
@[go_sem] theorem pl155 : plT Tryz.prog 155 = some (Sum.inl [(0, 1), (1, 1)]) := by kernel_rfl
@[go_sem] theorem fd155_0 : fldT Tryz.prog 155 0 = some (0, 3) := by kernel_rfl
@[go_sem] theorem fd155_1 : fldT Tryz.prog 155 1 = some (1, 27) := by kernel_rfl
@[go_sem] theorem un158 : Program.underlying Tryz.prog 158 = some (TypeDesc.int IntKind.u64) := by kernel_rfl
@[go_sem] theorem el177 : elT Tryz.prog 177 = none := by kernel_rfl
@[go_sem] theorem ar177 : arT Tryz.prog 177 = some (14, 1) := by kernel_rfl
@[go_sem] theorem sf179 : selfT Tryz.prog 179 = false := by kernel_rfl
@[go_sem] theorem zr179 : zeroT Tryz.prog 179 = some [AV.i IntKind.i64 0, AV.i IntKind.i64 0] := by kernel_rfl
@[go_sem] theorem el179 : elT Tryz.prog 179 = none := by kernel_rfl
@[go_sem] theorem ar179 : arT Tryz.prog 179 = some (2, 1) := by kernel_rfl
@[go_sem] theorem un181 : Program.underlying Tryz.prog 181 = some (TypeDesc.int IntKind.u64) := by kernel_rfl
end Go.Proofs.YthahgmncnbeddaaGreatDoorFx
