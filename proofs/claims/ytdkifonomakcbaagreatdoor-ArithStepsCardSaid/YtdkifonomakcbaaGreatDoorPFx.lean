/- Facts of types, printed by wip/av/facts.py. -/
import Derived.Test.YtdkifonomakcbaaGreatDoorProg
import Derived.Test.YtdkifonomakcbaaGreatDoorMA
set_option linter.unusedVariables false
namespace Go.Proofs.YtdkifonomakcbaaGreatDoorFx
open Go Go.Proofs.YtdkifonomakcbaaGreatDoorA Go.Proofs
@[go_sem] theorem sf0 : selfT Tryz.prog 0 = false := by kernel_rfl
@[go_sem] theorem sz0 : szT Tryz.prog 0 = some 1 := by kernel_rfl
@[go_sem] theorem ag0 : aggT Tryz.prog 0 = some false := by kernel_rfl
@[go_sem] theorem u80 : u8T Tryz.prog 0 = false := by kernel_rfl
@[go_sem] theorem sf1 : selfT Tryz.prog 1 = false := by kernel_rfl
@[go_sem] theorem sz1 : szT Tryz.prog 1 = some 1 := by kernel_rfl
@[go_sem] theorem ag1 : aggT Tryz.prog 1 = some false := by kernel_rfl
@[go_sem] theorem zr1 : zeroT Tryz.prog 1 = some [AV.nf] := by kernel_rfl
@[go_sem] theorem u81 : u8T Tryz.prog 1 = false := by kernel_rfl
@[go_sem] theorem un2 : Program.underlying Tryz.prog 2 = some (TypeDesc.int IntKind.i64) := by kernel_rfl
@[go_sem] theorem sf2 : selfT Tryz.prog 2 = false := by kernel_rfl
@[go_sem] theorem sz2 : szT Tryz.prog 2 = some 1 := by kernel_rfl
@[go_sem] theorem ag2 : aggT Tryz.prog 2 = some false := by kernel_rfl
@[go_sem] theorem zr2 : zeroT Tryz.prog 2 = some [AV.i IntKind.i64 0] := by kernel_rfl
@[go_sem] theorem u82 : u8T Tryz.prog 2 = false := by kernel_rfl
@[go_sem] theorem un3 : Program.underlying Tryz.prog 3 = some (TypeDesc.int IntKind.i64) := by kernel_rfl
@[go_sem] theorem sf3 : selfT Tryz.prog 3 = false := by kernel_rfl
@[go_sem] theorem sz3 : szT Tryz.prog 3 = some 1 := by kernel_rfl
@[go_sem] theorem ag3 : aggT Tryz.prog 3 = some false := by kernel_rfl
@[go_sem] theorem zr3 : zeroT Tryz.prog 3 = some [AV.i IntKind.i64 0] := by kernel_rfl
@[go_sem] theorem u83 : u8T Tryz.prog 3 = false := by kernel_rfl
@[go_sem] theorem un4 : Program.underlying Tryz.prog 4 = some TypeDesc.bool := by kernel_rfl
@[go_sem] theorem sf4 : selfT Tryz.prog 4 = false := by kernel_rfl
@[go_sem] theorem sz4 : szT Tryz.prog 4 = some 1 := by kernel_rfl
@[go_sem] theorem ag4 : aggT Tryz.prog 4 = some false := by kernel_rfl
@[go_sem] theorem zr4 : zeroT Tryz.prog 4 = some [AV.b false] := by kernel_rfl
@[go_sem] theorem u84 : u8T Tryz.prog 4 = false := by kernel_rfl
@[go_sem] theorem un5 : Program.underlying Tryz.prog 5 = some (TypeDesc.int IntKind.u8) := by kernel_rfl
@[go_sem] theorem sf5 : selfT Tryz.prog 5 = false := by kernel_rfl
@[go_sem] theorem sz5 : szT Tryz.prog 5 = some 1 := by kernel_rfl
@[go_sem] theorem ag5 : aggT Tryz.prog 5 = some false := by kernel_rfl
@[go_sem] theorem zr5 : zeroT Tryz.prog 5 = some [AV.i IntKind.u8 0] := by kernel_rfl
@[go_sem] theorem u85 : u8T Tryz.prog 5 = true := by kernel_rfl
@[go_sem] theorem un6 : Program.underlying Tryz.prog 6 = some (TypeDesc.int IntKind.u8) := by kernel_rfl
@[go_sem] theorem sf6 : selfT Tryz.prog 6 = false := by kernel_rfl
@[go_sem] theorem sz6 : szT Tryz.prog 6 = some 1 := by kernel_rfl
@[go_sem] theorem ag6 : aggT Tryz.prog 6 = some false := by kernel_rfl
@[go_sem] theorem zr6 : zeroT Tryz.prog 6 = some [AV.i IntKind.u8 0] := by kernel_rfl
@[go_sem] theorem u86 : u8T Tryz.prog 6 = true := by kernel_rfl
@[go_sem] theorem sf7 : selfT Tryz.prog 7 = false := by kernel_rfl
@[go_sem] theorem sz7 : szT Tryz.prog 7 = some 4 := by kernel_rfl
@[go_sem] theorem ag7 : aggT Tryz.prog 7 = some true := by kernel_rfl
@[go_sem] theorem zr7 : zeroT Tryz.prog 7 = some [AV.i IntKind.i64 0, AV.i IntKind.i64 0, AV.b false, AV.i IntKind.u8 0] := by kernel_rfl
@[go_sem] theorem u87 : u8T Tryz.prog 7 = false := by kernel_rfl
@[go_sem] theorem if7 : ifcT Tryz.prog 7 = false := by kernel_rfl
@[go_sem] theorem pl7 : plT Tryz.prog 7 = some (Sum.inl [(0, 1), (1, 1), (2, 1), (3, 1)]) := by kernel_rfl
@[go_sem] theorem eq7 : eqL Tryz.prog 7 = some [(0, 1), (1, 1), (2, 0), (3, 1)] := by kernel_rfl
@[go_sem] theorem fd7_0 : fldT Tryz.prog 7 0 = some (0, 2) := by kernel_rfl
@[go_sem] theorem fd7_1 : fldT Tryz.prog 7 1 = some (1, 3) := by kernel_rfl
@[go_sem] theorem fd7_2 : fldT Tryz.prog 7 2 = some (2, 4) := by kernel_rfl
@[go_sem] theorem fd7_3 : fldT Tryz.prog 7 3 = some (3, 6) := by kernel_rfl
@[go_sem] theorem sf8 : selfT Tryz.prog 8 = false := by kernel_rfl
@[go_sem] theorem sz8 : szT Tryz.prog 8 = some 4 := by kernel_rfl
@[go_sem] theorem ag8 : aggT Tryz.prog 8 = some true := by kernel_rfl
@[go_sem] theorem zr8 : zeroT Tryz.prog 8 = some [AV.i IntKind.i64 0, AV.i IntKind.i64 0, AV.b false, AV.i IntKind.u8 0] := by kernel_rfl
@[go_sem] theorem u88 : u8T Tryz.prog 8 = false := by kernel_rfl
@[go_sem] theorem if8 : ifcT Tryz.prog 8 = false := by kernel_rfl
@[go_sem] theorem pl8 : plT Tryz.prog 8 = some (Sum.inl [(0, 1), (1, 1), (2, 1), (3, 1)]) := by kernel_rfl
@[go_sem] theorem eq8 : eqL Tryz.prog 8 = some [(0, 1), (1, 1), (2, 0), (3, 1)] := by kernel_rfl
@[go_sem] theorem fd8_0 : fldT Tryz.prog 8 0 = some (0, 2) := by kernel_rfl
@[go_sem] theorem fd8_1 : fldT Tryz.prog 8 1 = some (1, 3) := by kernel_rfl
@[go_sem] theorem fd8_2 : fldT Tryz.prog 8 2 = some (2, 4) := by kernel_rfl
@[go_sem] theorem fd8_3 : fldT Tryz.prog 8 3 = some (3, 6) := by kernel_rfl
@[go_sem] theorem un9 : Program.underlying Tryz.prog 9 = some TypeDesc.string := by kernel_rfl
@[go_sem] theorem sf9 : selfT Tryz.prog 9 = false := by kernel_rfl
@[go_sem] theorem sz9 : szT Tryz.prog 9 = some 1 := by kernel_rfl
@[go_sem] theorem ag9 : aggT Tryz.prog 9 = some false := by kernel_rfl
@[go_sem] theorem zr9 : zeroT Tryz.prog 9 = some [AV.s []] := by kernel_rfl
@[go_sem] theorem u89 : u8T Tryz.prog 9 = false := by kernel_rfl
@[go_sem] theorem un10 : Program.underlying Tryz.prog 10 = some TypeDesc.string := by kernel_rfl
@[go_sem] theorem sf10 : selfT Tryz.prog 10 = false := by kernel_rfl
@[go_sem] theorem sz10 : szT Tryz.prog 10 = some 1 := by kernel_rfl
@[go_sem] theorem ag10 : aggT Tryz.prog 10 = some false := by kernel_rfl
@[go_sem] theorem zr10 : zeroT Tryz.prog 10 = some [AV.s []] := by kernel_rfl
@[go_sem] theorem u810 : u8T Tryz.prog 10 = false := by kernel_rfl
@[go_sem] theorem un11 : Program.underlying Tryz.prog 11 = some TypeDesc.string := by kernel_rfl
@[go_sem] theorem sf11 : selfT Tryz.prog 11 = false := by kernel_rfl
@[go_sem] theorem sz11 : szT Tryz.prog 11 = some 1 := by kernel_rfl
@[go_sem] theorem ag11 : aggT Tryz.prog 11 = some false := by kernel_rfl
@[go_sem] theorem zr11 : zeroT Tryz.prog 11 = some [AV.s []] := by kernel_rfl
@[go_sem] theorem u811 : u8T Tryz.prog 11 = false := by kernel_rfl
@[go_sem] theorem un12 : Program.underlying Tryz.prog 12 = some (TypeDesc.int IntKind.u64) := by kernel_rfl
@[go_sem] theorem sf12 : selfT Tryz.prog 12 = false := by kernel_rfl
@[go_sem] theorem sz12 : szT Tryz.prog 12 = some 1 := by kernel_rfl
@[go_sem] theorem ag12 : aggT Tryz.prog 12 = some false := by kernel_rfl
@[go_sem] theorem zr12 : zeroT Tryz.prog 12 = some [AV.i IntKind.u64 0] := by kernel_rfl
@[go_sem] theorem u812 : u8T Tryz.prog 12 = false := by kernel_rfl
@[go_sem] theorem sf13 : selfT Tryz.prog 13 = false := by kernel_rfl
@[go_sem] theorem sz13 : szT Tryz.prog 13 = some 2 := by kernel_rfl
@[go_sem] theorem ag13 : aggT Tryz.prog 13 = some true := by kernel_rfl
@[go_sem] theorem zr13 : zeroT Tryz.prog 13 = some [AV.s [], AV.i IntKind.u64 0] := by kernel_rfl
@[go_sem] theorem u813 : u8T Tryz.prog 13 = false := by kernel_rfl
@[go_sem] theorem if13 : ifcT Tryz.prog 13 = false := by kernel_rfl
@[go_sem] theorem pl13 : plT Tryz.prog 13 = some (Sum.inl [(0, 1), (1, 1)]) := by kernel_rfl
@[go_sem] theorem fd13_0 : fldT Tryz.prog 13 0 = some (0, 9) := by kernel_rfl
@[go_sem] theorem fd13_1 : fldT Tryz.prog 13 1 = some (1, 12) := by kernel_rfl
@[go_sem] theorem sf14 : selfT Tryz.prog 14 = false := by kernel_rfl
@[go_sem] theorem sz14 : szT Tryz.prog 14 = some 2 := by kernel_rfl
@[go_sem] theorem ag14 : aggT Tryz.prog 14 = some true := by kernel_rfl
@[go_sem] theorem zr14 : zeroT Tryz.prog 14 = some [AV.s [], AV.i IntKind.u64 0] := by kernel_rfl
@[go_sem] theorem u814 : u8T Tryz.prog 14 = false := by kernel_rfl
@[go_sem] theorem if14 : ifcT Tryz.prog 14 = false := by kernel_rfl
@[go_sem] theorem pl14 : plT Tryz.prog 14 = some (Sum.inl [(0, 1), (1, 1)]) := by kernel_rfl
@[go_sem] theorem fd14_0 : fldT Tryz.prog 14 0 = some (0, 9) := by kernel_rfl
@[go_sem] theorem fd14_1 : fldT Tryz.prog 14 1 = some (1, 12) := by kernel_rfl
@[go_sem] theorem un15 : Program.underlying Tryz.prog 15 = some (TypeDesc.pointer 194) := by kernel_rfl
@[go_sem] theorem sf15 : selfT Tryz.prog 15 = false := by kernel_rfl
@[go_sem] theorem sz15 : szT Tryz.prog 15 = some 1 := by kernel_rfl
@[go_sem] theorem ag15 : aggT Tryz.prog 15 = some false := by kernel_rfl
@[go_sem] theorem zr15 : zeroT Tryz.prog 15 = some [AV.np] := by kernel_rfl
@[go_sem] theorem u815 : u8T Tryz.prog 15 = false := by kernel_rfl
@[go_sem] theorem pt15 : ptrT Tryz.prog 15 = true := by kernel_rfl
@[go_sem] theorem un16 : Program.underlying Tryz.prog 16 = some (TypeDesc.pointer 197) := by kernel_rfl
@[go_sem] theorem sf16 : selfT Tryz.prog 16 = false := by kernel_rfl
@[go_sem] theorem sz16 : szT Tryz.prog 16 = some 1 := by kernel_rfl
@[go_sem] theorem ag16 : aggT Tryz.prog 16 = some false := by kernel_rfl
@[go_sem] theorem zr16 : zeroT Tryz.prog 16 = some [AV.np] := by kernel_rfl
@[go_sem] theorem u816 : u8T Tryz.prog 16 = false := by kernel_rfl
@[go_sem] theorem pt16 : ptrT Tryz.prog 16 = true := by kernel_rfl
@[go_sem] theorem un17 : Program.underlying Tryz.prog 17 = some (TypeDesc.pointer 204) := by kernel_rfl
@[go_sem] theorem sf17 : selfT Tryz.prog 17 = false := by kernel_rfl
@[go_sem] theorem sz17 : szT Tryz.prog 17 = some 1 := by kernel_rfl
@[go_sem] theorem ag17 : aggT Tryz.prog 17 = some false := by kernel_rfl
@[go_sem] theorem zr17 : zeroT Tryz.prog 17 = some [AV.np] := by kernel_rfl
@[go_sem] theorem u817 : u8T Tryz.prog 17 = false := by kernel_rfl
@[go_sem] theorem pt17 : ptrT Tryz.prog 17 = true := by kernel_rfl
@[go_sem] theorem sf18 : selfT Tryz.prog 18 = false := by kernel_rfl
@[go_sem] theorem sz18 : szT Tryz.prog 18 = some 1 := by kernel_rfl
@[go_sem] theorem ag18 : aggT Tryz.prog 18 = some true := by kernel_rfl
@[go_sem] theorem zr18 : zeroT Tryz.prog 18 = some [AV.np] := by kernel_rfl
@[go_sem] theorem u818 : u8T Tryz.prog 18 = false := by kernel_rfl
@[go_sem] theorem if18 : ifcT Tryz.prog 18 = false := by kernel_rfl
@[go_sem] theorem pl18 : plT Tryz.prog 18 = some (Sum.inl [(0, 1)]) := by kernel_rfl
@[go_sem] theorem fd18_0 : fldT Tryz.prog 18 0 = some (0, 17) := by kernel_rfl
@[go_sem] theorem sf19 : selfT Tryz.prog 19 = false := by kernel_rfl
@[go_sem] theorem sz19 : szT Tryz.prog 19 = some 1 := by kernel_rfl
@[go_sem] theorem ag19 : aggT Tryz.prog 19 = some true := by kernel_rfl
@[go_sem] theorem zr19 : zeroT Tryz.prog 19 = some [AV.np] := by kernel_rfl
@[go_sem] theorem u819 : u8T Tryz.prog 19 = false := by kernel_rfl
@[go_sem] theorem if19 : ifcT Tryz.prog 19 = false := by kernel_rfl
@[go_sem] theorem pl19 : plT Tryz.prog 19 = some (Sum.inl [(0, 1)]) := by kernel_rfl
@[go_sem] theorem fd19_0 : fldT Tryz.prog 19 0 = some (0, 17) := by kernel_rfl
@[go_sem] theorem un20 : Program.underlying Tryz.prog 20 = some (TypeDesc.interface #[]) := by kernel_rfl
@[go_sem] theorem sf20 : selfT Tryz.prog 20 = false := by kernel_rfl
@[go_sem] theorem sz20 : szT Tryz.prog 20 = some 1 := by kernel_rfl
@[go_sem] theorem ag20 : aggT Tryz.prog 20 = some false := by kernel_rfl
@[go_sem] theorem zr20 : zeroT Tryz.prog 20 = some [AV.ni] := by kernel_rfl
@[go_sem] theorem u820 : u8T Tryz.prog 20 = false := by kernel_rfl
@[go_sem] theorem if20 : ifcT Tryz.prog 20 = true := by kernel_rfl
@[go_sem] theorem un21 : Program.underlying Tryz.prog 21 = some (TypeDesc.int IntKind.i32) := by kernel_rfl
@[go_sem] theorem sf21 : selfT Tryz.prog 21 = false := by kernel_rfl
@[go_sem] theorem sz21 : szT Tryz.prog 21 = some 1 := by kernel_rfl
@[go_sem] theorem ag21 : aggT Tryz.prog 21 = some false := by kernel_rfl
@[go_sem] theorem zr21 : zeroT Tryz.prog 21 = some [AV.i IntKind.i32 0] := by kernel_rfl
@[go_sem] theorem u821 : u8T Tryz.prog 21 = false := by kernel_rfl
@[go_sem] theorem sf22 : selfT Tryz.prog 22 = false := by kernel_rfl
@[go_sem] theorem sz22 : szT Tryz.prog 22 = some 1 := by kernel_rfl
@[go_sem] theorem ag22 : aggT Tryz.prog 22 = some false := by kernel_rfl
@[go_sem] theorem zr22 : zeroT Tryz.prog 22 = some [AV.nf] := by kernel_rfl
@[go_sem] theorem u822 : u8T Tryz.prog 22 = false := by kernel_rfl
@[go_sem] theorem un23 : Program.underlying Tryz.prog 23 = some (TypeDesc.slice 46) := by kernel_rfl
@[go_sem] theorem sf23 : selfT Tryz.prog 23 = false := by kernel_rfl
@[go_sem] theorem sz23 : szT Tryz.prog 23 = some 1 := by kernel_rfl
@[go_sem] theorem ag23 : aggT Tryz.prog 23 = some false := by kernel_rfl
@[go_sem] theorem zr23 : zeroT Tryz.prog 23 = some [AV.nils] := by kernel_rfl
@[go_sem] theorem u823 : u8T Tryz.prog 23 = false := by kernel_rfl
@[go_sem] theorem el23 : elT Tryz.prog 23 = some (3, 46) := by kernel_rfl
@[go_sem] theorem un24 : Program.underlying Tryz.prog 24 = some (TypeDesc.slice 3) := by kernel_rfl
@[go_sem] theorem sf24 : selfT Tryz.prog 24 = false := by kernel_rfl
@[go_sem] theorem sz24 : szT Tryz.prog 24 = some 1 := by kernel_rfl
@[go_sem] theorem ag24 : aggT Tryz.prog 24 = some false := by kernel_rfl
@[go_sem] theorem zr24 : zeroT Tryz.prog 24 = some [AV.nils] := by kernel_rfl
@[go_sem] theorem u824 : u8T Tryz.prog 24 = false := by kernel_rfl
@[go_sem] theorem el24 : elT Tryz.prog 24 = some (1, 3) := by kernel_rfl
@[go_sem] theorem sf25 : selfT Tryz.prog 25 = false := by kernel_rfl
@[go_sem] theorem sz25 : szT Tryz.prog 25 = some 5 := by kernel_rfl
@[go_sem] theorem ag25 : aggT Tryz.prog 25 = some true := by kernel_rfl
@[go_sem] theorem zr25 : zeroT Tryz.prog 25 = some [AV.s [], AV.i IntKind.i64 0, AV.i IntKind.i64 0, AV.nils, AV.nils] := by kernel_rfl
@[go_sem] theorem u825 : u8T Tryz.prog 25 = false := by kernel_rfl
@[go_sem] theorem if25 : ifcT Tryz.prog 25 = false := by kernel_rfl
@[go_sem] theorem pl25 : plT Tryz.prog 25 = some (Sum.inl [(0, 1), (1, 1), (2, 1), (3, 1), (4, 1)]) := by kernel_rfl
@[go_sem] theorem fd25_0 : fldT Tryz.prog 25 0 = some (0, 9) := by kernel_rfl
@[go_sem] theorem fd25_1 : fldT Tryz.prog 25 1 = some (1, 3) := by kernel_rfl
@[go_sem] theorem fd25_2 : fldT Tryz.prog 25 2 = some (2, 3) := by kernel_rfl
@[go_sem] theorem fd25_3 : fldT Tryz.prog 25 3 = some (3, 23) := by kernel_rfl
@[go_sem] theorem fd25_4 : fldT Tryz.prog 25 4 = some (4, 24) := by kernel_rfl
@[go_sem] theorem sf26 : selfT Tryz.prog 26 = false := by kernel_rfl
@[go_sem] theorem sz26 : szT Tryz.prog 26 = some 5 := by kernel_rfl
@[go_sem] theorem ag26 : aggT Tryz.prog 26 = some true := by kernel_rfl
@[go_sem] theorem zr26 : zeroT Tryz.prog 26 = some [AV.s [], AV.i IntKind.i64 0, AV.i IntKind.i64 0, AV.nils, AV.nils] := by kernel_rfl
@[go_sem] theorem u826 : u8T Tryz.prog 26 = false := by kernel_rfl
@[go_sem] theorem if26 : ifcT Tryz.prog 26 = false := by kernel_rfl
@[go_sem] theorem pl26 : plT Tryz.prog 26 = some (Sum.inl [(0, 1), (1, 1), (2, 1), (3, 1), (4, 1)]) := by kernel_rfl
@[go_sem] theorem fd26_0 : fldT Tryz.prog 26 0 = some (0, 9) := by kernel_rfl
@[go_sem] theorem fd26_1 : fldT Tryz.prog 26 1 = some (1, 3) := by kernel_rfl
@[go_sem] theorem fd26_2 : fldT Tryz.prog 26 2 = some (2, 3) := by kernel_rfl
@[go_sem] theorem fd26_3 : fldT Tryz.prog 26 3 = some (3, 23) := by kernel_rfl
@[go_sem] theorem fd26_4 : fldT Tryz.prog 26 4 = some (4, 24) := by kernel_rfl
@[go_sem] theorem un27 : Program.underlying Tryz.prog 27 = some (TypeDesc.int IntKind.i64) := by kernel_rfl
@[go_sem] theorem sf27 : selfT Tryz.prog 27 = false := by kernel_rfl
@[go_sem] theorem sz27 : szT Tryz.prog 27 = some 1 := by kernel_rfl
@[go_sem] theorem ag27 : aggT Tryz.prog 27 = some false := by kernel_rfl
@[go_sem] theorem zr27 : zeroT Tryz.prog 27 = some [AV.i IntKind.i64 0] := by kernel_rfl
@[go_sem] theorem u827 : u8T Tryz.prog 27 = false := by kernel_rfl
@[go_sem] theorem sf28 : selfT Tryz.prog 28 = false := by kernel_rfl
@[go_sem] theorem sz28 : szT Tryz.prog 28 = some 1 := by kernel_rfl
@[go_sem] theorem ag28 : aggT Tryz.prog 28 = some false := by kernel_rfl
@[go_sem] theorem u828 : u8T Tryz.prog 28 = false := by kernel_rfl
@[go_sem] theorem sf29 : selfT Tryz.prog 29 = false := by kernel_rfl
@[go_sem] theorem sz29 : szT Tryz.prog 29 = some 1 := by kernel_rfl
@[go_sem] theorem ag29 : aggT Tryz.prog 29 = some false := by kernel_rfl
@[go_sem] theorem zr29 : zeroT Tryz.prog 29 = some [AV.nf] := by kernel_rfl
@[go_sem] theorem u829 : u8T Tryz.prog 29 = false := by kernel_rfl
@[go_sem] theorem sf30 : selfT Tryz.prog 30 = false := by kernel_rfl
@[go_sem] theorem sz30 : szT Tryz.prog 30 = some 1 := by kernel_rfl
@[go_sem] theorem ag30 : aggT Tryz.prog 30 = some false := by kernel_rfl
@[go_sem] theorem zr30 : zeroT Tryz.prog 30 = some [AV.nf] := by kernel_rfl
@[go_sem] theorem u830 : u8T Tryz.prog 30 = false := by kernel_rfl
@[go_sem] theorem sf31 : selfT Tryz.prog 31 = false := by kernel_rfl
@[go_sem] theorem sz31 : szT Tryz.prog 31 = some 1 := by kernel_rfl
@[go_sem] theorem ag31 : aggT Tryz.prog 31 = some false := by kernel_rfl
@[go_sem] theorem zr31 : zeroT Tryz.prog 31 = some [AV.nf] := by kernel_rfl
@[go_sem] theorem u831 : u8T Tryz.prog 31 = false := by kernel_rfl
@[go_sem] theorem sf32 : selfT Tryz.prog 32 = false := by kernel_rfl
@[go_sem] theorem sz32 : szT Tryz.prog 32 = some 3 := by kernel_rfl
@[go_sem] theorem ag32 : aggT Tryz.prog 32 = some true := by kernel_rfl
@[go_sem] theorem zr32 : zeroT Tryz.prog 32 = some [AV.i IntKind.i64 0, AV.i IntKind.i64 0, AV.i IntKind.i64 0] := by kernel_rfl
@[go_sem] theorem u832 : u8T Tryz.prog 32 = false := by kernel_rfl
@[go_sem] theorem if32 : ifcT Tryz.prog 32 = false := by kernel_rfl
@[go_sem] theorem pl32 : plT Tryz.prog 32 = some (Sum.inl [(0, 1), (1, 1), (2, 1)]) := by kernel_rfl
@[go_sem] theorem eq32 : eqL Tryz.prog 32 = some [(0, 1), (1, 1), (2, 1)] := by kernel_rfl
@[go_sem] theorem fd32_0 : fldT Tryz.prog 32 0 = some (0, 3) := by kernel_rfl
@[go_sem] theorem fd32_1 : fldT Tryz.prog 32 1 = some (1, 3) := by kernel_rfl
@[go_sem] theorem fd32_2 : fldT Tryz.prog 32 2 = some (2, 3) := by kernel_rfl
@[go_sem] theorem sf33 : selfT Tryz.prog 33 = false := by kernel_rfl
@[go_sem] theorem sz33 : szT Tryz.prog 33 = some 3 := by kernel_rfl
@[go_sem] theorem ag33 : aggT Tryz.prog 33 = some true := by kernel_rfl
@[go_sem] theorem zr33 : zeroT Tryz.prog 33 = some [AV.i IntKind.i64 0, AV.i IntKind.i64 0, AV.i IntKind.i64 0] := by kernel_rfl
@[go_sem] theorem u833 : u8T Tryz.prog 33 = false := by kernel_rfl
@[go_sem] theorem if33 : ifcT Tryz.prog 33 = false := by kernel_rfl
@[go_sem] theorem pl33 : plT Tryz.prog 33 = some (Sum.inl [(0, 1), (1, 1), (2, 1)]) := by kernel_rfl
@[go_sem] theorem eq33 : eqL Tryz.prog 33 = some [(0, 1), (1, 1), (2, 1)] := by kernel_rfl
@[go_sem] theorem fd33_0 : fldT Tryz.prog 33 0 = some (0, 3) := by kernel_rfl
@[go_sem] theorem fd33_1 : fldT Tryz.prog 33 1 = some (1, 3) := by kernel_rfl
@[go_sem] theorem fd33_2 : fldT Tryz.prog 33 2 = some (2, 3) := by kernel_rfl
@[go_sem] theorem sf34 : selfT Tryz.prog 34 = false := by kernel_rfl
@[go_sem] theorem sz34 : szT Tryz.prog 34 = some 1 := by kernel_rfl
@[go_sem] theorem ag34 : aggT Tryz.prog 34 = some false := by kernel_rfl
@[go_sem] theorem u834 : u8T Tryz.prog 34 = false := by kernel_rfl
@[go_sem] theorem sf35 : selfT Tryz.prog 35 = false := by kernel_rfl
@[go_sem] theorem sz35 : szT Tryz.prog 35 = some 1 := by kernel_rfl
@[go_sem] theorem ag35 : aggT Tryz.prog 35 = some false := by kernel_rfl
@[go_sem] theorem zr35 : zeroT Tryz.prog 35 = some [AV.nf] := by kernel_rfl
@[go_sem] theorem u835 : u8T Tryz.prog 35 = false := by kernel_rfl
@[go_sem] theorem sf36 : selfT Tryz.prog 36 = false := by kernel_rfl
@[go_sem] theorem sz36 : szT Tryz.prog 36 = some 1 := by kernel_rfl
@[go_sem] theorem ag36 : aggT Tryz.prog 36 = some false := by kernel_rfl
@[go_sem] theorem u836 : u8T Tryz.prog 36 = false := by kernel_rfl
@[go_sem] theorem sf37 : selfT Tryz.prog 37 = false := by kernel_rfl
@[go_sem] theorem sz37 : szT Tryz.prog 37 = some 1 := by kernel_rfl
@[go_sem] theorem ag37 : aggT Tryz.prog 37 = some false := by kernel_rfl
@[go_sem] theorem zr37 : zeroT Tryz.prog 37 = some [AV.nf] := by kernel_rfl
@[go_sem] theorem u837 : u8T Tryz.prog 37 = false := by kernel_rfl
@[go_sem] theorem sf38 : selfT Tryz.prog 38 = false := by kernel_rfl
@[go_sem] theorem sz38 : szT Tryz.prog 38 = some 1 := by kernel_rfl
@[go_sem] theorem ag38 : aggT Tryz.prog 38 = some false := by kernel_rfl
@[go_sem] theorem zr38 : zeroT Tryz.prog 38 = some [AV.nf] := by kernel_rfl
@[go_sem] theorem u838 : u8T Tryz.prog 38 = false := by kernel_rfl
@[go_sem] theorem sf39 : selfT Tryz.prog 39 = false := by kernel_rfl
@[go_sem] theorem sz39 : szT Tryz.prog 39 = some 1 := by kernel_rfl
@[go_sem] theorem ag39 : aggT Tryz.prog 39 = some false := by kernel_rfl
@[go_sem] theorem zr39 : zeroT Tryz.prog 39 = some [AV.nf] := by kernel_rfl
@[go_sem] theorem u839 : u8T Tryz.prog 39 = false := by kernel_rfl
@[go_sem] theorem sf40 : selfT Tryz.prog 40 = false := by kernel_rfl
@[go_sem] theorem sz40 : szT Tryz.prog 40 = some 1 := by kernel_rfl
@[go_sem] theorem ag40 : aggT Tryz.prog 40 = some false := by kernel_rfl
@[go_sem] theorem zr40 : zeroT Tryz.prog 40 = some [AV.nf] := by kernel_rfl
@[go_sem] theorem u840 : u8T Tryz.prog 40 = false := by kernel_rfl
@[go_sem] theorem sf41 : selfT Tryz.prog 41 = false := by kernel_rfl
@[go_sem] theorem sz41 : szT Tryz.prog 41 = some 1 := by kernel_rfl
@[go_sem] theorem ag41 : aggT Tryz.prog 41 = some false := by kernel_rfl
@[go_sem] theorem zr41 : zeroT Tryz.prog 41 = some [AV.nf] := by kernel_rfl
@[go_sem] theorem u841 : u8T Tryz.prog 41 = false := by kernel_rfl
@[go_sem] theorem sf42 : selfT Tryz.prog 42 = false := by kernel_rfl
@[go_sem] theorem sz42 : szT Tryz.prog 42 = some 1 := by kernel_rfl
@[go_sem] theorem ag42 : aggT Tryz.prog 42 = some false := by kernel_rfl
@[go_sem] theorem zr42 : zeroT Tryz.prog 42 = some [AV.nf] := by kernel_rfl
@[go_sem] theorem u842 : u8T Tryz.prog 42 = false := by kernel_rfl
@[go_sem] theorem sf43 : selfT Tryz.prog 43 = false := by kernel_rfl
@[go_sem] theorem sz43 : szT Tryz.prog 43 = some 1 := by kernel_rfl
@[go_sem] theorem ag43 : aggT Tryz.prog 43 = some false := by kernel_rfl
@[go_sem] theorem zr43 : zeroT Tryz.prog 43 = some [AV.nf] := by kernel_rfl
@[go_sem] theorem u843 : u8T Tryz.prog 43 = false := by kernel_rfl
@[go_sem] theorem sf44 : selfT Tryz.prog 44 = false := by kernel_rfl
@[go_sem] theorem sz44 : szT Tryz.prog 44 = some 1 := by kernel_rfl
@[go_sem] theorem ag44 : aggT Tryz.prog 44 = some false := by kernel_rfl
@[go_sem] theorem zr44 : zeroT Tryz.prog 44 = some [AV.nf] := by kernel_rfl
@[go_sem] theorem u844 : u8T Tryz.prog 44 = false := by kernel_rfl
@[go_sem] theorem sf45 : selfT Tryz.prog 45 = false := by kernel_rfl
@[go_sem] theorem sz45 : szT Tryz.prog 45 = some 3 := by kernel_rfl
@[go_sem] theorem ag45 : aggT Tryz.prog 45 = some true := by kernel_rfl
@[go_sem] theorem zr45 : zeroT Tryz.prog 45 = some [AV.s [], AV.i IntKind.i64 0, AV.i IntKind.i64 0] := by kernel_rfl
@[go_sem] theorem u845 : u8T Tryz.prog 45 = false := by kernel_rfl
@[go_sem] theorem if45 : ifcT Tryz.prog 45 = false := by kernel_rfl
@[go_sem] theorem pl45 : plT Tryz.prog 45 = some (Sum.inl [(0, 1), (1, 1), (2, 1)]) := by kernel_rfl
@[go_sem] theorem eq45 : eqL Tryz.prog 45 = some [(0, 2), (1, 1), (2, 1)] := by kernel_rfl
@[go_sem] theorem fd45_0 : fldT Tryz.prog 45 0 = some (0, 9) := by kernel_rfl
@[go_sem] theorem fd45_1 : fldT Tryz.prog 45 1 = some (1, 3) := by kernel_rfl
@[go_sem] theorem fd45_2 : fldT Tryz.prog 45 2 = some (2, 3) := by kernel_rfl
@[go_sem] theorem sf46 : selfT Tryz.prog 46 = false := by kernel_rfl
@[go_sem] theorem sz46 : szT Tryz.prog 46 = some 3 := by kernel_rfl
@[go_sem] theorem ag46 : aggT Tryz.prog 46 = some true := by kernel_rfl
@[go_sem] theorem zr46 : zeroT Tryz.prog 46 = some [AV.s [], AV.i IntKind.i64 0, AV.i IntKind.i64 0] := by kernel_rfl
@[go_sem] theorem u846 : u8T Tryz.prog 46 = false := by kernel_rfl
@[go_sem] theorem if46 : ifcT Tryz.prog 46 = false := by kernel_rfl
@[go_sem] theorem pl46 : plT Tryz.prog 46 = some (Sum.inl [(0, 1), (1, 1), (2, 1)]) := by kernel_rfl
@[go_sem] theorem eq46 : eqL Tryz.prog 46 = some [(0, 2), (1, 1), (2, 1)] := by kernel_rfl
@[go_sem] theorem fd46_0 : fldT Tryz.prog 46 0 = some (0, 9) := by kernel_rfl
@[go_sem] theorem fd46_1 : fldT Tryz.prog 46 1 = some (1, 3) := by kernel_rfl
@[go_sem] theorem fd46_2 : fldT Tryz.prog 46 2 = some (2, 3) := by kernel_rfl
@[go_sem] theorem sf47 : selfT Tryz.prog 47 = false := by kernel_rfl
@[go_sem] theorem sz47 : szT Tryz.prog 47 = some 1 := by kernel_rfl
@[go_sem] theorem ag47 : aggT Tryz.prog 47 = some false := by kernel_rfl
@[go_sem] theorem zr47 : zeroT Tryz.prog 47 = some [AV.nf] := by kernel_rfl
@[go_sem] theorem u847 : u8T Tryz.prog 47 = false := by kernel_rfl
@[go_sem] theorem sf48 : selfT Tryz.prog 48 = false := by kernel_rfl
@[go_sem] theorem sz48 : szT Tryz.prog 48 = some 1 := by kernel_rfl
@[go_sem] theorem ag48 : aggT Tryz.prog 48 = some false := by kernel_rfl
@[go_sem] theorem u848 : u8T Tryz.prog 48 = false := by kernel_rfl
@[go_sem] theorem sf49 : selfT Tryz.prog 49 = false := by kernel_rfl
@[go_sem] theorem sz49 : szT Tryz.prog 49 = some 1 := by kernel_rfl
@[go_sem] theorem ag49 : aggT Tryz.prog 49 = some false := by kernel_rfl
@[go_sem] theorem zr49 : zeroT Tryz.prog 49 = some [AV.nf] := by kernel_rfl
@[go_sem] theorem u849 : u8T Tryz.prog 49 = false := by kernel_rfl
@[go_sem] theorem un50 : Program.underlying Tryz.prog 50 = some (TypeDesc.slice 52) := by kernel_rfl
@[go_sem] theorem sf50 : selfT Tryz.prog 50 = false := by kernel_rfl
@[go_sem] theorem sz50 : szT Tryz.prog 50 = some 1 := by kernel_rfl
@[go_sem] theorem ag50 : aggT Tryz.prog 50 = some false := by kernel_rfl
@[go_sem] theorem zr50 : zeroT Tryz.prog 50 = some [AV.nils] := by kernel_rfl
@[go_sem] theorem u850 : u8T Tryz.prog 50 = false := by kernel_rfl
@[go_sem] theorem el50 : elT Tryz.prog 50 = some (3, 52) := by kernel_rfl
@[go_sem] theorem sf51 : selfT Tryz.prog 51 = false := by kernel_rfl
@[go_sem] theorem sz51 : szT Tryz.prog 51 = some 3 := by kernel_rfl
@[go_sem] theorem ag51 : aggT Tryz.prog 51 = some true := by kernel_rfl
@[go_sem] theorem zr51 : zeroT Tryz.prog 51 = some [AV.i IntKind.i64 0, AV.i IntKind.i64 0, AV.nils] := by kernel_rfl
@[go_sem] theorem u851 : u8T Tryz.prog 51 = false := by kernel_rfl
@[go_sem] theorem if51 : ifcT Tryz.prog 51 = false := by kernel_rfl
@[go_sem] theorem pl51 : plT Tryz.prog 51 = some (Sum.inl [(0, 1), (1, 1), (2, 1)]) := by kernel_rfl
@[go_sem] theorem fd51_0 : fldT Tryz.prog 51 0 = some (0, 3) := by kernel_rfl
@[go_sem] theorem fd51_1 : fldT Tryz.prog 51 1 = some (1, 3) := by kernel_rfl
@[go_sem] theorem fd51_2 : fldT Tryz.prog 51 2 = some (2, 50) := by kernel_rfl
@[go_sem] theorem sf52 : selfT Tryz.prog 52 = false := by kernel_rfl
@[go_sem] theorem sz52 : szT Tryz.prog 52 = some 3 := by kernel_rfl
@[go_sem] theorem ag52 : aggT Tryz.prog 52 = some true := by kernel_rfl
@[go_sem] theorem zr52 : zeroT Tryz.prog 52 = some [AV.i IntKind.i64 0, AV.i IntKind.i64 0, AV.nils] := by kernel_rfl
@[go_sem] theorem u852 : u8T Tryz.prog 52 = false := by kernel_rfl
@[go_sem] theorem if52 : ifcT Tryz.prog 52 = false := by kernel_rfl
@[go_sem] theorem pl52 : plT Tryz.prog 52 = some (Sum.inl [(0, 1), (1, 1), (2, 1)]) := by kernel_rfl
@[go_sem] theorem fd52_0 : fldT Tryz.prog 52 0 = some (0, 3) := by kernel_rfl
@[go_sem] theorem fd52_1 : fldT Tryz.prog 52 1 = some (1, 3) := by kernel_rfl
@[go_sem] theorem fd52_2 : fldT Tryz.prog 52 2 = some (2, 50) := by kernel_rfl
@[go_sem] theorem sf53 : selfT Tryz.prog 53 = false := by kernel_rfl
@[go_sem] theorem sz53 : szT Tryz.prog 53 = some 7 := by kernel_rfl
@[go_sem] theorem ag53 : aggT Tryz.prog 53 = some true := by kernel_rfl
@[go_sem] theorem zr53 : zeroT Tryz.prog 53 = some [AV.s [], AV.i IntKind.i64 0, AV.i IntKind.i64 0, AV.i IntKind.i64 0, AV.i IntKind.i64 0, AV.nils, AV.nils] := by kernel_rfl
@[go_sem] theorem u853 : u8T Tryz.prog 53 = false := by kernel_rfl
@[go_sem] theorem if53 : ifcT Tryz.prog 53 = false := by kernel_rfl
@[go_sem] theorem pl53 : plT Tryz.prog 53 = some (Sum.inl [(0, 1), (1, 1), (2, 1), (3, 3), (6, 1)]) := by kernel_rfl
@[go_sem] theorem fd53_0 : fldT Tryz.prog 53 0 = some (0, 9) := by kernel_rfl
@[go_sem] theorem fd53_1 : fldT Tryz.prog 53 1 = some (1, 3) := by kernel_rfl
@[go_sem] theorem fd53_2 : fldT Tryz.prog 53 2 = some (2, 3) := by kernel_rfl
@[go_sem] theorem fd53_3 : fldT Tryz.prog 53 3 = some (3, 52) := by kernel_rfl
@[go_sem] theorem fd53_4 : fldT Tryz.prog 53 4 = some (6, 23) := by kernel_rfl
@[go_sem] theorem sf54 : selfT Tryz.prog 54 = false := by kernel_rfl
@[go_sem] theorem sz54 : szT Tryz.prog 54 = some 7 := by kernel_rfl
@[go_sem] theorem ag54 : aggT Tryz.prog 54 = some true := by kernel_rfl
@[go_sem] theorem zr54 : zeroT Tryz.prog 54 = some [AV.s [], AV.i IntKind.i64 0, AV.i IntKind.i64 0, AV.i IntKind.i64 0, AV.i IntKind.i64 0, AV.nils, AV.nils] := by kernel_rfl
@[go_sem] theorem u854 : u8T Tryz.prog 54 = false := by kernel_rfl
@[go_sem] theorem if54 : ifcT Tryz.prog 54 = false := by kernel_rfl
@[go_sem] theorem pl54 : plT Tryz.prog 54 = some (Sum.inl [(0, 1), (1, 1), (2, 1), (3, 3), (6, 1)]) := by kernel_rfl
@[go_sem] theorem fd54_0 : fldT Tryz.prog 54 0 = some (0, 9) := by kernel_rfl
@[go_sem] theorem fd54_1 : fldT Tryz.prog 54 1 = some (1, 3) := by kernel_rfl
@[go_sem] theorem fd54_2 : fldT Tryz.prog 54 2 = some (2, 3) := by kernel_rfl
@[go_sem] theorem fd54_3 : fldT Tryz.prog 54 3 = some (3, 52) := by kernel_rfl
@[go_sem] theorem fd54_4 : fldT Tryz.prog 54 4 = some (6, 23) := by kernel_rfl
@[go_sem] theorem sf55 : selfT Tryz.prog 55 = false := by kernel_rfl
@[go_sem] theorem sz55 : szT Tryz.prog 55 = some 1 := by kernel_rfl
@[go_sem] theorem ag55 : aggT Tryz.prog 55 = some false := by kernel_rfl
@[go_sem] theorem u855 : u8T Tryz.prog 55 = false := by kernel_rfl
@[go_sem] theorem sf56 : selfT Tryz.prog 56 = false := by kernel_rfl
@[go_sem] theorem sz56 : szT Tryz.prog 56 = some 1 := by kernel_rfl
@[go_sem] theorem ag56 : aggT Tryz.prog 56 = some false := by kernel_rfl
@[go_sem] theorem zr56 : zeroT Tryz.prog 56 = some [AV.nf] := by kernel_rfl
@[go_sem] theorem u856 : u8T Tryz.prog 56 = false := by kernel_rfl
@[go_sem] theorem sf57 : selfT Tryz.prog 57 = false := by kernel_rfl
@[go_sem] theorem sz57 : szT Tryz.prog 57 = some 1 := by kernel_rfl
@[go_sem] theorem ag57 : aggT Tryz.prog 57 = some false := by kernel_rfl
@[go_sem] theorem zr57 : zeroT Tryz.prog 57 = some [AV.nf] := by kernel_rfl
@[go_sem] theorem u857 : u8T Tryz.prog 57 = false := by kernel_rfl
@[go_sem] theorem sf58 : selfT Tryz.prog 58 = false := by kernel_rfl
@[go_sem] theorem sz58 : szT Tryz.prog 58 = some 1 := by kernel_rfl
@[go_sem] theorem ag58 : aggT Tryz.prog 58 = some false := by kernel_rfl
@[go_sem] theorem zr58 : zeroT Tryz.prog 58 = some [AV.nf] := by kernel_rfl
@[go_sem] theorem u858 : u8T Tryz.prog 58 = false := by kernel_rfl
@[go_sem] theorem sf59 : selfT Tryz.prog 59 = false := by kernel_rfl
@[go_sem] theorem sz59 : szT Tryz.prog 59 = some 1 := by kernel_rfl
@[go_sem] theorem ag59 : aggT Tryz.prog 59 = some false := by kernel_rfl
@[go_sem] theorem zr59 : zeroT Tryz.prog 59 = some [AV.nf] := by kernel_rfl
@[go_sem] theorem u859 : u8T Tryz.prog 59 = false := by kernel_rfl
@[go_sem] theorem un60 : Program.underlying Tryz.prog 60 = some (TypeDesc.slice 9) := by kernel_rfl
@[go_sem] theorem sf60 : selfT Tryz.prog 60 = false := by kernel_rfl
@[go_sem] theorem sz60 : szT Tryz.prog 60 = some 1 := by kernel_rfl
@[go_sem] theorem ag60 : aggT Tryz.prog 60 = some false := by kernel_rfl
@[go_sem] theorem zr60 : zeroT Tryz.prog 60 = some [AV.nils] := by kernel_rfl
@[go_sem] theorem u860 : u8T Tryz.prog 60 = false := by kernel_rfl
@[go_sem] theorem el60 : elT Tryz.prog 60 = some (1, 9) := by kernel_rfl
@[go_sem] theorem sf61 : selfT Tryz.prog 61 = false := by kernel_rfl
@[go_sem] theorem sz61 : szT Tryz.prog 61 = some 1 := by kernel_rfl
@[go_sem] theorem ag61 : aggT Tryz.prog 61 = some false := by kernel_rfl
@[go_sem] theorem zr61 : zeroT Tryz.prog 61 = some [AV.nf] := by kernel_rfl
@[go_sem] theorem u861 : u8T Tryz.prog 61 = false := by kernel_rfl
@[go_sem] theorem sf62 : selfT Tryz.prog 62 = false := by kernel_rfl
@[go_sem] theorem sz62 : szT Tryz.prog 62 = some 1 := by kernel_rfl
@[go_sem] theorem ag62 : aggT Tryz.prog 62 = some false := by kernel_rfl
@[go_sem] theorem zr62 : zeroT Tryz.prog 62 = some [AV.nf] := by kernel_rfl
@[go_sem] theorem u862 : u8T Tryz.prog 62 = false := by kernel_rfl
@[go_sem] theorem sf63 : selfT Tryz.prog 63 = false := by kernel_rfl
@[go_sem] theorem sz63 : szT Tryz.prog 63 = some 1 := by kernel_rfl
@[go_sem] theorem ag63 : aggT Tryz.prog 63 = some false := by kernel_rfl
@[go_sem] theorem zr63 : zeroT Tryz.prog 63 = some [AV.nf] := by kernel_rfl
@[go_sem] theorem u863 : u8T Tryz.prog 63 = false := by kernel_rfl
@[go_sem] theorem sf64 : selfT Tryz.prog 64 = false := by kernel_rfl
@[go_sem] theorem sz64 : szT Tryz.prog 64 = some 1 := by kernel_rfl
@[go_sem] theorem ag64 : aggT Tryz.prog 64 = some false := by kernel_rfl
@[go_sem] theorem zr64 : zeroT Tryz.prog 64 = some [AV.nf] := by kernel_rfl
@[go_sem] theorem u864 : u8T Tryz.prog 64 = false := by kernel_rfl
@[go_sem] theorem sf65 : selfT Tryz.prog 65 = false := by kernel_rfl
@[go_sem] theorem sz65 : szT Tryz.prog 65 = some 1 := by kernel_rfl
@[go_sem] theorem ag65 : aggT Tryz.prog 65 = some false := by kernel_rfl
@[go_sem] theorem zr65 : zeroT Tryz.prog 65 = some [AV.nf] := by kernel_rfl
@[go_sem] theorem u865 : u8T Tryz.prog 65 = false := by kernel_rfl
@[go_sem] theorem sf66 : selfT Tryz.prog 66 = false := by kernel_rfl
@[go_sem] theorem sz66 : szT Tryz.prog 66 = some 1 := by kernel_rfl
@[go_sem] theorem ag66 : aggT Tryz.prog 66 = some false := by kernel_rfl
@[go_sem] theorem zr66 : zeroT Tryz.prog 66 = some [AV.nf] := by kernel_rfl
@[go_sem] theorem u866 : u8T Tryz.prog 66 = false := by kernel_rfl
@[go_sem] theorem sf67 : selfT Tryz.prog 67 = false := by kernel_rfl
@[go_sem] theorem sz67 : szT Tryz.prog 67 = some 1 := by kernel_rfl
@[go_sem] theorem ag67 : aggT Tryz.prog 67 = some false := by kernel_rfl
@[go_sem] theorem zr67 : zeroT Tryz.prog 67 = some [AV.nf] := by kernel_rfl
@[go_sem] theorem u867 : u8T Tryz.prog 67 = false := by kernel_rfl
@[go_sem] theorem sf68 : selfT Tryz.prog 68 = false := by kernel_rfl
@[go_sem] theorem sz68 : szT Tryz.prog 68 = some 1 := by kernel_rfl
@[go_sem] theorem ag68 : aggT Tryz.prog 68 = some false := by kernel_rfl
@[go_sem] theorem u868 : u8T Tryz.prog 68 = false := by kernel_rfl
@[go_sem] theorem sf69 : selfT Tryz.prog 69 = false := by kernel_rfl
@[go_sem] theorem sz69 : szT Tryz.prog 69 = some 1 := by kernel_rfl
@[go_sem] theorem ag69 : aggT Tryz.prog 69 = some false := by kernel_rfl
@[go_sem] theorem zr69 : zeroT Tryz.prog 69 = some [AV.nf] := by kernel_rfl
@[go_sem] theorem u869 : u8T Tryz.prog 69 = false := by kernel_rfl
@[go_sem] theorem sf70 : selfT Tryz.prog 70 = false := by kernel_rfl
@[go_sem] theorem sz70 : szT Tryz.prog 70 = some 1 := by kernel_rfl
@[go_sem] theorem ag70 : aggT Tryz.prog 70 = some false := by kernel_rfl
@[go_sem] theorem zr70 : zeroT Tryz.prog 70 = some [AV.nf] := by kernel_rfl
@[go_sem] theorem u870 : u8T Tryz.prog 70 = false := by kernel_rfl
@[go_sem] theorem sf71 : selfT Tryz.prog 71 = false := by kernel_rfl
@[go_sem] theorem sz71 : szT Tryz.prog 71 = some 1 := by kernel_rfl
@[go_sem] theorem ag71 : aggT Tryz.prog 71 = some false := by kernel_rfl
@[go_sem] theorem zr71 : zeroT Tryz.prog 71 = some [AV.nf] := by kernel_rfl
@[go_sem] theorem u871 : u8T Tryz.prog 71 = false := by kernel_rfl
@[go_sem] theorem un72 : Program.underlying Tryz.prog 72 = some (TypeDesc.slice 75) := by kernel_rfl
@[go_sem] theorem sf72 : selfT Tryz.prog 72 = false := by kernel_rfl
@[go_sem] theorem sz72 : szT Tryz.prog 72 = some 1 := by kernel_rfl
@[go_sem] theorem ag72 : aggT Tryz.prog 72 = some false := by kernel_rfl
@[go_sem] theorem zr72 : zeroT Tryz.prog 72 = some [AV.nils] := by kernel_rfl
@[go_sem] theorem u872 : u8T Tryz.prog 72 = false := by kernel_rfl
@[go_sem] theorem el72 : elT Tryz.prog 72 = some (5, 75) := by kernel_rfl
@[go_sem] theorem sf73 : selfT Tryz.prog 73 = false := by kernel_rfl
@[go_sem] theorem sz73 : szT Tryz.prog 73 = some 1 := by kernel_rfl
@[go_sem] theorem ag73 : aggT Tryz.prog 73 = some false := by kernel_rfl
@[go_sem] theorem zr73 : zeroT Tryz.prog 73 = some [AV.nf] := by kernel_rfl
@[go_sem] theorem u873 : u8T Tryz.prog 73 = false := by kernel_rfl
@[go_sem] theorem sf74 : selfT Tryz.prog 74 = false := by kernel_rfl
@[go_sem] theorem sz74 : szT Tryz.prog 74 = some 5 := by kernel_rfl
@[go_sem] theorem ag74 : aggT Tryz.prog 74 = some true := by kernel_rfl
@[go_sem] theorem zr74 : zeroT Tryz.prog 74 = some [AV.s [], AV.i IntKind.i64 0, AV.i IntKind.i64 0, AV.s [], AV.i IntKind.u8 0] := by kernel_rfl
@[go_sem] theorem u874 : u8T Tryz.prog 74 = false := by kernel_rfl
@[go_sem] theorem if74 : ifcT Tryz.prog 74 = false := by kernel_rfl
@[go_sem] theorem pl74 : plT Tryz.prog 74 = some (Sum.inl [(0, 1), (1, 1), (2, 1), (3, 1), (4, 1)]) := by kernel_rfl
@[go_sem] theorem eq74 : eqL Tryz.prog 74 = some [(0, 2), (1, 1), (2, 1), (3, 2), (4, 1)] := by kernel_rfl
@[go_sem] theorem fd74_0 : fldT Tryz.prog 74 0 = some (0, 9) := by kernel_rfl
@[go_sem] theorem fd74_1 : fldT Tryz.prog 74 1 = some (1, 3) := by kernel_rfl
@[go_sem] theorem fd74_2 : fldT Tryz.prog 74 2 = some (2, 3) := by kernel_rfl
@[go_sem] theorem fd74_3 : fldT Tryz.prog 74 3 = some (3, 9) := by kernel_rfl
@[go_sem] theorem fd74_4 : fldT Tryz.prog 74 4 = some (4, 5) := by kernel_rfl
@[go_sem] theorem sf75 : selfT Tryz.prog 75 = false := by kernel_rfl
@[go_sem] theorem sz75 : szT Tryz.prog 75 = some 5 := by kernel_rfl
@[go_sem] theorem ag75 : aggT Tryz.prog 75 = some true := by kernel_rfl
@[go_sem] theorem zr75 : zeroT Tryz.prog 75 = some [AV.s [], AV.i IntKind.i64 0, AV.i IntKind.i64 0, AV.s [], AV.i IntKind.u8 0] := by kernel_rfl
@[go_sem] theorem u875 : u8T Tryz.prog 75 = false := by kernel_rfl
@[go_sem] theorem if75 : ifcT Tryz.prog 75 = false := by kernel_rfl
@[go_sem] theorem pl75 : plT Tryz.prog 75 = some (Sum.inl [(0, 1), (1, 1), (2, 1), (3, 1), (4, 1)]) := by kernel_rfl
@[go_sem] theorem eq75 : eqL Tryz.prog 75 = some [(0, 2), (1, 1), (2, 1), (3, 2), (4, 1)] := by kernel_rfl
@[go_sem] theorem fd75_0 : fldT Tryz.prog 75 0 = some (0, 9) := by kernel_rfl
@[go_sem] theorem fd75_1 : fldT Tryz.prog 75 1 = some (1, 3) := by kernel_rfl
@[go_sem] theorem fd75_2 : fldT Tryz.prog 75 2 = some (2, 3) := by kernel_rfl
@[go_sem] theorem fd75_3 : fldT Tryz.prog 75 3 = some (3, 9) := by kernel_rfl
@[go_sem] theorem fd75_4 : fldT Tryz.prog 75 4 = some (4, 5) := by kernel_rfl
@[go_sem] theorem un76 : Program.underlying Tryz.prog 76 = some (TypeDesc.pointer 79) := by kernel_rfl
@[go_sem] theorem sf76 : selfT Tryz.prog 76 = false := by kernel_rfl
@[go_sem] theorem sz76 : szT Tryz.prog 76 = some 1 := by kernel_rfl
@[go_sem] theorem ag76 : aggT Tryz.prog 76 = some false := by kernel_rfl
@[go_sem] theorem zr76 : zeroT Tryz.prog 76 = some [AV.np] := by kernel_rfl
@[go_sem] theorem u876 : u8T Tryz.prog 76 = false := by kernel_rfl
@[go_sem] theorem pt76 : ptrT Tryz.prog 76 = true := by kernel_rfl
@[go_sem] theorem un77 : Program.underlying Tryz.prog 77 = some (TypeDesc.slice 5) := by kernel_rfl
@[go_sem] theorem sf77 : selfT Tryz.prog 77 = false := by kernel_rfl
@[go_sem] theorem sz77 : szT Tryz.prog 77 = some 1 := by kernel_rfl
@[go_sem] theorem ag77 : aggT Tryz.prog 77 = some false := by kernel_rfl
@[go_sem] theorem zr77 : zeroT Tryz.prog 77 = some [AV.nils] := by kernel_rfl
@[go_sem] theorem u877 : u8T Tryz.prog 77 = false := by kernel_rfl
@[go_sem] theorem el77 : elT Tryz.prog 77 = some (1, 5) := by kernel_rfl
@[go_sem] theorem sf78 : selfT Tryz.prog 78 = false := by kernel_rfl
@[go_sem] theorem sz78 : szT Tryz.prog 78 = some 2 := by kernel_rfl
@[go_sem] theorem ag78 : aggT Tryz.prog 78 = some true := by kernel_rfl
@[go_sem] theorem zr78 : zeroT Tryz.prog 78 = some [AV.np, AV.nils] := by kernel_rfl
@[go_sem] theorem u878 : u8T Tryz.prog 78 = false := by kernel_rfl
@[go_sem] theorem if78 : ifcT Tryz.prog 78 = false := by kernel_rfl
@[go_sem] theorem pl78 : plT Tryz.prog 78 = some (Sum.inl [(0, 1), (1, 1)]) := by kernel_rfl
@[go_sem] theorem fd78_0 : fldT Tryz.prog 78 0 = some (0, 76) := by kernel_rfl
@[go_sem] theorem fd78_1 : fldT Tryz.prog 78 1 = some (1, 77) := by kernel_rfl
@[go_sem] theorem sf79 : selfT Tryz.prog 79 = true := by kernel_rfl
@[go_sem] theorem sz79 : szT Tryz.prog 79 = some 2 := by kernel_rfl
@[go_sem] theorem ag79 : aggT Tryz.prog 79 = some true := by kernel_rfl
@[go_sem] theorem zr79 : zeroT Tryz.prog 79 = some [AV.np, AV.nils] := by kernel_rfl
@[go_sem] theorem u879 : u8T Tryz.prog 79 = false := by kernel_rfl
@[go_sem] theorem if79 : ifcT Tryz.prog 79 = false := by kernel_rfl
@[go_sem] theorem pl79 : plT Tryz.prog 79 = some (Sum.inl [(0, 1), (1, 1)]) := by kernel_rfl
@[go_sem] theorem fd79_0 : fldT Tryz.prog 79 0 = some (0, 76) := by kernel_rfl
@[go_sem] theorem fd79_1 : fldT Tryz.prog 79 1 = some (1, 77) := by kernel_rfl
@[go_sem] theorem un80 : Program.underlying Tryz.prog 80 = some (TypeDesc.interface #[("Error", 86)]) := by kernel_rfl
@[go_sem] theorem sf80 : selfT Tryz.prog 80 = false := by kernel_rfl
@[go_sem] theorem sz80 : szT Tryz.prog 80 = some 1 := by kernel_rfl
@[go_sem] theorem ag80 : aggT Tryz.prog 80 = some false := by kernel_rfl
@[go_sem] theorem zr80 : zeroT Tryz.prog 80 = some [AV.ni] := by kernel_rfl
@[go_sem] theorem u880 : u8T Tryz.prog 80 = false := by kernel_rfl
@[go_sem] theorem if80 : ifcT Tryz.prog 80 = true := by kernel_rfl
@[go_sem] theorem un81 : Program.underlying Tryz.prog 81 = some (TypeDesc.interface #[("Error", 86)]) := by kernel_rfl
@[go_sem] theorem sf81 : selfT Tryz.prog 81 = false := by kernel_rfl
@[go_sem] theorem sz81 : szT Tryz.prog 81 = some 1 := by kernel_rfl
@[go_sem] theorem ag81 : aggT Tryz.prog 81 = some false := by kernel_rfl
@[go_sem] theorem zr81 : zeroT Tryz.prog 81 = some [AV.ni] := by kernel_rfl
@[go_sem] theorem u881 : u8T Tryz.prog 81 = false := by kernel_rfl
@[go_sem] theorem if81 : ifcT Tryz.prog 81 = true := by kernel_rfl
@[go_sem] theorem sf82 : selfT Tryz.prog 82 = false := by kernel_rfl
@[go_sem] theorem sz82 : szT Tryz.prog 82 = some 1 := by kernel_rfl
@[go_sem] theorem ag82 : aggT Tryz.prog 82 = some false := by kernel_rfl
@[go_sem] theorem u882 : u8T Tryz.prog 82 = false := by kernel_rfl
@[go_sem] theorem sf83 : selfT Tryz.prog 83 = false := by kernel_rfl
@[go_sem] theorem sz83 : szT Tryz.prog 83 = some 1 := by kernel_rfl
@[go_sem] theorem ag83 : aggT Tryz.prog 83 = some false := by kernel_rfl
@[go_sem] theorem zr83 : zeroT Tryz.prog 83 = some [AV.nf] := by kernel_rfl
@[go_sem] theorem u883 : u8T Tryz.prog 83 = false := by kernel_rfl
@[go_sem] theorem sf84 : selfT Tryz.prog 84 = false := by kernel_rfl
@[go_sem] theorem sz84 : szT Tryz.prog 84 = some 1 := by kernel_rfl
@[go_sem] theorem ag84 : aggT Tryz.prog 84 = some false := by kernel_rfl
@[go_sem] theorem zr84 : zeroT Tryz.prog 84 = some [AV.nf] := by kernel_rfl
@[go_sem] theorem u884 : u8T Tryz.prog 84 = false := by kernel_rfl
@[go_sem] theorem sf85 : selfT Tryz.prog 85 = false := by kernel_rfl
@[go_sem] theorem sz85 : szT Tryz.prog 85 = some 1 := by kernel_rfl
@[go_sem] theorem ag85 : aggT Tryz.prog 85 = some false := by kernel_rfl
@[go_sem] theorem zr85 : zeroT Tryz.prog 85 = some [AV.nf] := by kernel_rfl
@[go_sem] theorem u885 : u8T Tryz.prog 85 = false := by kernel_rfl
@[go_sem] theorem sf86 : selfT Tryz.prog 86 = false := by kernel_rfl
@[go_sem] theorem sz86 : szT Tryz.prog 86 = some 1 := by kernel_rfl
@[go_sem] theorem ag86 : aggT Tryz.prog 86 = some false := by kernel_rfl
@[go_sem] theorem zr86 : zeroT Tryz.prog 86 = some [AV.nf] := by kernel_rfl
@[go_sem] theorem u886 : u8T Tryz.prog 86 = false := by kernel_rfl
@[go_sem] theorem sf87 : selfT Tryz.prog 87 = false := by kernel_rfl
@[go_sem] theorem sz87 : szT Tryz.prog 87 = some 1 := by kernel_rfl
@[go_sem] theorem ag87 : aggT Tryz.prog 87 = some false := by kernel_rfl
@[go_sem] theorem u887 : u8T Tryz.prog 87 = false := by kernel_rfl
@[go_sem] theorem sf88 : selfT Tryz.prog 88 = false := by kernel_rfl
@[go_sem] theorem sz88 : szT Tryz.prog 88 = some 1 := by kernel_rfl
@[go_sem] theorem ag88 : aggT Tryz.prog 88 = some false := by kernel_rfl
@[go_sem] theorem zr88 : zeroT Tryz.prog 88 = some [AV.nf] := by kernel_rfl
@[go_sem] theorem u888 : u8T Tryz.prog 88 = false := by kernel_rfl
@[go_sem] theorem sf89 : selfT Tryz.prog 89 = false := by kernel_rfl
@[go_sem] theorem sz89 : szT Tryz.prog 89 = some 1 := by kernel_rfl
@[go_sem] theorem ag89 : aggT Tryz.prog 89 = some false := by kernel_rfl
@[go_sem] theorem zr89 : zeroT Tryz.prog 89 = some [AV.nf] := by kernel_rfl
@[go_sem] theorem u889 : u8T Tryz.prog 89 = false := by kernel_rfl
@[go_sem] theorem un90 : Program.underlying Tryz.prog 90 = some (TypeDesc.pointer 54) := by kernel_rfl
@[go_sem] theorem sf90 : selfT Tryz.prog 90 = false := by kernel_rfl
@[go_sem] theorem sz90 : szT Tryz.prog 90 = some 1 := by kernel_rfl
@[go_sem] theorem ag90 : aggT Tryz.prog 90 = some false := by kernel_rfl
@[go_sem] theorem zr90 : zeroT Tryz.prog 90 = some [AV.np] := by kernel_rfl
@[go_sem] theorem u890 : u8T Tryz.prog 90 = false := by kernel_rfl
@[go_sem] theorem pt90 : ptrT Tryz.prog 90 = true := by kernel_rfl
@[go_sem] theorem sf91 : selfT Tryz.prog 91 = false := by kernel_rfl
@[go_sem] theorem sz91 : szT Tryz.prog 91 = some 1 := by kernel_rfl
@[go_sem] theorem ag91 : aggT Tryz.prog 91 = some false := by kernel_rfl
@[go_sem] theorem zr91 : zeroT Tryz.prog 91 = some [AV.nf] := by kernel_rfl
@[go_sem] theorem u891 : u8T Tryz.prog 91 = false := by kernel_rfl
@[go_sem] theorem sf92 : selfT Tryz.prog 92 = false := by kernel_rfl
@[go_sem] theorem sz92 : szT Tryz.prog 92 = some 1 := by kernel_rfl
@[go_sem] theorem ag92 : aggT Tryz.prog 92 = some false := by kernel_rfl
@[go_sem] theorem zr92 : zeroT Tryz.prog 92 = some [AV.nf] := by kernel_rfl
@[go_sem] theorem u892 : u8T Tryz.prog 92 = false := by kernel_rfl
@[go_sem] theorem sf93 : selfT Tryz.prog 93 = false := by kernel_rfl
@[go_sem] theorem sz93 : szT Tryz.prog 93 = some 1 := by kernel_rfl
@[go_sem] theorem ag93 : aggT Tryz.prog 93 = some false := by kernel_rfl
@[go_sem] theorem zr93 : zeroT Tryz.prog 93 = some [AV.nf] := by kernel_rfl
@[go_sem] theorem u893 : u8T Tryz.prog 93 = false := by kernel_rfl
@[go_sem] theorem sf94 : selfT Tryz.prog 94 = false := by kernel_rfl
@[go_sem] theorem sz94 : szT Tryz.prog 94 = some 1 := by kernel_rfl
@[go_sem] theorem ag94 : aggT Tryz.prog 94 = some false := by kernel_rfl
@[go_sem] theorem zr94 : zeroT Tryz.prog 94 = some [AV.nf] := by kernel_rfl
@[go_sem] theorem u894 : u8T Tryz.prog 94 = false := by kernel_rfl
@[go_sem] theorem sf95 : selfT Tryz.prog 95 = false := by kernel_rfl
@[go_sem] theorem sz95 : szT Tryz.prog 95 = some 1 := by kernel_rfl
@[go_sem] theorem ag95 : aggT Tryz.prog 95 = some false := by kernel_rfl
@[go_sem] theorem zr95 : zeroT Tryz.prog 95 = some [AV.nf] := by kernel_rfl
@[go_sem] theorem u895 : u8T Tryz.prog 95 = false := by kernel_rfl
@[go_sem] theorem sf96 : selfT Tryz.prog 96 = false := by kernel_rfl
@[go_sem] theorem sz96 : szT Tryz.prog 96 = some 1 := by kernel_rfl
@[go_sem] theorem ag96 : aggT Tryz.prog 96 = some false := by kernel_rfl
@[go_sem] theorem zr96 : zeroT Tryz.prog 96 = some [AV.nf] := by kernel_rfl
@[go_sem] theorem u896 : u8T Tryz.prog 96 = false := by kernel_rfl
@[go_sem] theorem sf97 : selfT Tryz.prog 97 = false := by kernel_rfl
@[go_sem] theorem sz97 : szT Tryz.prog 97 = some 1 := by kernel_rfl
@[go_sem] theorem ag97 : aggT Tryz.prog 97 = some false := by kernel_rfl
@[go_sem] theorem u897 : u8T Tryz.prog 97 = false := by kernel_rfl
@[go_sem] theorem sf98 : selfT Tryz.prog 98 = false := by kernel_rfl
@[go_sem] theorem sz98 : szT Tryz.prog 98 = some 1 := by kernel_rfl
@[go_sem] theorem ag98 : aggT Tryz.prog 98 = some false := by kernel_rfl
@[go_sem] theorem zr98 : zeroT Tryz.prog 98 = some [AV.nf] := by kernel_rfl
@[go_sem] theorem u898 : u8T Tryz.prog 98 = false := by kernel_rfl
@[go_sem] theorem sf99 : selfT Tryz.prog 99 = false := by kernel_rfl
@[go_sem] theorem sz99 : szT Tryz.prog 99 = some 1 := by kernel_rfl
@[go_sem] theorem ag99 : aggT Tryz.prog 99 = some false := by kernel_rfl
@[go_sem] theorem zr99 : zeroT Tryz.prog 99 = some [AV.nf] := by kernel_rfl
@[go_sem] theorem u899 : u8T Tryz.prog 99 = false := by kernel_rfl
@[go_sem] theorem sf100 : selfT Tryz.prog 100 = false := by kernel_rfl
@[go_sem] theorem sz100 : szT Tryz.prog 100 = some 1 := by kernel_rfl
@[go_sem] theorem ag100 : aggT Tryz.prog 100 = some false := by kernel_rfl
@[go_sem] theorem zr100 : zeroT Tryz.prog 100 = some [AV.nf] := by kernel_rfl
@[go_sem] theorem u8100 : u8T Tryz.prog 100 = false := by kernel_rfl
@[go_sem] theorem un101 : Program.underlying Tryz.prog 101 = some (TypeDesc.array 256 5) := by kernel_rfl
@[go_sem] theorem sf101 : selfT Tryz.prog 101 = false := by kernel_rfl
@[go_sem] theorem sz101 : szT Tryz.prog 101 = some 256 := by kernel_rfl
@[go_sem] theorem ag101 : aggT Tryz.prog 101 = some true := by kernel_rfl
@[go_sem] theorem zr101 : zeroT Tryz.prog 101 = some [AV.i IntKind.u8 0, AV.i IntKind.u8 0, AV.i IntKind.u8 0, AV.i IntKind.u8 0, AV.i IntKind.u8 0, AV.i IntKind.u8 0, AV.i IntKind.u8 0, AV.i IntKind.u8 0, AV.i IntKind.u8 0, AV.i IntKind.u8 0, AV.i IntKind.u8 0, AV.i IntKind.u8 0, AV.i IntKind.u8 0, AV.i IntKind.u8 0, AV.i IntKind.u8 0, AV.i IntKind.u8 0, AV.i IntKind.u8 0, AV.i IntKind.u8 0, AV.i IntKind.u8 0, AV.i IntKind.u8 0, AV.i IntKind.u8 0, AV.i IntKind.u8 0, AV.i IntKind.u8 0, AV.i IntKind.u8 0, AV.i IntKind.u8 0, AV.i IntKind.u8 0, AV.i IntKind.u8 0, AV.i IntKind.u8 0, AV.i IntKind.u8 0, AV.i IntKind.u8 0, AV.i IntKind.u8 0, AV.i IntKind.u8 0, AV.i IntKind.u8 0, AV.i IntKind.u8 0, AV.i IntKind.u8 0, AV.i IntKind.u8 0, AV.i IntKind.u8 0, AV.i IntKind.u8 0, AV.i IntKind.u8 0, AV.i IntKind.u8 0, AV.i IntKind.u8 0, AV.i IntKind.u8 0, AV.i IntKind.u8 0, AV.i IntKind.u8 0, AV.i IntKind.u8 0, AV.i IntKind.u8 0, AV.i IntKind.u8 0, AV.i IntKind.u8 0, AV.i IntKind.u8 0, AV.i IntKind.u8 0, AV.i IntKind.u8 0, AV.i IntKind.u8 0, AV.i IntKind.u8 0, AV.i IntKind.u8 0, AV.i IntKind.u8 0, AV.i IntKind.u8 0, AV.i IntKind.u8 0, AV.i IntKind.u8 0, AV.i IntKind.u8 0, AV.i IntKind.u8 0, AV.i IntKind.u8 0, AV.i IntKind.u8 0, AV.i IntKind.u8 0, AV.i IntKind.u8 0, AV.i IntKind.u8 0, AV.i IntKind.u8 0, AV.i IntKind.u8 0, AV.i IntKind.u8 0, AV.i IntKind.u8 0, AV.i IntKind.u8 0, AV.i IntKind.u8 0, AV.i IntKind.u8 0, AV.i IntKind.u8 0, AV.i IntKind.u8 0, AV.i IntKind.u8 0, AV.i IntKind.u8 0, AV.i IntKind.u8 0, AV.i IntKind.u8 0, AV.i IntKind.u8 0, AV.i IntKind.u8 0, AV.i IntKind.u8 0, AV.i IntKind.u8 0, AV.i IntKind.u8 0, AV.i IntKind.u8 0, AV.i IntKind.u8 0, AV.i IntKind.u8 0, AV.i IntKind.u8 0, AV.i IntKind.u8 0, AV.i IntKind.u8 0, AV.i IntKind.u8 0, AV.i IntKind.u8 0, AV.i IntKind.u8 0, AV.i IntKind.u8 0, AV.i IntKind.u8 0, AV.i IntKind.u8 0, AV.i IntKind.u8 0, AV.i IntKind.u8 0, AV.i IntKind.u8 0, AV.i IntKind.u8 0, AV.i IntKind.u8 0, AV.i IntKind.u8 0, AV.i IntKind.u8 0, AV.i IntKind.u8 0, AV.i IntKind.u8 0, AV.i IntKind.u8 0, AV.i IntKind.u8 0, AV.i IntKind.u8 0, AV.i IntKind.u8 0, AV.i IntKind.u8 0, AV.i IntKind.u8 0, AV.i IntKind.u8 0, AV.i IntKind.u8 0, AV.i IntKind.u8 0, AV.i IntKind.u8 0, AV.i IntKind.u8 0, AV.i IntKind.u8 0, AV.i IntKind.u8 0, AV.i IntKind.u8 0, AV.i IntKind.u8 0, AV.i IntKind.u8 0, AV.i IntKind.u8 0, AV.i IntKind.u8 0, AV.i IntKind.u8 0, AV.i IntKind.u8 0, AV.i IntKind.u8 0, AV.i IntKind.u8 0, AV.i IntKind.u8 0, AV.i IntKind.u8 0, AV.i IntKind.u8 0, AV.i IntKind.u8 0, AV.i IntKind.u8 0, AV.i IntKind.u8 0, AV.i IntKind.u8 0, AV.i IntKind.u8 0, AV.i IntKind.u8 0, AV.i IntKind.u8 0, AV.i IntKind.u8 0, AV.i IntKind.u8 0, AV.i IntKind.u8 0, AV.i IntKind.u8 0, AV.i IntKind.u8 0, AV.i IntKind.u8 0, AV.i IntKind.u8 0, AV.i IntKind.u8 0, AV.i IntKind.u8 0, AV.i IntKind.u8 0, AV.i IntKind.u8 0, AV.i IntKind.u8 0, AV.i IntKind.u8 0, AV.i IntKind.u8 0, AV.i IntKind.u8 0, AV.i IntKind.u8 0, AV.i IntKind.u8 0, AV.i IntKind.u8 0, AV.i IntKind.u8 0, AV.i IntKind.u8 0, AV.i IntKind.u8 0, AV.i IntKind.u8 0, AV.i IntKind.u8 0, AV.i IntKind.u8 0, AV.i IntKind.u8 0, AV.i IntKind.u8 0, AV.i IntKind.u8 0, AV.i IntKind.u8 0, AV.i IntKind.u8 0, AV.i IntKind.u8 0, AV.i IntKind.u8 0, AV.i IntKind.u8 0, AV.i IntKind.u8 0, AV.i IntKind.u8 0, AV.i IntKind.u8 0, AV.i IntKind.u8 0, AV.i IntKind.u8 0, AV.i IntKind.u8 0, AV.i IntKind.u8 0, AV.i IntKind.u8 0, AV.i IntKind.u8 0, AV.i IntKind.u8 0, AV.i IntKind.u8 0, AV.i IntKind.u8 0, AV.i IntKind.u8 0, AV.i IntKind.u8 0, AV.i IntKind.u8 0, AV.i IntKind.u8 0, AV.i IntKind.u8 0, AV.i IntKind.u8 0, AV.i IntKind.u8 0, AV.i IntKind.u8 0, AV.i IntKind.u8 0, AV.i IntKind.u8 0, AV.i IntKind.u8 0, AV.i IntKind.u8 0, AV.i IntKind.u8 0, AV.i IntKind.u8 0, AV.i IntKind.u8 0, AV.i IntKind.u8 0, AV.i IntKind.u8 0, AV.i IntKind.u8 0, AV.i IntKind.u8 0, AV.i IntKind.u8 0, AV.i IntKind.u8 0, AV.i IntKind.u8 0, AV.i IntKind.u8 0, AV.i IntKind.u8 0, AV.i IntKind.u8 0, AV.i IntKind.u8 0, AV.i IntKind.u8 0, AV.i IntKind.u8 0, AV.i IntKind.u8 0, AV.i IntKind.u8 0, AV.i IntKind.u8 0, AV.i IntKind.u8 0, AV.i IntKind.u8 0, AV.i IntKind.u8 0, AV.i IntKind.u8 0, AV.i IntKind.u8 0, AV.i IntKind.u8 0, AV.i IntKind.u8 0, AV.i IntKind.u8 0, AV.i IntKind.u8 0, AV.i IntKind.u8 0, AV.i IntKind.u8 0, AV.i IntKind.u8 0, AV.i IntKind.u8 0, AV.i IntKind.u8 0, AV.i IntKind.u8 0, AV.i IntKind.u8 0, AV.i IntKind.u8 0, AV.i IntKind.u8 0, AV.i IntKind.u8 0, AV.i IntKind.u8 0, AV.i IntKind.u8 0, AV.i IntKind.u8 0, AV.i IntKind.u8 0, AV.i IntKind.u8 0, AV.i IntKind.u8 0, AV.i IntKind.u8 0, AV.i IntKind.u8 0, AV.i IntKind.u8 0, AV.i IntKind.u8 0, AV.i IntKind.u8 0, AV.i IntKind.u8 0, AV.i IntKind.u8 0, AV.i IntKind.u8 0, AV.i IntKind.u8 0, AV.i IntKind.u8 0, AV.i IntKind.u8 0, AV.i IntKind.u8 0, AV.i IntKind.u8 0, AV.i IntKind.u8 0, AV.i IntKind.u8 0, AV.i IntKind.u8 0, AV.i IntKind.u8 0, AV.i IntKind.u8 0, AV.i IntKind.u8 0, AV.i IntKind.u8 0] := by kernel_rfl
@[go_sem] theorem u8101 : u8T Tryz.prog 101 = false := by kernel_rfl
@[go_sem] theorem el101 : elT Tryz.prog 101 = none := by kernel_rfl
@[go_sem] theorem ar101 : arT Tryz.prog 101 = some (256, 1) := by kernel_rfl
@[go_sem] theorem pl101 : plT Tryz.prog 101 = some (Sum.inr 1) := by kernel_rfl
@[go_sem] theorem sf102 : selfT Tryz.prog 102 = false := by kernel_rfl
@[go_sem] theorem sz102 : szT Tryz.prog 102 = some 1 := by kernel_rfl
@[go_sem] theorem ag102 : aggT Tryz.prog 102 = some false := by kernel_rfl
@[go_sem] theorem zr102 : zeroT Tryz.prog 102 = some [AV.nf] := by kernel_rfl
@[go_sem] theorem u8102 : u8T Tryz.prog 102 = false := by kernel_rfl
@[go_sem] theorem sf103 : selfT Tryz.prog 103 = false := by kernel_rfl
@[go_sem] theorem sz103 : szT Tryz.prog 103 = some 1 := by kernel_rfl
@[go_sem] theorem ag103 : aggT Tryz.prog 103 = some false := by kernel_rfl
@[go_sem] theorem zr103 : zeroT Tryz.prog 103 = some [AV.nf] := by kernel_rfl
@[go_sem] theorem u8103 : u8T Tryz.prog 103 = false := by kernel_rfl
@[go_sem] theorem sf104 : selfT Tryz.prog 104 = false := by kernel_rfl
@[go_sem] theorem sz104 : szT Tryz.prog 104 = some 1 := by kernel_rfl
@[go_sem] theorem ag104 : aggT Tryz.prog 104 = some false := by kernel_rfl
@[go_sem] theorem zr104 : zeroT Tryz.prog 104 = some [AV.nf] := by kernel_rfl
@[go_sem] theorem u8104 : u8T Tryz.prog 104 = false := by kernel_rfl
@[go_sem] theorem un105 : Program.underlying Tryz.prog 105 = some (TypeDesc.pointer 5) := by kernel_rfl
@[go_sem] theorem sf105 : selfT Tryz.prog 105 = false := by kernel_rfl
@[go_sem] theorem sz105 : szT Tryz.prog 105 = some 1 := by kernel_rfl
@[go_sem] theorem ag105 : aggT Tryz.prog 105 = some false := by kernel_rfl
@[go_sem] theorem zr105 : zeroT Tryz.prog 105 = some [AV.np] := by kernel_rfl
@[go_sem] theorem u8105 : u8T Tryz.prog 105 = false := by kernel_rfl
@[go_sem] theorem pt105 : ptrT Tryz.prog 105 = true := by kernel_rfl
@[go_sem] theorem sf106 : selfT Tryz.prog 106 = false := by kernel_rfl
@[go_sem] theorem sz106 : szT Tryz.prog 106 = some 1 := by kernel_rfl
@[go_sem] theorem ag106 : aggT Tryz.prog 106 = some true := by kernel_rfl
@[go_sem] theorem zr106 : zeroT Tryz.prog 106 = some [AV.i IntKind.i64 0] := by kernel_rfl
@[go_sem] theorem u8106 : u8T Tryz.prog 106 = false := by kernel_rfl
@[go_sem] theorem if106 : ifcT Tryz.prog 106 = false := by kernel_rfl
@[go_sem] theorem pl106 : plT Tryz.prog 106 = some (Sum.inl [(0, 1)]) := by kernel_rfl
@[go_sem] theorem eq106 : eqL Tryz.prog 106 = some [(0, 1)] := by kernel_rfl
@[go_sem] theorem fd106_0 : fldT Tryz.prog 106 0 = some (0, 27) := by kernel_rfl
@[go_sem] theorem sf107 : selfT Tryz.prog 107 = false := by kernel_rfl
@[go_sem] theorem sz107 : szT Tryz.prog 107 = some 1 := by kernel_rfl
@[go_sem] theorem ag107 : aggT Tryz.prog 107 = some true := by kernel_rfl
@[go_sem] theorem zr107 : zeroT Tryz.prog 107 = some [AV.i IntKind.i64 0] := by kernel_rfl
@[go_sem] theorem u8107 : u8T Tryz.prog 107 = false := by kernel_rfl
@[go_sem] theorem if107 : ifcT Tryz.prog 107 = false := by kernel_rfl
@[go_sem] theorem pl107 : plT Tryz.prog 107 = some (Sum.inl [(0, 1)]) := by kernel_rfl
@[go_sem] theorem eq107 : eqL Tryz.prog 107 = some [(0, 1)] := by kernel_rfl
@[go_sem] theorem fd107_0 : fldT Tryz.prog 107 0 = some (0, 27) := by kernel_rfl
@[go_sem] theorem sf108 : selfT Tryz.prog 108 = false := by kernel_rfl
@[go_sem] theorem sz108 : szT Tryz.prog 108 = some 1 := by kernel_rfl
@[go_sem] theorem ag108 : aggT Tryz.prog 108 = some false := by kernel_rfl
@[go_sem] theorem u8108 : u8T Tryz.prog 108 = false := by kernel_rfl
@[go_sem] theorem sf109 : selfT Tryz.prog 109 = false := by kernel_rfl
@[go_sem] theorem sz109 : szT Tryz.prog 109 = some 3 := by kernel_rfl
@[go_sem] theorem ag109 : aggT Tryz.prog 109 = some true := by kernel_rfl
@[go_sem] theorem zr109 : zeroT Tryz.prog 109 = some [AV.s [], AV.i IntKind.i64 0, AV.i IntKind.i64 0] := by kernel_rfl
@[go_sem] theorem u8109 : u8T Tryz.prog 109 = false := by kernel_rfl
@[go_sem] theorem if109 : ifcT Tryz.prog 109 = false := by kernel_rfl
@[go_sem] theorem pl109 : plT Tryz.prog 109 = some (Sum.inl [(0, 1), (1, 1), (2, 1)]) := by kernel_rfl
@[go_sem] theorem eq109 : eqL Tryz.prog 109 = some [(0, 2), (1, 1), (2, 1)] := by kernel_rfl
@[go_sem] theorem fd109_0 : fldT Tryz.prog 109 0 = some (0, 9) := by kernel_rfl
@[go_sem] theorem fd109_1 : fldT Tryz.prog 109 1 = some (1, 3) := by kernel_rfl
@[go_sem] theorem fd109_2 : fldT Tryz.prog 109 2 = some (2, 3) := by kernel_rfl
@[go_sem] theorem sf110 : selfT Tryz.prog 110 = false := by kernel_rfl
@[go_sem] theorem sz110 : szT Tryz.prog 110 = some 3 := by kernel_rfl
@[go_sem] theorem ag110 : aggT Tryz.prog 110 = some true := by kernel_rfl
@[go_sem] theorem zr110 : zeroT Tryz.prog 110 = some [AV.s [], AV.i IntKind.i64 0, AV.i IntKind.i64 0] := by kernel_rfl
@[go_sem] theorem u8110 : u8T Tryz.prog 110 = false := by kernel_rfl
@[go_sem] theorem if110 : ifcT Tryz.prog 110 = false := by kernel_rfl
@[go_sem] theorem pl110 : plT Tryz.prog 110 = some (Sum.inl [(0, 1), (1, 1), (2, 1)]) := by kernel_rfl
@[go_sem] theorem eq110 : eqL Tryz.prog 110 = some [(0, 2), (1, 1), (2, 1)] := by kernel_rfl
@[go_sem] theorem fd110_0 : fldT Tryz.prog 110 0 = some (0, 9) := by kernel_rfl
@[go_sem] theorem fd110_1 : fldT Tryz.prog 110 1 = some (1, 3) := by kernel_rfl
@[go_sem] theorem fd110_2 : fldT Tryz.prog 110 2 = some (2, 3) := by kernel_rfl
@[go_sem] theorem sf111 : selfT Tryz.prog 111 = false := by kernel_rfl
@[go_sem] theorem sz111 : szT Tryz.prog 111 = some 1 := by kernel_rfl
@[go_sem] theorem ag111 : aggT Tryz.prog 111 = some false := by kernel_rfl
@[go_sem] theorem zr111 : zeroT Tryz.prog 111 = some [AV.nf] := by kernel_rfl
@[go_sem] theorem u8111 : u8T Tryz.prog 111 = false := by kernel_rfl
@[go_sem] theorem sf112 : selfT Tryz.prog 112 = false := by kernel_rfl
@[go_sem] theorem sz112 : szT Tryz.prog 112 = some 1 := by kernel_rfl
@[go_sem] theorem ag112 : aggT Tryz.prog 112 = some false := by kernel_rfl
@[go_sem] theorem zr112 : zeroT Tryz.prog 112 = some [AV.nf] := by kernel_rfl
@[go_sem] theorem u8112 : u8T Tryz.prog 112 = false := by kernel_rfl
@[go_sem] theorem sf113 : selfT Tryz.prog 113 = false := by kernel_rfl
@[go_sem] theorem sz113 : szT Tryz.prog 113 = some 1 := by kernel_rfl
@[go_sem] theorem ag113 : aggT Tryz.prog 113 = some false := by kernel_rfl
@[go_sem] theorem zr113 : zeroT Tryz.prog 113 = some [AV.nf] := by kernel_rfl
@[go_sem] theorem u8113 : u8T Tryz.prog 113 = false := by kernel_rfl
@[go_sem] theorem sf114 : selfT Tryz.prog 114 = false := by kernel_rfl
@[go_sem] theorem sz114 : szT Tryz.prog 114 = some 1 := by kernel_rfl
@[go_sem] theorem ag114 : aggT Tryz.prog 114 = some false := by kernel_rfl
@[go_sem] theorem zr114 : zeroT Tryz.prog 114 = some [AV.nf] := by kernel_rfl
@[go_sem] theorem u8114 : u8T Tryz.prog 114 = false := by kernel_rfl
@[go_sem] theorem un115 : Program.underlying Tryz.prog 115 = some (TypeDesc.pointer 3) := by kernel_rfl
@[go_sem] theorem sf115 : selfT Tryz.prog 115 = false := by kernel_rfl
@[go_sem] theorem sz115 : szT Tryz.prog 115 = some 1 := by kernel_rfl
@[go_sem] theorem ag115 : aggT Tryz.prog 115 = some false := by kernel_rfl
@[go_sem] theorem zr115 : zeroT Tryz.prog 115 = some [AV.np] := by kernel_rfl
@[go_sem] theorem u8115 : u8T Tryz.prog 115 = false := by kernel_rfl
@[go_sem] theorem pt115 : ptrT Tryz.prog 115 = true := by kernel_rfl
@[go_sem] theorem un116 : Program.underlying Tryz.prog 116 = some (TypeDesc.array 14 3) := by kernel_rfl
@[go_sem] theorem sf116 : selfT Tryz.prog 116 = false := by kernel_rfl
@[go_sem] theorem sz116 : szT Tryz.prog 116 = some 14 := by kernel_rfl
@[go_sem] theorem ag116 : aggT Tryz.prog 116 = some true := by kernel_rfl
@[go_sem] theorem zr116 : zeroT Tryz.prog 116 = some [AV.i IntKind.i64 0, AV.i IntKind.i64 0, AV.i IntKind.i64 0, AV.i IntKind.i64 0, AV.i IntKind.i64 0, AV.i IntKind.i64 0, AV.i IntKind.i64 0, AV.i IntKind.i64 0, AV.i IntKind.i64 0, AV.i IntKind.i64 0, AV.i IntKind.i64 0, AV.i IntKind.i64 0, AV.i IntKind.i64 0, AV.i IntKind.i64 0] := by kernel_rfl
@[go_sem] theorem u8116 : u8T Tryz.prog 116 = false := by kernel_rfl
@[go_sem] theorem el116 : elT Tryz.prog 116 = none := by kernel_rfl
@[go_sem] theorem ar116 : arT Tryz.prog 116 = some (14, 1) := by kernel_rfl
@[go_sem] theorem pl116 : plT Tryz.prog 116 = some (Sum.inr 1) := by kernel_rfl
@[go_sem] theorem sf117 : selfT Tryz.prog 117 = false := by kernel_rfl
@[go_sem] theorem sz117 : szT Tryz.prog 117 = some 1 := by kernel_rfl
@[go_sem] theorem ag117 : aggT Tryz.prog 117 = some false := by kernel_rfl
@[go_sem] theorem zr117 : zeroT Tryz.prog 117 = some [AV.nf] := by kernel_rfl
@[go_sem] theorem u8117 : u8T Tryz.prog 117 = false := by kernel_rfl
@[go_sem] theorem un118 : Program.underlying Tryz.prog 118 = some (TypeDesc.array 14 9) := by kernel_rfl
@[go_sem] theorem sf118 : selfT Tryz.prog 118 = false := by kernel_rfl
@[go_sem] theorem sz118 : szT Tryz.prog 118 = some 14 := by kernel_rfl
@[go_sem] theorem ag118 : aggT Tryz.prog 118 = some true := by kernel_rfl
@[go_sem] theorem zr118 : zeroT Tryz.prog 118 = some [AV.s [], AV.s [], AV.s [], AV.s [], AV.s [], AV.s [], AV.s [], AV.s [], AV.s [], AV.s [], AV.s [], AV.s [], AV.s [], AV.s []] := by kernel_rfl
@[go_sem] theorem u8118 : u8T Tryz.prog 118 = false := by kernel_rfl
@[go_sem] theorem el118 : elT Tryz.prog 118 = none := by kernel_rfl
@[go_sem] theorem ar118 : arT Tryz.prog 118 = some (14, 1) := by kernel_rfl
@[go_sem] theorem pl118 : plT Tryz.prog 118 = some (Sum.inr 1) := by kernel_rfl
@[go_sem] theorem sf119 : selfT Tryz.prog 119 = false := by kernel_rfl
@[go_sem] theorem sz119 : szT Tryz.prog 119 = some 2 := by kernel_rfl
@[go_sem] theorem ag119 : aggT Tryz.prog 119 = some true := by kernel_rfl
@[go_sem] theorem zr119 : zeroT Tryz.prog 119 = some [AV.i IntKind.i64 0, AV.i IntKind.i64 0] := by kernel_rfl
@[go_sem] theorem u8119 : u8T Tryz.prog 119 = false := by kernel_rfl
@[go_sem] theorem if119 : ifcT Tryz.prog 119 = false := by kernel_rfl
@[go_sem] theorem pl119 : plT Tryz.prog 119 = some (Sum.inl [(0, 1), (1, 1)]) := by kernel_rfl
@[go_sem] theorem eq119 : eqL Tryz.prog 119 = some [(0, 1), (1, 1)] := by kernel_rfl
@[go_sem] theorem fd119_0 : fldT Tryz.prog 119 0 = some (0, 3) := by kernel_rfl
@[go_sem] theorem fd119_1 : fldT Tryz.prog 119 1 = some (1, 27) := by kernel_rfl
@[go_sem] theorem sf120 : selfT Tryz.prog 120 = false := by kernel_rfl
@[go_sem] theorem sz120 : szT Tryz.prog 120 = some 2 := by kernel_rfl
@[go_sem] theorem ag120 : aggT Tryz.prog 120 = some true := by kernel_rfl
@[go_sem] theorem zr120 : zeroT Tryz.prog 120 = some [AV.i IntKind.i64 0, AV.i IntKind.i64 0] := by kernel_rfl
@[go_sem] theorem u8120 : u8T Tryz.prog 120 = false := by kernel_rfl
@[go_sem] theorem if120 : ifcT Tryz.prog 120 = false := by kernel_rfl
@[go_sem] theorem pl120 : plT Tryz.prog 120 = some (Sum.inl [(0, 1), (1, 1)]) := by kernel_rfl
@[go_sem] theorem eq120 : eqL Tryz.prog 120 = some [(0, 1), (1, 1)] := by kernel_rfl
@[go_sem] theorem fd120_0 : fldT Tryz.prog 120 0 = some (0, 3) := by kernel_rfl
@[go_sem] theorem fd120_1 : fldT Tryz.prog 120 1 = some (1, 27) := by kernel_rfl
@[go_sem] theorem sf121 : selfT Tryz.prog 121 = false := by kernel_rfl
@[go_sem] theorem sz121 : szT Tryz.prog 121 = some 1 := by kernel_rfl
@[go_sem] theorem ag121 : aggT Tryz.prog 121 = some false := by kernel_rfl
@[go_sem] theorem zr121 : zeroT Tryz.prog 121 = some [AV.nf] := by kernel_rfl
@[go_sem] theorem u8121 : u8T Tryz.prog 121 = false := by kernel_rfl
@[go_sem] theorem sf122 : selfT Tryz.prog 122 = false := by kernel_rfl
@[go_sem] theorem sz122 : szT Tryz.prog 122 = some 1 := by kernel_rfl
@[go_sem] theorem ag122 : aggT Tryz.prog 122 = some false := by kernel_rfl
@[go_sem] theorem zr122 : zeroT Tryz.prog 122 = some [AV.nf] := by kernel_rfl
@[go_sem] theorem u8122 : u8T Tryz.prog 122 = false := by kernel_rfl
@[go_sem] theorem un123 : Program.underlying Tryz.prog 123 = some TypeDesc.unsafePointer := by kernel_rfl
@[go_sem] theorem sf123 : selfT Tryz.prog 123 = false := by kernel_rfl
@[go_sem] theorem sz123 : szT Tryz.prog 123 = some 1 := by kernel_rfl
@[go_sem] theorem ag123 : aggT Tryz.prog 123 = some false := by kernel_rfl
@[go_sem] theorem zr123 : zeroT Tryz.prog 123 = some [AV.np] := by kernel_rfl
@[go_sem] theorem u8123 : u8T Tryz.prog 123 = false := by kernel_rfl
@[go_sem] theorem sf124 : selfT Tryz.prog 124 = false := by kernel_rfl
@[go_sem] theorem sz124 : szT Tryz.prog 124 = some 1 := by kernel_rfl
@[go_sem] theorem ag124 : aggT Tryz.prog 124 = some false := by kernel_rfl
@[go_sem] theorem zr124 : zeroT Tryz.prog 124 = some [AV.nf] := by kernel_rfl
@[go_sem] theorem u8124 : u8T Tryz.prog 124 = false := by kernel_rfl
@[go_sem] theorem sf125 : selfT Tryz.prog 125 = false := by kernel_rfl
@[go_sem] theorem sz125 : szT Tryz.prog 125 = some 1 := by kernel_rfl
@[go_sem] theorem ag125 : aggT Tryz.prog 125 = some false := by kernel_rfl
@[go_sem] theorem zr125 : zeroT Tryz.prog 125 = some [AV.nf] := by kernel_rfl
@[go_sem] theorem u8125 : u8T Tryz.prog 125 = false := by kernel_rfl
@[go_sem] theorem un126 : Program.underlying Tryz.prog 126 = some (TypeDesc.slice 128) := by kernel_rfl
@[go_sem] theorem sf126 : selfT Tryz.prog 126 = false := by kernel_rfl
@[go_sem] theorem sz126 : szT Tryz.prog 126 = some 1 := by kernel_rfl
@[go_sem] theorem ag126 : aggT Tryz.prog 126 = some false := by kernel_rfl
@[go_sem] theorem zr126 : zeroT Tryz.prog 126 = some [AV.nils] := by kernel_rfl
@[go_sem] theorem u8126 : u8T Tryz.prog 126 = false := by kernel_rfl
@[go_sem] theorem el126 : elT Tryz.prog 126 = some (2, 128) := by kernel_rfl
@[go_sem] theorem sf127 : selfT Tryz.prog 127 = false := by kernel_rfl
@[go_sem] theorem sz127 : szT Tryz.prog 127 = some 2 := by kernel_rfl
@[go_sem] theorem ag127 : aggT Tryz.prog 127 = some true := by kernel_rfl
@[go_sem] theorem zr127 : zeroT Tryz.prog 127 = some [AV.i IntKind.i64 0, AV.i IntKind.i64 0] := by kernel_rfl
@[go_sem] theorem u8127 : u8T Tryz.prog 127 = false := by kernel_rfl
@[go_sem] theorem if127 : ifcT Tryz.prog 127 = false := by kernel_rfl
@[go_sem] theorem pl127 : plT Tryz.prog 127 = some (Sum.inl [(0, 1), (1, 1)]) := by kernel_rfl
@[go_sem] theorem eq127 : eqL Tryz.prog 127 = some [(0, 1), (1, 1)] := by kernel_rfl
@[go_sem] theorem fd127_0 : fldT Tryz.prog 127 0 = some (0, 3) := by kernel_rfl
@[go_sem] theorem fd127_1 : fldT Tryz.prog 127 1 = some (1, 3) := by kernel_rfl
@[go_sem] theorem sf128 : selfT Tryz.prog 128 = false := by kernel_rfl
@[go_sem] theorem sz128 : szT Tryz.prog 128 = some 2 := by kernel_rfl
@[go_sem] theorem ag128 : aggT Tryz.prog 128 = some true := by kernel_rfl
@[go_sem] theorem zr128 : zeroT Tryz.prog 128 = some [AV.i IntKind.i64 0, AV.i IntKind.i64 0] := by kernel_rfl
@[go_sem] theorem u8128 : u8T Tryz.prog 128 = false := by kernel_rfl
@[go_sem] theorem if128 : ifcT Tryz.prog 128 = false := by kernel_rfl
@[go_sem] theorem pl128 : plT Tryz.prog 128 = some (Sum.inl [(0, 1), (1, 1)]) := by kernel_rfl
@[go_sem] theorem eq128 : eqL Tryz.prog 128 = some [(0, 1), (1, 1)] := by kernel_rfl
@[go_sem] theorem fd128_0 : fldT Tryz.prog 128 0 = some (0, 3) := by kernel_rfl
@[go_sem] theorem fd128_1 : fldT Tryz.prog 128 1 = some (1, 3) := by kernel_rfl
@[go_sem] theorem un129 : Program.underlying Tryz.prog 129 = some (TypeDesc.int IntKind.u32) := by kernel_rfl
@[go_sem] theorem sf129 : selfT Tryz.prog 129 = false := by kernel_rfl
@[go_sem] theorem sz129 : szT Tryz.prog 129 = some 1 := by kernel_rfl
@[go_sem] theorem ag129 : aggT Tryz.prog 129 = some false := by kernel_rfl
@[go_sem] theorem zr129 : zeroT Tryz.prog 129 = some [AV.i IntKind.u32 0] := by kernel_rfl
@[go_sem] theorem u8129 : u8T Tryz.prog 129 = false := by kernel_rfl
@[go_sem] theorem sf130 : selfT Tryz.prog 130 = false := by kernel_rfl
@[go_sem] theorem sz130 : szT Tryz.prog 130 = some 1 := by kernel_rfl
@[go_sem] theorem ag130 : aggT Tryz.prog 130 = some false := by kernel_rfl
@[go_sem] theorem zr130 : zeroT Tryz.prog 130 = some [AV.nf] := by kernel_rfl
@[go_sem] theorem u8130 : u8T Tryz.prog 130 = false := by kernel_rfl
@[go_sem] theorem un131 : Program.underlying Tryz.prog 131 = some (TypeDesc.pointer 152) := by kernel_rfl
@[go_sem] theorem sf131 : selfT Tryz.prog 131 = false := by kernel_rfl
@[go_sem] theorem sz131 : szT Tryz.prog 131 = some 1 := by kernel_rfl
@[go_sem] theorem ag131 : aggT Tryz.prog 131 = some false := by kernel_rfl
@[go_sem] theorem zr131 : zeroT Tryz.prog 131 = some [AV.np] := by kernel_rfl
@[go_sem] theorem u8131 : u8T Tryz.prog 131 = false := by kernel_rfl
@[go_sem] theorem pt131 : ptrT Tryz.prog 131 = true := by kernel_rfl
@[go_sem] theorem sf132 : selfT Tryz.prog 132 = false := by kernel_rfl
@[go_sem] theorem sz132 : szT Tryz.prog 132 = some 1 := by kernel_rfl
@[go_sem] theorem ag132 : aggT Tryz.prog 132 = some false := by kernel_rfl
@[go_sem] theorem zr132 : zeroT Tryz.prog 132 = some [AV.nf] := by kernel_rfl
@[go_sem] theorem u8132 : u8T Tryz.prog 132 = false := by kernel_rfl
@[go_sem] theorem sf133 : selfT Tryz.prog 133 = false := by kernel_rfl
@[go_sem] theorem sz133 : szT Tryz.prog 133 = some 1 := by kernel_rfl
@[go_sem] theorem ag133 : aggT Tryz.prog 133 = some false := by kernel_rfl
@[go_sem] theorem u8133 : u8T Tryz.prog 133 = false := by kernel_rfl
@[go_sem] theorem sf134 : selfT Tryz.prog 134 = false := by kernel_rfl
@[go_sem] theorem sz134 : szT Tryz.prog 134 = some 1 := by kernel_rfl
@[go_sem] theorem ag134 : aggT Tryz.prog 134 = some false := by kernel_rfl
@[go_sem] theorem zr134 : zeroT Tryz.prog 134 = some [AV.nf] := by kernel_rfl
@[go_sem] theorem u8134 : u8T Tryz.prog 134 = false := by kernel_rfl
@[go_sem] theorem un135 : Program.underlying Tryz.prog 135 = some (TypeDesc.pointer 110) := by kernel_rfl
@[go_sem] theorem sf135 : selfT Tryz.prog 135 = false := by kernel_rfl
@[go_sem] theorem sz135 : szT Tryz.prog 135 = some 1 := by kernel_rfl
@[go_sem] theorem ag135 : aggT Tryz.prog 135 = some false := by kernel_rfl
@[go_sem] theorem zr135 : zeroT Tryz.prog 135 = some [AV.np] := by kernel_rfl
@[go_sem] theorem u8135 : u8T Tryz.prog 135 = false := by kernel_rfl
@[go_sem] theorem pt135 : ptrT Tryz.prog 135 = true := by kernel_rfl
@[go_sem] theorem sf136 : selfT Tryz.prog 136 = false := by kernel_rfl
@[go_sem] theorem sz136 : szT Tryz.prog 136 = some 1 := by kernel_rfl
@[go_sem] theorem ag136 : aggT Tryz.prog 136 = some false := by kernel_rfl
@[go_sem] theorem zr136 : zeroT Tryz.prog 136 = some [AV.nf] := by kernel_rfl
@[go_sem] theorem u8136 : u8T Tryz.prog 136 = false := by kernel_rfl
@[go_sem] theorem un137 : Program.underlying Tryz.prog 137 = some (TypeDesc.array 8 60) := by kernel_rfl
@[go_sem] theorem sf137 : selfT Tryz.prog 137 = false := by kernel_rfl
@[go_sem] theorem sz137 : szT Tryz.prog 137 = some 8 := by kernel_rfl
@[go_sem] theorem ag137 : aggT Tryz.prog 137 = some true := by kernel_rfl
@[go_sem] theorem zr137 : zeroT Tryz.prog 137 = some [AV.nils, AV.nils, AV.nils, AV.nils, AV.nils, AV.nils, AV.nils, AV.nils] := by kernel_rfl
@[go_sem] theorem u8137 : u8T Tryz.prog 137 = false := by kernel_rfl
@[go_sem] theorem el137 : elT Tryz.prog 137 = none := by kernel_rfl
@[go_sem] theorem ar137 : arT Tryz.prog 137 = some (8, 1) := by kernel_rfl
@[go_sem] theorem pl137 : plT Tryz.prog 137 = some (Sum.inr 1) := by kernel_rfl
@[go_sem] theorem un138 : Program.underlying Tryz.prog 138 = some (TypeDesc.array 8 24) := by kernel_rfl
@[go_sem] theorem sf138 : selfT Tryz.prog 138 = false := by kernel_rfl
@[go_sem] theorem sz138 : szT Tryz.prog 138 = some 8 := by kernel_rfl
@[go_sem] theorem ag138 : aggT Tryz.prog 138 = some true := by kernel_rfl
@[go_sem] theorem zr138 : zeroT Tryz.prog 138 = some [AV.nils, AV.nils, AV.nils, AV.nils, AV.nils, AV.nils, AV.nils, AV.nils] := by kernel_rfl
@[go_sem] theorem u8138 : u8T Tryz.prog 138 = false := by kernel_rfl
@[go_sem] theorem el138 : elT Tryz.prog 138 = none := by kernel_rfl
@[go_sem] theorem ar138 : arT Tryz.prog 138 = some (8, 1) := by kernel_rfl
@[go_sem] theorem pl138 : plT Tryz.prog 138 = some (Sum.inr 1) := by kernel_rfl
@[go_sem] theorem un139 : Program.underlying Tryz.prog 139 = some (TypeDesc.pointer 120) := by kernel_rfl
@[go_sem] theorem sf139 : selfT Tryz.prog 139 = false := by kernel_rfl
@[go_sem] theorem sz139 : szT Tryz.prog 139 = some 1 := by kernel_rfl
@[go_sem] theorem ag139 : aggT Tryz.prog 139 = some false := by kernel_rfl
@[go_sem] theorem zr139 : zeroT Tryz.prog 139 = some [AV.np] := by kernel_rfl
@[go_sem] theorem u8139 : u8T Tryz.prog 139 = false := by kernel_rfl
@[go_sem] theorem pt139 : ptrT Tryz.prog 139 = true := by kernel_rfl
@[go_sem] theorem un140 : Program.underlying Tryz.prog 140 = some (TypeDesc.array 2 3) := by kernel_rfl
@[go_sem] theorem sf140 : selfT Tryz.prog 140 = false := by kernel_rfl
@[go_sem] theorem sz140 : szT Tryz.prog 140 = some 2 := by kernel_rfl
@[go_sem] theorem ag140 : aggT Tryz.prog 140 = some true := by kernel_rfl
@[go_sem] theorem zr140 : zeroT Tryz.prog 140 = some [AV.i IntKind.i64 0, AV.i IntKind.i64 0] := by kernel_rfl
@[go_sem] theorem u8140 : u8T Tryz.prog 140 = false := by kernel_rfl
@[go_sem] theorem el140 : elT Tryz.prog 140 = none := by kernel_rfl
@[go_sem] theorem ar140 : arT Tryz.prog 140 = some (2, 1) := by kernel_rfl
@[go_sem] theorem pl140 : plT Tryz.prog 140 = some (Sum.inr 1) := by kernel_rfl
@[go_sem] theorem sf141 : selfT Tryz.prog 141 = false := by kernel_rfl
@[go_sem] theorem sz141 : szT Tryz.prog 141 = some 1 := by kernel_rfl
@[go_sem] theorem ag141 : aggT Tryz.prog 141 = some false := by kernel_rfl
@[go_sem] theorem zr141 : zeroT Tryz.prog 141 = some [AV.nf] := by kernel_rfl
@[go_sem] theorem u8141 : u8T Tryz.prog 141 = false := by kernel_rfl
@[go_sem] theorem un142 : Program.underlying Tryz.prog 142 = some (TypeDesc.int IntKind.u64) := by kernel_rfl
@[go_sem] theorem sf142 : selfT Tryz.prog 142 = false := by kernel_rfl
@[go_sem] theorem sz142 : szT Tryz.prog 142 = some 1 := by kernel_rfl
@[go_sem] theorem ag142 : aggT Tryz.prog 142 = some false := by kernel_rfl
@[go_sem] theorem zr142 : zeroT Tryz.prog 142 = some [AV.i IntKind.u64 0] := by kernel_rfl
@[go_sem] theorem u8142 : u8T Tryz.prog 142 = false := by kernel_rfl
@[go_sem] theorem un143 : Program.underlying Tryz.prog 143 = some (TypeDesc.array 24 5) := by kernel_rfl
@[go_sem] theorem sf143 : selfT Tryz.prog 143 = false := by kernel_rfl
@[go_sem] theorem sz143 : szT Tryz.prog 143 = some 24 := by kernel_rfl
@[go_sem] theorem ag143 : aggT Tryz.prog 143 = some true := by kernel_rfl
@[go_sem] theorem zr143 : zeroT Tryz.prog 143 = some [AV.i IntKind.u8 0, AV.i IntKind.u8 0, AV.i IntKind.u8 0, AV.i IntKind.u8 0, AV.i IntKind.u8 0, AV.i IntKind.u8 0, AV.i IntKind.u8 0, AV.i IntKind.u8 0, AV.i IntKind.u8 0, AV.i IntKind.u8 0, AV.i IntKind.u8 0, AV.i IntKind.u8 0, AV.i IntKind.u8 0, AV.i IntKind.u8 0, AV.i IntKind.u8 0, AV.i IntKind.u8 0, AV.i IntKind.u8 0, AV.i IntKind.u8 0, AV.i IntKind.u8 0, AV.i IntKind.u8 0, AV.i IntKind.u8 0, AV.i IntKind.u8 0, AV.i IntKind.u8 0, AV.i IntKind.u8 0] := by kernel_rfl
@[go_sem] theorem u8143 : u8T Tryz.prog 143 = false := by kernel_rfl
@[go_sem] theorem el143 : elT Tryz.prog 143 = none := by kernel_rfl
@[go_sem] theorem ar143 : arT Tryz.prog 143 = some (24, 1) := by kernel_rfl
@[go_sem] theorem pl143 : plT Tryz.prog 143 = some (Sum.inr 1) := by kernel_rfl
@[go_sem] theorem un144 : Program.underlying Tryz.prog 144 = some (TypeDesc.int IntKind.u64) := by kernel_rfl
@[go_sem] theorem sf144 : selfT Tryz.prog 144 = false := by kernel_rfl
@[go_sem] theorem sz144 : szT Tryz.prog 144 = some 1 := by kernel_rfl
@[go_sem] theorem ag144 : aggT Tryz.prog 144 = some false := by kernel_rfl
@[go_sem] theorem zr144 : zeroT Tryz.prog 144 = some [AV.i IntKind.u64 0] := by kernel_rfl
@[go_sem] theorem u8144 : u8T Tryz.prog 144 = false := by kernel_rfl
@[go_sem] theorem sf145 : selfT Tryz.prog 145 = false := by kernel_rfl
@[go_sem] theorem sz145 : szT Tryz.prog 145 = some 1 := by kernel_rfl
@[go_sem] theorem ag145 : aggT Tryz.prog 145 = some false := by kernel_rfl
@[go_sem] theorem zr145 : zeroT Tryz.prog 145 = some [AV.nf] := by kernel_rfl
@[go_sem] theorem u8145 : u8T Tryz.prog 145 = false := by kernel_rfl
@[go_sem] theorem sf146 : selfT Tryz.prog 146 = false := by kernel_rfl
@[go_sem] theorem sz146 : szT Tryz.prog 146 = some 1 := by kernel_rfl
@[go_sem] theorem ag146 : aggT Tryz.prog 146 = some false := by kernel_rfl
@[go_sem] theorem zr146 : zeroT Tryz.prog 146 = some [AV.nf] := by kernel_rfl
@[go_sem] theorem u8146 : u8T Tryz.prog 146 = false := by kernel_rfl
@[go_sem] theorem sf147 : selfT Tryz.prog 147 = false := by kernel_rfl
@[go_sem] theorem sz147 : szT Tryz.prog 147 = some 1 := by kernel_rfl
@[go_sem] theorem ag147 : aggT Tryz.prog 147 = some false := by kernel_rfl
@[go_sem] theorem u8147 : u8T Tryz.prog 147 = false := by kernel_rfl
@[go_sem] theorem sf148 : selfT Tryz.prog 148 = false := by kernel_rfl
@[go_sem] theorem sz148 : szT Tryz.prog 148 = some 1 := by kernel_rfl
@[go_sem] theorem ag148 : aggT Tryz.prog 148 = some false := by kernel_rfl
@[go_sem] theorem zr148 : zeroT Tryz.prog 148 = some [AV.nf] := by kernel_rfl
@[go_sem] theorem u8148 : u8T Tryz.prog 148 = false := by kernel_rfl
@[go_sem] theorem un149 : Program.underlying Tryz.prog 149 = some (TypeDesc.slice 155) := by kernel_rfl
@[go_sem] theorem sf149 : selfT Tryz.prog 149 = false := by kernel_rfl
@[go_sem] theorem sz149 : szT Tryz.prog 149 = some 1 := by kernel_rfl
@[go_sem] theorem ag149 : aggT Tryz.prog 149 = some false := by kernel_rfl
@[go_sem] theorem zr149 : zeroT Tryz.prog 149 = some [AV.nils] := by kernel_rfl
@[go_sem] theorem u8149 : u8T Tryz.prog 149 = false := by kernel_rfl
@[go_sem] theorem el149 : elT Tryz.prog 149 = some (3, 155) := by kernel_rfl
@[go_sem] theorem un150 : Program.underlying Tryz.prog 150 = some (TypeDesc.slice 158) := by kernel_rfl
@[go_sem] theorem sf150 : selfT Tryz.prog 150 = false := by kernel_rfl
@[go_sem] theorem sz150 : szT Tryz.prog 150 = some 1 := by kernel_rfl
@[go_sem] theorem ag150 : aggT Tryz.prog 150 = some false := by kernel_rfl
@[go_sem] theorem zr150 : zeroT Tryz.prog 150 = some [AV.nils] := by kernel_rfl
@[go_sem] theorem u8150 : u8T Tryz.prog 150 = false := by kernel_rfl
@[go_sem] theorem el150 : elT Tryz.prog 150 = some (3, 158) := by kernel_rfl
@[go_sem] theorem sf151 : selfT Tryz.prog 151 = false := by kernel_rfl
@[go_sem] theorem sz151 : szT Tryz.prog 151 = some 3 := by kernel_rfl
@[go_sem] theorem ag151 : aggT Tryz.prog 151 = some true := by kernel_rfl
@[go_sem] theorem zr151 : zeroT Tryz.prog 151 = some [AV.nils, AV.nils, AV.i IntKind.i64 0] := by kernel_rfl
@[go_sem] theorem u8151 : u8T Tryz.prog 151 = false := by kernel_rfl
@[go_sem] theorem if151 : ifcT Tryz.prog 151 = false := by kernel_rfl
@[go_sem] theorem pl151 : plT Tryz.prog 151 = some (Sum.inl [(0, 1), (1, 1), (2, 1)]) := by kernel_rfl
@[go_sem] theorem fd151_0 : fldT Tryz.prog 151 0 = some (0, 149) := by kernel_rfl
@[go_sem] theorem fd151_1 : fldT Tryz.prog 151 1 = some (1, 150) := by kernel_rfl
@[go_sem] theorem fd151_2 : fldT Tryz.prog 151 2 = some (2, 3) := by kernel_rfl
@[go_sem] theorem sf152 : selfT Tryz.prog 152 = false := by kernel_rfl
@[go_sem] theorem sz152 : szT Tryz.prog 152 = some 3 := by kernel_rfl
@[go_sem] theorem ag152 : aggT Tryz.prog 152 = some true := by kernel_rfl
@[go_sem] theorem zr152 : zeroT Tryz.prog 152 = some [AV.nils, AV.nils, AV.i IntKind.i64 0] := by kernel_rfl
@[go_sem] theorem u8152 : u8T Tryz.prog 152 = false := by kernel_rfl
@[go_sem] theorem if152 : ifcT Tryz.prog 152 = false := by kernel_rfl
@[go_sem] theorem pl152 : plT Tryz.prog 152 = some (Sum.inl [(0, 1), (1, 1), (2, 1)]) := by kernel_rfl
@[go_sem] theorem fd152_0 : fldT Tryz.prog 152 0 = some (0, 149) := by kernel_rfl
@[go_sem] theorem fd152_1 : fldT Tryz.prog 152 1 = some (1, 150) := by kernel_rfl
@[go_sem] theorem fd152_2 : fldT Tryz.prog 152 2 = some (2, 3) := by kernel_rfl
@[go_sem] theorem un153 : Program.underlying Tryz.prog 153 = some (TypeDesc.int IntKind.u16) := by kernel_rfl
@[go_sem] theorem sf153 : selfT Tryz.prog 153 = false := by kernel_rfl
@[go_sem] theorem sz153 : szT Tryz.prog 153 = some 1 := by kernel_rfl
@[go_sem] theorem ag153 : aggT Tryz.prog 153 = some false := by kernel_rfl
@[go_sem] theorem zr153 : zeroT Tryz.prog 153 = some [AV.i IntKind.u16 0] := by kernel_rfl
@[go_sem] theorem u8153 : u8T Tryz.prog 153 = false := by kernel_rfl
@[go_sem] theorem sf154 : selfT Tryz.prog 154 = false := by kernel_rfl
@[go_sem] theorem sz154 : szT Tryz.prog 154 = some 3 := by kernel_rfl
@[go_sem] theorem ag154 : aggT Tryz.prog 154 = some true := by kernel_rfl
@[go_sem] theorem zr154 : zeroT Tryz.prog 154 = some [AV.i IntKind.u16 0, AV.i IntKind.u16 0, AV.i IntKind.u16 0] := by kernel_rfl
@[go_sem] theorem u8154 : u8T Tryz.prog 154 = false := by kernel_rfl
@[go_sem] theorem if154 : ifcT Tryz.prog 154 = false := by kernel_rfl
@[go_sem] theorem pl154 : plT Tryz.prog 154 = some (Sum.inl [(0, 1), (1, 1), (2, 1)]) := by kernel_rfl
@[go_sem] theorem eq154 : eqL Tryz.prog 154 = some [(0, 1), (1, 1), (2, 1)] := by kernel_rfl
@[go_sem] theorem fd154_0 : fldT Tryz.prog 154 0 = some (0, 153) := by kernel_rfl
@[go_sem] theorem fd154_1 : fldT Tryz.prog 154 1 = some (1, 153) := by kernel_rfl
@[go_sem] theorem fd154_2 : fldT Tryz.prog 154 2 = some (2, 153) := by kernel_rfl
@[go_sem] theorem sf155 : selfT Tryz.prog 155 = false := by kernel_rfl
@[go_sem] theorem sz155 : szT Tryz.prog 155 = some 3 := by kernel_rfl
@[go_sem] theorem ag155 : aggT Tryz.prog 155 = some true := by kernel_rfl
@[go_sem] theorem zr155 : zeroT Tryz.prog 155 = some [AV.i IntKind.u16 0, AV.i IntKind.u16 0, AV.i IntKind.u16 0] := by kernel_rfl
@[go_sem] theorem u8155 : u8T Tryz.prog 155 = false := by kernel_rfl
@[go_sem] theorem if155 : ifcT Tryz.prog 155 = false := by kernel_rfl
@[go_sem] theorem pl155 : plT Tryz.prog 155 = some (Sum.inl [(0, 1), (1, 1), (2, 1)]) := by kernel_rfl
@[go_sem] theorem eq155 : eqL Tryz.prog 155 = some [(0, 1), (1, 1), (2, 1)] := by kernel_rfl
@[go_sem] theorem fd155_0 : fldT Tryz.prog 155 0 = some (0, 153) := by kernel_rfl
@[go_sem] theorem fd155_1 : fldT Tryz.prog 155 1 = some (1, 153) := by kernel_rfl
@[go_sem] theorem fd155_2 : fldT Tryz.prog 155 2 = some (2, 153) := by kernel_rfl
@[go_sem] theorem sf156 : selfT Tryz.prog 156 = false := by kernel_rfl
@[go_sem] theorem sz156 : szT Tryz.prog 156 = some 1 := by kernel_rfl
@[go_sem] theorem ag156 : aggT Tryz.prog 156 = some false := by kernel_rfl
@[go_sem] theorem zr156 : zeroT Tryz.prog 156 = some [AV.nf] := by kernel_rfl
@[go_sem] theorem u8156 : u8T Tryz.prog 156 = false := by kernel_rfl
@[go_sem] theorem sf157 : selfT Tryz.prog 157 = false := by kernel_rfl
@[go_sem] theorem sz157 : szT Tryz.prog 157 = some 3 := by kernel_rfl
@[go_sem] theorem ag157 : aggT Tryz.prog 157 = some true := by kernel_rfl
@[go_sem] theorem zr157 : zeroT Tryz.prog 157 = some [AV.i IntKind.u32 0, AV.i IntKind.u32 0, AV.i IntKind.u32 0] := by kernel_rfl
@[go_sem] theorem u8157 : u8T Tryz.prog 157 = false := by kernel_rfl
@[go_sem] theorem if157 : ifcT Tryz.prog 157 = false := by kernel_rfl
@[go_sem] theorem pl157 : plT Tryz.prog 157 = some (Sum.inl [(0, 1), (1, 1), (2, 1)]) := by kernel_rfl
@[go_sem] theorem eq157 : eqL Tryz.prog 157 = some [(0, 1), (1, 1), (2, 1)] := by kernel_rfl
@[go_sem] theorem fd157_0 : fldT Tryz.prog 157 0 = some (0, 129) := by kernel_rfl
@[go_sem] theorem fd157_1 : fldT Tryz.prog 157 1 = some (1, 129) := by kernel_rfl
@[go_sem] theorem fd157_2 : fldT Tryz.prog 157 2 = some (2, 129) := by kernel_rfl
@[go_sem] theorem sf158 : selfT Tryz.prog 158 = false := by kernel_rfl
@[go_sem] theorem sz158 : szT Tryz.prog 158 = some 3 := by kernel_rfl
@[go_sem] theorem ag158 : aggT Tryz.prog 158 = some true := by kernel_rfl
@[go_sem] theorem zr158 : zeroT Tryz.prog 158 = some [AV.i IntKind.u32 0, AV.i IntKind.u32 0, AV.i IntKind.u32 0] := by kernel_rfl
@[go_sem] theorem u8158 : u8T Tryz.prog 158 = false := by kernel_rfl
@[go_sem] theorem if158 : ifcT Tryz.prog 158 = false := by kernel_rfl
@[go_sem] theorem pl158 : plT Tryz.prog 158 = some (Sum.inl [(0, 1), (1, 1), (2, 1)]) := by kernel_rfl
@[go_sem] theorem eq158 : eqL Tryz.prog 158 = some [(0, 1), (1, 1), (2, 1)] := by kernel_rfl
@[go_sem] theorem fd158_0 : fldT Tryz.prog 158 0 = some (0, 129) := by kernel_rfl
@[go_sem] theorem fd158_1 : fldT Tryz.prog 158 1 = some (1, 129) := by kernel_rfl
@[go_sem] theorem fd158_2 : fldT Tryz.prog 158 2 = some (2, 129) := by kernel_rfl
@[go_sem] theorem sf159 : selfT Tryz.prog 159 = false := by kernel_rfl
@[go_sem] theorem sz159 : szT Tryz.prog 159 = some 1 := by kernel_rfl
@[go_sem] theorem ag159 : aggT Tryz.prog 159 = some false := by kernel_rfl
@[go_sem] theorem zr159 : zeroT Tryz.prog 159 = some [AV.nf] := by kernel_rfl
@[go_sem] theorem u8159 : u8T Tryz.prog 159 = false := by kernel_rfl
@[go_sem] theorem sf160 : selfT Tryz.prog 160 = false := by kernel_rfl
@[go_sem] theorem sz160 : szT Tryz.prog 160 = some 1 := by kernel_rfl
@[go_sem] theorem ag160 : aggT Tryz.prog 160 = some false := by kernel_rfl
@[go_sem] theorem zr160 : zeroT Tryz.prog 160 = some [AV.nf] := by kernel_rfl
@[go_sem] theorem u8160 : u8T Tryz.prog 160 = false := by kernel_rfl
@[go_sem] theorem sf161 : selfT Tryz.prog 161 = false := by kernel_rfl
@[go_sem] theorem sz161 : szT Tryz.prog 161 = some 1 := by kernel_rfl
@[go_sem] theorem ag161 : aggT Tryz.prog 161 = some false := by kernel_rfl
@[go_sem] theorem zr161 : zeroT Tryz.prog 161 = some [AV.nf] := by kernel_rfl
@[go_sem] theorem u8161 : u8T Tryz.prog 161 = false := by kernel_rfl
@[go_sem] theorem un162 : Program.underlying Tryz.prog 162 = some (TypeDesc.array 20 144) := by kernel_rfl
@[go_sem] theorem sf162 : selfT Tryz.prog 162 = false := by kernel_rfl
@[go_sem] theorem sz162 : szT Tryz.prog 162 = some 20 := by kernel_rfl
@[go_sem] theorem ag162 : aggT Tryz.prog 162 = some true := by kernel_rfl
@[go_sem] theorem zr162 : zeroT Tryz.prog 162 = some [AV.i IntKind.u64 0, AV.i IntKind.u64 0, AV.i IntKind.u64 0, AV.i IntKind.u64 0, AV.i IntKind.u64 0, AV.i IntKind.u64 0, AV.i IntKind.u64 0, AV.i IntKind.u64 0, AV.i IntKind.u64 0, AV.i IntKind.u64 0, AV.i IntKind.u64 0, AV.i IntKind.u64 0, AV.i IntKind.u64 0, AV.i IntKind.u64 0, AV.i IntKind.u64 0, AV.i IntKind.u64 0, AV.i IntKind.u64 0, AV.i IntKind.u64 0, AV.i IntKind.u64 0, AV.i IntKind.u64 0] := by kernel_rfl
@[go_sem] theorem u8162 : u8T Tryz.prog 162 = false := by kernel_rfl
@[go_sem] theorem el162 : elT Tryz.prog 162 = none := by kernel_rfl
@[go_sem] theorem ar162 : arT Tryz.prog 162 = some (20, 1) := by kernel_rfl
@[go_sem] theorem pl162 : plT Tryz.prog 162 = some (Sum.inr 1) := by kernel_rfl
@[go_sem] theorem un163 : Program.underlying Tryz.prog 163 = some (TypeDesc.array 65 5) := by kernel_rfl
@[go_sem] theorem sf163 : selfT Tryz.prog 163 = false := by kernel_rfl
@[go_sem] theorem sz163 : szT Tryz.prog 163 = some 65 := by kernel_rfl
@[go_sem] theorem ag163 : aggT Tryz.prog 163 = some true := by kernel_rfl
@[go_sem] theorem zr163 : zeroT Tryz.prog 163 = some [AV.i IntKind.u8 0, AV.i IntKind.u8 0, AV.i IntKind.u8 0, AV.i IntKind.u8 0, AV.i IntKind.u8 0, AV.i IntKind.u8 0, AV.i IntKind.u8 0, AV.i IntKind.u8 0, AV.i IntKind.u8 0, AV.i IntKind.u8 0, AV.i IntKind.u8 0, AV.i IntKind.u8 0, AV.i IntKind.u8 0, AV.i IntKind.u8 0, AV.i IntKind.u8 0, AV.i IntKind.u8 0, AV.i IntKind.u8 0, AV.i IntKind.u8 0, AV.i IntKind.u8 0, AV.i IntKind.u8 0, AV.i IntKind.u8 0, AV.i IntKind.u8 0, AV.i IntKind.u8 0, AV.i IntKind.u8 0, AV.i IntKind.u8 0, AV.i IntKind.u8 0, AV.i IntKind.u8 0, AV.i IntKind.u8 0, AV.i IntKind.u8 0, AV.i IntKind.u8 0, AV.i IntKind.u8 0, AV.i IntKind.u8 0, AV.i IntKind.u8 0, AV.i IntKind.u8 0, AV.i IntKind.u8 0, AV.i IntKind.u8 0, AV.i IntKind.u8 0, AV.i IntKind.u8 0, AV.i IntKind.u8 0, AV.i IntKind.u8 0, AV.i IntKind.u8 0, AV.i IntKind.u8 0, AV.i IntKind.u8 0, AV.i IntKind.u8 0, AV.i IntKind.u8 0, AV.i IntKind.u8 0, AV.i IntKind.u8 0, AV.i IntKind.u8 0, AV.i IntKind.u8 0, AV.i IntKind.u8 0, AV.i IntKind.u8 0, AV.i IntKind.u8 0, AV.i IntKind.u8 0, AV.i IntKind.u8 0, AV.i IntKind.u8 0, AV.i IntKind.u8 0, AV.i IntKind.u8 0, AV.i IntKind.u8 0, AV.i IntKind.u8 0, AV.i IntKind.u8 0, AV.i IntKind.u8 0, AV.i IntKind.u8 0, AV.i IntKind.u8 0, AV.i IntKind.u8 0, AV.i IntKind.u8 0] := by kernel_rfl
@[go_sem] theorem u8163 : u8T Tryz.prog 163 = false := by kernel_rfl
@[go_sem] theorem el163 : elT Tryz.prog 163 = none := by kernel_rfl
@[go_sem] theorem ar163 : arT Tryz.prog 163 = some (65, 1) := by kernel_rfl
@[go_sem] theorem pl163 : plT Tryz.prog 163 = some (Sum.inr 1) := by kernel_rfl
@[go_sem] theorem sf164 : selfT Tryz.prog 164 = false := by kernel_rfl
@[go_sem] theorem sz164 : szT Tryz.prog 164 = some 1 := by kernel_rfl
@[go_sem] theorem ag164 : aggT Tryz.prog 164 = some false := by kernel_rfl
@[go_sem] theorem zr164 : zeroT Tryz.prog 164 = some [AV.nf] := by kernel_rfl
@[go_sem] theorem u8164 : u8T Tryz.prog 164 = false := by kernel_rfl
@[go_sem] theorem un165 : Program.underlying Tryz.prog 165 = some (TypeDesc.pointer 155) := by kernel_rfl
@[go_sem] theorem sf165 : selfT Tryz.prog 165 = false := by kernel_rfl
@[go_sem] theorem sz165 : szT Tryz.prog 165 = some 1 := by kernel_rfl
@[go_sem] theorem ag165 : aggT Tryz.prog 165 = some false := by kernel_rfl
@[go_sem] theorem zr165 : zeroT Tryz.prog 165 = some [AV.np] := by kernel_rfl
@[go_sem] theorem u8165 : u8T Tryz.prog 165 = false := by kernel_rfl
@[go_sem] theorem pt165 : ptrT Tryz.prog 165 = true := by kernel_rfl
@[go_sem] theorem un166 : Program.underlying Tryz.prog 166 = some (TypeDesc.pointer 158) := by kernel_rfl
@[go_sem] theorem sf166 : selfT Tryz.prog 166 = false := by kernel_rfl
@[go_sem] theorem sz166 : szT Tryz.prog 166 = some 1 := by kernel_rfl
@[go_sem] theorem ag166 : aggT Tryz.prog 166 = some false := by kernel_rfl
@[go_sem] theorem zr166 : zeroT Tryz.prog 166 = some [AV.np] := by kernel_rfl
@[go_sem] theorem u8166 : u8T Tryz.prog 166 = false := by kernel_rfl
@[go_sem] theorem pt166 : ptrT Tryz.prog 166 = true := by kernel_rfl
@[go_sem] theorem sf167 : selfT Tryz.prog 167 = false := by kernel_rfl
@[go_sem] theorem sz167 : szT Tryz.prog 167 = some 1 := by kernel_rfl
@[go_sem] theorem ag167 : aggT Tryz.prog 167 = some false := by kernel_rfl
@[go_sem] theorem zr167 : zeroT Tryz.prog 167 = some [AV.nf] := by kernel_rfl
@[go_sem] theorem u8167 : u8T Tryz.prog 167 = false := by kernel_rfl
@[go_sem] theorem sf168 : selfT Tryz.prog 168 = false := by kernel_rfl
@[go_sem] theorem sz168 : szT Tryz.prog 168 = some 2 := by kernel_rfl
@[go_sem] theorem ag168 : aggT Tryz.prog 168 = some true := by kernel_rfl
@[go_sem] theorem zr168 : zeroT Tryz.prog 168 = some [AV.i IntKind.u8 0, AV.i IntKind.u8 0] := by kernel_rfl
@[go_sem] theorem u8168 : u8T Tryz.prog 168 = false := by kernel_rfl
@[go_sem] theorem if168 : ifcT Tryz.prog 168 = false := by kernel_rfl
@[go_sem] theorem pl168 : plT Tryz.prog 168 = some (Sum.inl [(0, 1), (1, 1)]) := by kernel_rfl
@[go_sem] theorem eq168 : eqL Tryz.prog 168 = some [(0, 1), (1, 1)] := by kernel_rfl
@[go_sem] theorem fd168_0 : fldT Tryz.prog 168 0 = some (0, 5) := by kernel_rfl
@[go_sem] theorem fd168_1 : fldT Tryz.prog 168 1 = some (1, 5) := by kernel_rfl
@[go_sem] theorem sf169 : selfT Tryz.prog 169 = false := by kernel_rfl
@[go_sem] theorem sz169 : szT Tryz.prog 169 = some 2 := by kernel_rfl
@[go_sem] theorem ag169 : aggT Tryz.prog 169 = some true := by kernel_rfl
@[go_sem] theorem zr169 : zeroT Tryz.prog 169 = some [AV.i IntKind.u8 0, AV.i IntKind.u8 0] := by kernel_rfl
@[go_sem] theorem u8169 : u8T Tryz.prog 169 = false := by kernel_rfl
@[go_sem] theorem if169 : ifcT Tryz.prog 169 = false := by kernel_rfl
@[go_sem] theorem pl169 : plT Tryz.prog 169 = some (Sum.inl [(0, 1), (1, 1)]) := by kernel_rfl
@[go_sem] theorem eq169 : eqL Tryz.prog 169 = some [(0, 1), (1, 1)] := by kernel_rfl
@[go_sem] theorem fd169_0 : fldT Tryz.prog 169 0 = some (0, 5) := by kernel_rfl
@[go_sem] theorem fd169_1 : fldT Tryz.prog 169 1 = some (1, 5) := by kernel_rfl
@[go_sem] theorem un170 : Program.underlying Tryz.prog 170 = some (TypeDesc.array 16 169) := by kernel_rfl
@[go_sem] theorem sf170 : selfT Tryz.prog 170 = false := by kernel_rfl
@[go_sem] theorem sz170 : szT Tryz.prog 170 = some 32 := by kernel_rfl
@[go_sem] theorem ag170 : aggT Tryz.prog 170 = some true := by kernel_rfl
@[go_sem] theorem zr170 : zeroT Tryz.prog 170 = some [AV.i IntKind.u8 0, AV.i IntKind.u8 0, AV.i IntKind.u8 0, AV.i IntKind.u8 0, AV.i IntKind.u8 0, AV.i IntKind.u8 0, AV.i IntKind.u8 0, AV.i IntKind.u8 0, AV.i IntKind.u8 0, AV.i IntKind.u8 0, AV.i IntKind.u8 0, AV.i IntKind.u8 0, AV.i IntKind.u8 0, AV.i IntKind.u8 0, AV.i IntKind.u8 0, AV.i IntKind.u8 0, AV.i IntKind.u8 0, AV.i IntKind.u8 0, AV.i IntKind.u8 0, AV.i IntKind.u8 0, AV.i IntKind.u8 0, AV.i IntKind.u8 0, AV.i IntKind.u8 0, AV.i IntKind.u8 0, AV.i IntKind.u8 0, AV.i IntKind.u8 0, AV.i IntKind.u8 0, AV.i IntKind.u8 0, AV.i IntKind.u8 0, AV.i IntKind.u8 0, AV.i IntKind.u8 0, AV.i IntKind.u8 0] := by kernel_rfl
@[go_sem] theorem u8170 : u8T Tryz.prog 170 = false := by kernel_rfl
@[go_sem] theorem el170 : elT Tryz.prog 170 = none := by kernel_rfl
@[go_sem] theorem ar170 : arT Tryz.prog 170 = some (16, 2) := by kernel_rfl
@[go_sem] theorem pl170 : plT Tryz.prog 170 = some (Sum.inr 2) := by kernel_rfl
@[go_sem] theorem sf171 : selfT Tryz.prog 171 = false := by kernel_rfl
@[go_sem] theorem sz171 : szT Tryz.prog 171 = some 1 := by kernel_rfl
@[go_sem] theorem ag171 : aggT Tryz.prog 171 = some false := by kernel_rfl
@[go_sem] theorem u8171 : u8T Tryz.prog 171 = false := by kernel_rfl
@[go_sem] theorem sf172 : selfT Tryz.prog 172 = false := by kernel_rfl
@[go_sem] theorem sz172 : szT Tryz.prog 172 = some 1 := by kernel_rfl
@[go_sem] theorem ag172 : aggT Tryz.prog 172 = some false := by kernel_rfl
@[go_sem] theorem zr172 : zeroT Tryz.prog 172 = some [AV.nf] := by kernel_rfl
@[go_sem] theorem u8172 : u8T Tryz.prog 172 = false := by kernel_rfl
@[go_sem] theorem sf173 : selfT Tryz.prog 173 = false := by kernel_rfl
@[go_sem] theorem sz173 : szT Tryz.prog 173 = some 1 := by kernel_rfl
@[go_sem] theorem ag173 : aggT Tryz.prog 173 = some false := by kernel_rfl
@[go_sem] theorem zr173 : zeroT Tryz.prog 173 = some [AV.nf] := by kernel_rfl
@[go_sem] theorem u8173 : u8T Tryz.prog 173 = false := by kernel_rfl
@[go_sem] theorem sf174 : selfT Tryz.prog 174 = false := by kernel_rfl
@[go_sem] theorem sz174 : szT Tryz.prog 174 = some 1 := by kernel_rfl
@[go_sem] theorem ag174 : aggT Tryz.prog 174 = some false := by kernel_rfl
@[go_sem] theorem zr174 : zeroT Tryz.prog 174 = some [AV.nf] := by kernel_rfl
@[go_sem] theorem u8174 : u8T Tryz.prog 174 = false := by kernel_rfl
@[go_sem] theorem un175 : Program.underlying Tryz.prog 175 = some (TypeDesc.int IntKind.i64) := by kernel_rfl
@[go_sem] theorem sf175 : selfT Tryz.prog 175 = false := by kernel_rfl
@[go_sem] theorem sz175 : szT Tryz.prog 175 = some 1 := by kernel_rfl
@[go_sem] theorem ag175 : aggT Tryz.prog 175 = some false := by kernel_rfl
@[go_sem] theorem zr175 : zeroT Tryz.prog 175 = some [AV.i IntKind.i64 0] := by kernel_rfl
@[go_sem] theorem u8175 : u8T Tryz.prog 175 = false := by kernel_rfl
@[go_sem] theorem sf176 : selfT Tryz.prog 176 = false := by kernel_rfl
@[go_sem] theorem sz176 : szT Tryz.prog 176 = some 1 := by kernel_rfl
@[go_sem] theorem ag176 : aggT Tryz.prog 176 = some false := by kernel_rfl
@[go_sem] theorem u8176 : u8T Tryz.prog 176 = false := by kernel_rfl
@[go_sem] theorem sf177 : selfT Tryz.prog 177 = false := by kernel_rfl
@[go_sem] theorem sz177 : szT Tryz.prog 177 = some 1 := by kernel_rfl
@[go_sem] theorem ag177 : aggT Tryz.prog 177 = some false := by kernel_rfl
@[go_sem] theorem zr177 : zeroT Tryz.prog 177 = some [AV.nf] := by kernel_rfl
@[go_sem] theorem u8177 : u8T Tryz.prog 177 = false := by kernel_rfl
@[go_sem] theorem un178 : Program.underlying Tryz.prog 178 = some (TypeDesc.pointer 187) := by kernel_rfl
@[go_sem] theorem sf178 : selfT Tryz.prog 178 = false := by kernel_rfl
@[go_sem] theorem sz178 : szT Tryz.prog 178 = some 1 := by kernel_rfl
@[go_sem] theorem ag178 : aggT Tryz.prog 178 = some false := by kernel_rfl
@[go_sem] theorem zr178 : zeroT Tryz.prog 178 = some [AV.np] := by kernel_rfl
@[go_sem] theorem u8178 : u8T Tryz.prog 178 = false := by kernel_rfl
@[go_sem] theorem pt178 : ptrT Tryz.prog 178 = true := by kernel_rfl
@[go_sem] theorem sf179 : selfT Tryz.prog 179 = false := by kernel_rfl
@[go_sem] theorem sz179 : szT Tryz.prog 179 = some 1 := by kernel_rfl
@[go_sem] theorem ag179 : aggT Tryz.prog 179 = some false := by kernel_rfl
@[go_sem] theorem zr179 : zeroT Tryz.prog 179 = some [AV.nf] := by kernel_rfl
@[go_sem] theorem u8179 : u8T Tryz.prog 179 = false := by kernel_rfl
@[go_sem] theorem sf180 : selfT Tryz.prog 180 = false := by kernel_rfl
@[go_sem] theorem sz180 : szT Tryz.prog 180 = some 1 := by kernel_rfl
@[go_sem] theorem ag180 : aggT Tryz.prog 180 = some false := by kernel_rfl
@[go_sem] theorem zr180 : zeroT Tryz.prog 180 = some [AV.nf] := by kernel_rfl
@[go_sem] theorem u8180 : u8T Tryz.prog 180 = false := by kernel_rfl
@[go_sem] theorem un181 : Program.underlying Tryz.prog 181 = some (TypeDesc.array 32 5) := by kernel_rfl
@[go_sem] theorem sf181 : selfT Tryz.prog 181 = false := by kernel_rfl
@[go_sem] theorem sz181 : szT Tryz.prog 181 = some 32 := by kernel_rfl
@[go_sem] theorem ag181 : aggT Tryz.prog 181 = some true := by kernel_rfl
@[go_sem] theorem zr181 : zeroT Tryz.prog 181 = some [AV.i IntKind.u8 0, AV.i IntKind.u8 0, AV.i IntKind.u8 0, AV.i IntKind.u8 0, AV.i IntKind.u8 0, AV.i IntKind.u8 0, AV.i IntKind.u8 0, AV.i IntKind.u8 0, AV.i IntKind.u8 0, AV.i IntKind.u8 0, AV.i IntKind.u8 0, AV.i IntKind.u8 0, AV.i IntKind.u8 0, AV.i IntKind.u8 0, AV.i IntKind.u8 0, AV.i IntKind.u8 0, AV.i IntKind.u8 0, AV.i IntKind.u8 0, AV.i IntKind.u8 0, AV.i IntKind.u8 0, AV.i IntKind.u8 0, AV.i IntKind.u8 0, AV.i IntKind.u8 0, AV.i IntKind.u8 0, AV.i IntKind.u8 0, AV.i IntKind.u8 0, AV.i IntKind.u8 0, AV.i IntKind.u8 0, AV.i IntKind.u8 0, AV.i IntKind.u8 0, AV.i IntKind.u8 0, AV.i IntKind.u8 0] := by kernel_rfl
@[go_sem] theorem u8181 : u8T Tryz.prog 181 = false := by kernel_rfl
@[go_sem] theorem el181 : elT Tryz.prog 181 = none := by kernel_rfl
@[go_sem] theorem ar181 : arT Tryz.prog 181 = some (32, 1) := by kernel_rfl
@[go_sem] theorem pl181 : plT Tryz.prog 181 = some (Sum.inr 1) := by kernel_rfl
@[go_sem] theorem un182 : Program.underlying Tryz.prog 182 = some (TypeDesc.array 64 5) := by kernel_rfl
@[go_sem] theorem sf182 : selfT Tryz.prog 182 = false := by kernel_rfl
@[go_sem] theorem sz182 : szT Tryz.prog 182 = some 64 := by kernel_rfl
@[go_sem] theorem ag182 : aggT Tryz.prog 182 = some true := by kernel_rfl
@[go_sem] theorem zr182 : zeroT Tryz.prog 182 = some [AV.i IntKind.u8 0, AV.i IntKind.u8 0, AV.i IntKind.u8 0, AV.i IntKind.u8 0, AV.i IntKind.u8 0, AV.i IntKind.u8 0, AV.i IntKind.u8 0, AV.i IntKind.u8 0, AV.i IntKind.u8 0, AV.i IntKind.u8 0, AV.i IntKind.u8 0, AV.i IntKind.u8 0, AV.i IntKind.u8 0, AV.i IntKind.u8 0, AV.i IntKind.u8 0, AV.i IntKind.u8 0, AV.i IntKind.u8 0, AV.i IntKind.u8 0, AV.i IntKind.u8 0, AV.i IntKind.u8 0, AV.i IntKind.u8 0, AV.i IntKind.u8 0, AV.i IntKind.u8 0, AV.i IntKind.u8 0, AV.i IntKind.u8 0, AV.i IntKind.u8 0, AV.i IntKind.u8 0, AV.i IntKind.u8 0, AV.i IntKind.u8 0, AV.i IntKind.u8 0, AV.i IntKind.u8 0, AV.i IntKind.u8 0, AV.i IntKind.u8 0, AV.i IntKind.u8 0, AV.i IntKind.u8 0, AV.i IntKind.u8 0, AV.i IntKind.u8 0, AV.i IntKind.u8 0, AV.i IntKind.u8 0, AV.i IntKind.u8 0, AV.i IntKind.u8 0, AV.i IntKind.u8 0, AV.i IntKind.u8 0, AV.i IntKind.u8 0, AV.i IntKind.u8 0, AV.i IntKind.u8 0, AV.i IntKind.u8 0, AV.i IntKind.u8 0, AV.i IntKind.u8 0, AV.i IntKind.u8 0, AV.i IntKind.u8 0, AV.i IntKind.u8 0, AV.i IntKind.u8 0, AV.i IntKind.u8 0, AV.i IntKind.u8 0, AV.i IntKind.u8 0, AV.i IntKind.u8 0, AV.i IntKind.u8 0, AV.i IntKind.u8 0, AV.i IntKind.u8 0, AV.i IntKind.u8 0, AV.i IntKind.u8 0, AV.i IntKind.u8 0, AV.i IntKind.u8 0] := by kernel_rfl
@[go_sem] theorem u8182 : u8T Tryz.prog 182 = false := by kernel_rfl
@[go_sem] theorem el182 : elT Tryz.prog 182 = none := by kernel_rfl
@[go_sem] theorem ar182 : arT Tryz.prog 182 = some (64, 1) := by kernel_rfl
@[go_sem] theorem pl182 : plT Tryz.prog 182 = some (Sum.inr 1) := by kernel_rfl
@[go_sem] theorem sf183 : selfT Tryz.prog 183 = false := by kernel_rfl
@[go_sem] theorem sz183 : szT Tryz.prog 183 = some 1 := by kernel_rfl
@[go_sem] theorem ag183 : aggT Tryz.prog 183 = some false := by kernel_rfl
@[go_sem] theorem u8183 : u8T Tryz.prog 183 = false := by kernel_rfl
@[go_sem] theorem sf184 : selfT Tryz.prog 184 = false := by kernel_rfl
@[go_sem] theorem sz184 : szT Tryz.prog 184 = some 1 := by kernel_rfl
@[go_sem] theorem ag184 : aggT Tryz.prog 184 = some false := by kernel_rfl
@[go_sem] theorem zr184 : zeroT Tryz.prog 184 = some [AV.nf] := by kernel_rfl
@[go_sem] theorem u8184 : u8T Tryz.prog 184 = false := by kernel_rfl
@[go_sem] theorem sf185 : selfT Tryz.prog 185 = false := by kernel_rfl
@[go_sem] theorem sz185 : szT Tryz.prog 185 = some 1 := by kernel_rfl
@[go_sem] theorem ag185 : aggT Tryz.prog 185 = some false := by kernel_rfl
@[go_sem] theorem zr185 : zeroT Tryz.prog 185 = some [AV.nf] := by kernel_rfl
@[go_sem] theorem u8185 : u8T Tryz.prog 185 = false := by kernel_rfl
@[go_sem] theorem sf186 : selfT Tryz.prog 186 = false := by kernel_rfl
@[go_sem] theorem sz186 : szT Tryz.prog 186 = some 3 := by kernel_rfl
@[go_sem] theorem ag186 : aggT Tryz.prog 186 = some true := by kernel_rfl
@[go_sem] theorem zr186 : zeroT Tryz.prog 186 = some [AV.s [], AV.s [], AV.ni] := by kernel_rfl
@[go_sem] theorem u8186 : u8T Tryz.prog 186 = false := by kernel_rfl
@[go_sem] theorem if186 : ifcT Tryz.prog 186 = false := by kernel_rfl
@[go_sem] theorem pl186 : plT Tryz.prog 186 = some (Sum.inl [(0, 1), (1, 1), (2, 1)]) := by kernel_rfl
@[go_sem] theorem fd186_0 : fldT Tryz.prog 186 0 = some (0, 9) := by kernel_rfl
@[go_sem] theorem fd186_1 : fldT Tryz.prog 186 1 = some (1, 9) := by kernel_rfl
@[go_sem] theorem fd186_2 : fldT Tryz.prog 186 2 = some (2, 81) := by kernel_rfl
@[go_sem] theorem sf187 : selfT Tryz.prog 187 = false := by kernel_rfl
@[go_sem] theorem sz187 : szT Tryz.prog 187 = some 3 := by kernel_rfl
@[go_sem] theorem ag187 : aggT Tryz.prog 187 = some true := by kernel_rfl
@[go_sem] theorem zr187 : zeroT Tryz.prog 187 = some [AV.s [], AV.s [], AV.ni] := by kernel_rfl
@[go_sem] theorem u8187 : u8T Tryz.prog 187 = false := by kernel_rfl
@[go_sem] theorem if187 : ifcT Tryz.prog 187 = false := by kernel_rfl
@[go_sem] theorem pl187 : plT Tryz.prog 187 = some (Sum.inl [(0, 1), (1, 1), (2, 1)]) := by kernel_rfl
@[go_sem] theorem fd187_0 : fldT Tryz.prog 187 0 = some (0, 9) := by kernel_rfl
@[go_sem] theorem fd187_1 : fldT Tryz.prog 187 1 = some (1, 9) := by kernel_rfl
@[go_sem] theorem fd187_2 : fldT Tryz.prog 187 2 = some (2, 81) := by kernel_rfl
@[go_sem] theorem sf188 : selfT Tryz.prog 188 = false := by kernel_rfl
@[go_sem] theorem sz188 : szT Tryz.prog 188 = some 1 := by kernel_rfl
@[go_sem] theorem ag188 : aggT Tryz.prog 188 = some false := by kernel_rfl
@[go_sem] theorem zr188 : zeroT Tryz.prog 188 = some [AV.nf] := by kernel_rfl
@[go_sem] theorem u8188 : u8T Tryz.prog 188 = false := by kernel_rfl
@[go_sem] theorem sf189 : selfT Tryz.prog 189 = false := by kernel_rfl
@[go_sem] theorem sz189 : szT Tryz.prog 189 = some 1 := by kernel_rfl
@[go_sem] theorem ag189 : aggT Tryz.prog 189 = some false := by kernel_rfl
@[go_sem] theorem zr189 : zeroT Tryz.prog 189 = some [AV.nf] := by kernel_rfl
@[go_sem] theorem u8189 : u8T Tryz.prog 189 = false := by kernel_rfl
@[go_sem] theorem un190 : Program.underlying Tryz.prog 190 = some (TypeDesc.pointer 192) := by kernel_rfl
@[go_sem] theorem sf190 : selfT Tryz.prog 190 = false := by kernel_rfl
@[go_sem] theorem sz190 : szT Tryz.prog 190 = some 1 := by kernel_rfl
@[go_sem] theorem ag190 : aggT Tryz.prog 190 = some false := by kernel_rfl
@[go_sem] theorem zr190 : zeroT Tryz.prog 190 = some [AV.np] := by kernel_rfl
@[go_sem] theorem u8190 : u8T Tryz.prog 190 = false := by kernel_rfl
@[go_sem] theorem pt190 : ptrT Tryz.prog 190 = true := by kernel_rfl
@[go_sem] theorem sf191 : selfT Tryz.prog 191 = false := by kernel_rfl
@[go_sem] theorem sz191 : szT Tryz.prog 191 = some 1 := by kernel_rfl
@[go_sem] theorem ag191 : aggT Tryz.prog 191 = some true := by kernel_rfl
@[go_sem] theorem zr191 : zeroT Tryz.prog 191 = some [AV.s []] := by kernel_rfl
@[go_sem] theorem u8191 : u8T Tryz.prog 191 = false := by kernel_rfl
@[go_sem] theorem if191 : ifcT Tryz.prog 191 = false := by kernel_rfl
@[go_sem] theorem pl191 : plT Tryz.prog 191 = some (Sum.inl [(0, 1)]) := by kernel_rfl
@[go_sem] theorem eq191 : eqL Tryz.prog 191 = some [(0, 2)] := by kernel_rfl
@[go_sem] theorem fd191_0 : fldT Tryz.prog 191 0 = some (0, 9) := by kernel_rfl
@[go_sem] theorem sf192 : selfT Tryz.prog 192 = false := by kernel_rfl
@[go_sem] theorem sz192 : szT Tryz.prog 192 = some 1 := by kernel_rfl
@[go_sem] theorem ag192 : aggT Tryz.prog 192 = some true := by kernel_rfl
@[go_sem] theorem zr192 : zeroT Tryz.prog 192 = some [AV.s []] := by kernel_rfl
@[go_sem] theorem u8192 : u8T Tryz.prog 192 = false := by kernel_rfl
@[go_sem] theorem if192 : ifcT Tryz.prog 192 = false := by kernel_rfl
@[go_sem] theorem pl192 : plT Tryz.prog 192 = some (Sum.inl [(0, 1)]) := by kernel_rfl
@[go_sem] theorem eq192 : eqL Tryz.prog 192 = some [(0, 2)] := by kernel_rfl
@[go_sem] theorem fd192_0 : fldT Tryz.prog 192 0 = some (0, 9) := by kernel_rfl
@[go_sem] theorem sf193 : selfT Tryz.prog 193 = false := by kernel_rfl
@[go_sem] theorem sz193 : szT Tryz.prog 193 = some 4 := by kernel_rfl
@[go_sem] theorem ag193 : aggT Tryz.prog 193 = some true := by kernel_rfl
@[go_sem] theorem zr193 : zeroT Tryz.prog 193 = some [AV.np, AV.np, AV.np, AV.s []] := by kernel_rfl
@[go_sem] theorem u8193 : u8T Tryz.prog 193 = false := by kernel_rfl
@[go_sem] theorem if193 : ifcT Tryz.prog 193 = false := by kernel_rfl
@[go_sem] theorem pl193 : plT Tryz.prog 193 = some (Sum.inl [(0, 1), (1, 1), (2, 1), (3, 1)]) := by kernel_rfl
@[go_sem] theorem fd193_0 : fldT Tryz.prog 193 0 = some (0, 17) := by kernel_rfl
@[go_sem] theorem fd193_1 : fldT Tryz.prog 193 1 = some (1, 17) := by kernel_rfl
@[go_sem] theorem fd193_2 : fldT Tryz.prog 193 2 = some (2, 17) := by kernel_rfl
@[go_sem] theorem fd193_3 : fldT Tryz.prog 193 3 = some (3, 9) := by kernel_rfl
@[go_sem] theorem sf194 : selfT Tryz.prog 194 = false := by kernel_rfl
@[go_sem] theorem sz194 : szT Tryz.prog 194 = some 4 := by kernel_rfl
@[go_sem] theorem ag194 : aggT Tryz.prog 194 = some true := by kernel_rfl
@[go_sem] theorem zr194 : zeroT Tryz.prog 194 = some [AV.np, AV.np, AV.np, AV.s []] := by kernel_rfl
@[go_sem] theorem u8194 : u8T Tryz.prog 194 = false := by kernel_rfl
@[go_sem] theorem if194 : ifcT Tryz.prog 194 = false := by kernel_rfl
@[go_sem] theorem pl194 : plT Tryz.prog 194 = some (Sum.inl [(0, 1), (1, 1), (2, 1), (3, 1)]) := by kernel_rfl
@[go_sem] theorem fd194_0 : fldT Tryz.prog 194 0 = some (0, 17) := by kernel_rfl
@[go_sem] theorem fd194_1 : fldT Tryz.prog 194 1 = some (1, 17) := by kernel_rfl
@[go_sem] theorem fd194_2 : fldT Tryz.prog 194 2 = some (2, 17) := by kernel_rfl
@[go_sem] theorem fd194_3 : fldT Tryz.prog 194 3 = some (3, 9) := by kernel_rfl
@[go_sem] theorem un195 : Program.underlying Tryz.prog 195 = some (TypeDesc.array 0 16) := by kernel_rfl
@[go_sem] theorem sf195 : selfT Tryz.prog 195 = false := by kernel_rfl
@[go_sem] theorem sz195 : szT Tryz.prog 195 = some 0 := by kernel_rfl
@[go_sem] theorem ag195 : aggT Tryz.prog 195 = some true := by kernel_rfl
@[go_sem] theorem zr195 : zeroT Tryz.prog 195 = some [] := by kernel_rfl
@[go_sem] theorem u8195 : u8T Tryz.prog 195 = false := by kernel_rfl
@[go_sem] theorem el195 : elT Tryz.prog 195 = none := by kernel_rfl
@[go_sem] theorem ar195 : arT Tryz.prog 195 = some (0, 1) := by kernel_rfl
@[go_sem] theorem pl195 : plT Tryz.prog 195 = some (Sum.inr 1) := by kernel_rfl
@[go_sem] theorem sf196 : selfT Tryz.prog 196 = false := by kernel_rfl
@[go_sem] theorem sz196 : szT Tryz.prog 196 = some 0 := by kernel_rfl
@[go_sem] theorem ag196 : aggT Tryz.prog 196 = some true := by kernel_rfl
@[go_sem] theorem zr196 : zeroT Tryz.prog 196 = some [] := by kernel_rfl
@[go_sem] theorem u8196 : u8T Tryz.prog 196 = false := by kernel_rfl
@[go_sem] theorem if196 : ifcT Tryz.prog 196 = false := by kernel_rfl
@[go_sem] theorem pl196 : plT Tryz.prog 196 = some (Sum.inl [(0, 0)]) := by kernel_rfl
@[go_sem] theorem sf197 : selfT Tryz.prog 197 = false := by kernel_rfl
@[go_sem] theorem sz197 : szT Tryz.prog 197 = some 0 := by kernel_rfl
@[go_sem] theorem ag197 : aggT Tryz.prog 197 = some true := by kernel_rfl
@[go_sem] theorem zr197 : zeroT Tryz.prog 197 = some [] := by kernel_rfl
@[go_sem] theorem u8197 : u8T Tryz.prog 197 = false := by kernel_rfl
@[go_sem] theorem if197 : ifcT Tryz.prog 197 = false := by kernel_rfl
@[go_sem] theorem pl197 : plT Tryz.prog 197 = some (Sum.inl [(0, 0)]) := by kernel_rfl
@[go_sem] theorem un198 : Program.underlying Tryz.prog 198 = some (TypeDesc.int IntKind.u8) := by kernel_rfl
@[go_sem] theorem sf198 : selfT Tryz.prog 198 = false := by kernel_rfl
@[go_sem] theorem sz198 : szT Tryz.prog 198 = some 1 := by kernel_rfl
@[go_sem] theorem ag198 : aggT Tryz.prog 198 = some false := by kernel_rfl
@[go_sem] theorem zr198 : zeroT Tryz.prog 198 = some [AV.i IntKind.u8 0] := by kernel_rfl
@[go_sem] theorem u8198 : u8T Tryz.prog 198 = true := by kernel_rfl
@[go_sem] theorem un199 : Program.underlying Tryz.prog 199 = some (TypeDesc.int IntKind.u8) := by kernel_rfl
@[go_sem] theorem sf199 : selfT Tryz.prog 199 = false := by kernel_rfl
@[go_sem] theorem sz199 : szT Tryz.prog 199 = some 1 := by kernel_rfl
@[go_sem] theorem ag199 : aggT Tryz.prog 199 = some false := by kernel_rfl
@[go_sem] theorem zr199 : zeroT Tryz.prog 199 = some [AV.i IntKind.u8 0] := by kernel_rfl
@[go_sem] theorem u8199 : u8T Tryz.prog 199 = true := by kernel_rfl
@[go_sem] theorem sf200 : selfT Tryz.prog 200 = false := by kernel_rfl
@[go_sem] theorem sz200 : szT Tryz.prog 200 = some 1 := by kernel_rfl
@[go_sem] theorem ag200 : aggT Tryz.prog 200 = some false := by kernel_rfl
@[go_sem] theorem zr200 : zeroT Tryz.prog 200 = some [AV.nf] := by kernel_rfl
@[go_sem] theorem u8200 : u8T Tryz.prog 200 = false := by kernel_rfl
@[go_sem] theorem un201 : Program.underlying Tryz.prog 201 = some (TypeDesc.int IntKind.i32) := by kernel_rfl
@[go_sem] theorem sf201 : selfT Tryz.prog 201 = false := by kernel_rfl
@[go_sem] theorem sz201 : szT Tryz.prog 201 = some 1 := by kernel_rfl
@[go_sem] theorem ag201 : aggT Tryz.prog 201 = some false := by kernel_rfl
@[go_sem] theorem zr201 : zeroT Tryz.prog 201 = some [AV.i IntKind.i32 0] := by kernel_rfl
@[go_sem] theorem u8201 : u8T Tryz.prog 201 = false := by kernel_rfl
@[go_sem] theorem un202 : Program.underlying Tryz.prog 202 = some (TypeDesc.int IntKind.i32) := by kernel_rfl
@[go_sem] theorem sf202 : selfT Tryz.prog 202 = false := by kernel_rfl
@[go_sem] theorem sz202 : szT Tryz.prog 202 = some 1 := by kernel_rfl
@[go_sem] theorem ag202 : aggT Tryz.prog 202 = some false := by kernel_rfl
@[go_sem] theorem zr202 : zeroT Tryz.prog 202 = some [AV.i IntKind.i32 0] := by kernel_rfl
@[go_sem] theorem u8202 : u8T Tryz.prog 202 = false := by kernel_rfl
@[go_sem] theorem sf203 : selfT Tryz.prog 203 = false := by kernel_rfl
@[go_sem] theorem sz203 : szT Tryz.prog 203 = some 11 := by kernel_rfl
@[go_sem] theorem ag203 : aggT Tryz.prog 203 = some true := by kernel_rfl
@[go_sem] theorem zr203 : zeroT Tryz.prog 203 = some [AV.i IntKind.u64 0, AV.i IntKind.u64 0, AV.i IntKind.u32 0, AV.i IntKind.u8 0, AV.i IntKind.u8 0, AV.i IntKind.u8 0, AV.i IntKind.u8 0, AV.nf, AV.np, AV.i IntKind.i32 0, AV.i IntKind.i32 0] := by kernel_rfl
@[go_sem] theorem u8203 : u8T Tryz.prog 203 = false := by kernel_rfl
@[go_sem] theorem if203 : ifcT Tryz.prog 203 = false := by kernel_rfl
@[go_sem] theorem pl203 : plT Tryz.prog 203 = some (Sum.inl [(0, 1), (1, 1), (2, 1), (3, 1), (4, 1), (5, 1), (6, 1), (7, 1), (8, 1), (9, 1), (10, 1)]) := by kernel_rfl
@[go_sem] theorem fd203_0 : fldT Tryz.prog 203 0 = some (0, 12) := by kernel_rfl
@[go_sem] theorem fd203_1 : fldT Tryz.prog 203 1 = some (1, 12) := by kernel_rfl
@[go_sem] theorem fd203_2 : fldT Tryz.prog 203 2 = some (2, 129) := by kernel_rfl
@[go_sem] theorem fd203_3 : fldT Tryz.prog 203 3 = some (3, 198) := by kernel_rfl
@[go_sem] theorem fd203_4 : fldT Tryz.prog 203 4 = some (4, 5) := by kernel_rfl
@[go_sem] theorem fd203_5 : fldT Tryz.prog 203 5 = some (5, 5) := by kernel_rfl
@[go_sem] theorem fd203_6 : fldT Tryz.prog 203 6 = some (6, 199) := by kernel_rfl
@[go_sem] theorem fd203_7 : fldT Tryz.prog 203 7 = some (7, 200) := by kernel_rfl
@[go_sem] theorem fd203_8 : fldT Tryz.prog 203 8 = some (8, 105) := by kernel_rfl
@[go_sem] theorem fd203_9 : fldT Tryz.prog 203 9 = some (9, 201) := by kernel_rfl
@[go_sem] theorem fd203_10 : fldT Tryz.prog 203 10 = some (10, 202) := by kernel_rfl
@[go_sem] theorem sf204 : selfT Tryz.prog 204 = false := by kernel_rfl
@[go_sem] theorem sz204 : szT Tryz.prog 204 = some 11 := by kernel_rfl
@[go_sem] theorem ag204 : aggT Tryz.prog 204 = some true := by kernel_rfl
@[go_sem] theorem zr204 : zeroT Tryz.prog 204 = some [AV.i IntKind.u64 0, AV.i IntKind.u64 0, AV.i IntKind.u32 0, AV.i IntKind.u8 0, AV.i IntKind.u8 0, AV.i IntKind.u8 0, AV.i IntKind.u8 0, AV.nf, AV.np, AV.i IntKind.i32 0, AV.i IntKind.i32 0] := by kernel_rfl
@[go_sem] theorem u8204 : u8T Tryz.prog 204 = false := by kernel_rfl
@[go_sem] theorem if204 : ifcT Tryz.prog 204 = false := by kernel_rfl
@[go_sem] theorem pl204 : plT Tryz.prog 204 = some (Sum.inl [(0, 1), (1, 1), (2, 1), (3, 1), (4, 1), (5, 1), (6, 1), (7, 1), (8, 1), (9, 1), (10, 1)]) := by kernel_rfl
@[go_sem] theorem fd204_0 : fldT Tryz.prog 204 0 = some (0, 12) := by kernel_rfl
@[go_sem] theorem fd204_1 : fldT Tryz.prog 204 1 = some (1, 12) := by kernel_rfl
@[go_sem] theorem fd204_2 : fldT Tryz.prog 204 2 = some (2, 129) := by kernel_rfl
@[go_sem] theorem fd204_3 : fldT Tryz.prog 204 3 = some (3, 198) := by kernel_rfl
@[go_sem] theorem fd204_4 : fldT Tryz.prog 204 4 = some (4, 5) := by kernel_rfl
@[go_sem] theorem fd204_5 : fldT Tryz.prog 204 5 = some (5, 5) := by kernel_rfl
@[go_sem] theorem fd204_6 : fldT Tryz.prog 204 6 = some (6, 199) := by kernel_rfl
@[go_sem] theorem fd204_7 : fldT Tryz.prog 204 7 = some (7, 200) := by kernel_rfl
@[go_sem] theorem fd204_8 : fldT Tryz.prog 204 8 = some (8, 105) := by kernel_rfl
@[go_sem] theorem fd204_9 : fldT Tryz.prog 204 9 = some (9, 201) := by kernel_rfl
@[go_sem] theorem fd204_10 : fldT Tryz.prog 204 10 = some (10, 202) := by kernel_rfl
end Go.Proofs.YtdkifonomakcbaaGreatDoorFx
