/- Facts of types, printed by wip/av/facts.py. -/
import Derived.Test.YtkokongbnemkhaaGreatDoorProg
import Derived.Test.YtkokongbnemkhaaGreatDoorMA
set_option linter.unusedVariables false
namespace Go.Proofs.YtkokongbnemkhaaGreatDoorFx
open Go Go.Proofs.YtkokongbnemkhaaGreatDoorA Go.Proofs
@[go_sem] theorem sf0 : selfT Tryz.prog 0 = false := by kernel_rfl
@[go_sem] theorem sz0 : szT Tryz.prog 0 = some 1 := by kernel_rfl
@[go_sem] theorem ag0 : aggT Tryz.prog 0 = some false := by kernel_rfl
@[go_sem] theorem u80 : u8T Tryz.prog 0 = false := by kernel_rfl
@[go_sem] theorem sf1 : selfT Tryz.prog 1 = false := by kernel_rfl
@[go_sem] theorem sz1 : szT Tryz.prog 1 = some 1 := by kernel_rfl
@[go_sem] theorem ag1 : aggT Tryz.prog 1 = some false := by kernel_rfl
@[go_sem] theorem zr1 : zeroT Tryz.prog 1 = some [AV.nf] := by kernel_rfl
@[go_sem] theorem u81 : u8T Tryz.prog 1 = false := by kernel_rfl
@[go_sem] theorem un2 : Program.underlying Tryz.prog 2 = some (TypeDesc.int IntKind.i64) := by kernel_rfl
@[go_sem] theorem sf2 : selfT Tryz.prog 2 = false := by kernel_rfl
@[go_sem] theorem sz2 : szT Tryz.prog 2 = some 1 := by kernel_rfl
@[go_sem] theorem ag2 : aggT Tryz.prog 2 = some false := by kernel_rfl
@[go_sem] theorem zr2 : zeroT Tryz.prog 2 = some [AV.i IntKind.i64 0] := by kernel_rfl
@[go_sem] theorem u82 : u8T Tryz.prog 2 = false := by kernel_rfl
@[go_sem] theorem un3 : Program.underlying Tryz.prog 3 = some (TypeDesc.int IntKind.i64) := by kernel_rfl
@[go_sem] theorem sf3 : selfT Tryz.prog 3 = false := by kernel_rfl
@[go_sem] theorem sz3 : szT Tryz.prog 3 = some 1 := by kernel_rfl
@[go_sem] theorem ag3 : aggT Tryz.prog 3 = some false := by kernel_rfl
@[go_sem] theorem zr3 : zeroT Tryz.prog 3 = some [AV.i IntKind.i64 0] := by kernel_rfl
@[go_sem] theorem u83 : u8T Tryz.prog 3 = false := by kernel_rfl
@[go_sem] theorem un4 : Program.underlying Tryz.prog 4 = some TypeDesc.bool := by kernel_rfl
@[go_sem] theorem sf4 : selfT Tryz.prog 4 = false := by kernel_rfl
@[go_sem] theorem sz4 : szT Tryz.prog 4 = some 1 := by kernel_rfl
@[go_sem] theorem ag4 : aggT Tryz.prog 4 = some false := by kernel_rfl
@[go_sem] theorem zr4 : zeroT Tryz.prog 4 = some [AV.b false] := by kernel_rfl
@[go_sem] theorem u84 : u8T Tryz.prog 4 = false := by kernel_rfl
@[go_sem] theorem un5 : Program.underlying Tryz.prog 5 = some (TypeDesc.int IntKind.u8) := by kernel_rfl
@[go_sem] theorem sf5 : selfT Tryz.prog 5 = false := by kernel_rfl
@[go_sem] theorem sz5 : szT Tryz.prog 5 = some 1 := by kernel_rfl
@[go_sem] theorem ag5 : aggT Tryz.prog 5 = some false := by kernel_rfl
@[go_sem] theorem zr5 : zeroT Tryz.prog 5 = some [AV.i IntKind.u8 0] := by kernel_rfl
@[go_sem] theorem u85 : u8T Tryz.prog 5 = true := by kernel_rfl
@[go_sem] theorem un6 : Program.underlying Tryz.prog 6 = some (TypeDesc.int IntKind.u8) := by kernel_rfl
@[go_sem] theorem sf6 : selfT Tryz.prog 6 = false := by kernel_rfl
@[go_sem] theorem sz6 : szT Tryz.prog 6 = some 1 := by kernel_rfl
@[go_sem] theorem ag6 : aggT Tryz.prog 6 = some false := by kernel_rfl
@[go_sem] theorem zr6 : zeroT Tryz.prog 6 = some [AV.i IntKind.u8 0] := by kernel_rfl
@[go_sem] theorem u86 : u8T Tryz.prog 6 = true := by kernel_rfl
@[go_sem] theorem sf7 : selfT Tryz.prog 7 = false := by kernel_rfl
@[go_sem] theorem sz7 : szT Tryz.prog 7 = some 4 := by kernel_rfl
@[go_sem] theorem ag7 : aggT Tryz.prog 7 = some true := by kernel_rfl
@[go_sem] theorem zr7 : zeroT Tryz.prog 7 = some [AV.i IntKind.i64 0, AV.i IntKind.i64 0, AV.b false, AV.i IntKind.u8 0] := by kernel_rfl
@[go_sem] theorem u87 : u8T Tryz.prog 7 = false := by kernel_rfl
@[go_sem] theorem if7 : ifcT Tryz.prog 7 = false := by kernel_rfl
@[go_sem] theorem pl7 : plT Tryz.prog 7 = some (Sum.inl [(0, 1), (1, 1), (2, 1), (3, 1)]) := by kernel_rfl
@[go_sem] theorem eq7 : eqL Tryz.prog 7 = some [(0, 1), (1, 1), (2, 0), (3, 1)] := by kernel_rfl
@[go_sem] theorem fd7_0 : fldT Tryz.prog 7 0 = some (0, 2) := by kernel_rfl
@[go_sem] theorem fd7_1 : fldT Tryz.prog 7 1 = some (1, 3) := by kernel_rfl
@[go_sem] theorem fd7_2 : fldT Tryz.prog 7 2 = some (2, 4) := by kernel_rfl
@[go_sem] theorem fd7_3 : fldT Tryz.prog 7 3 = some (3, 6) := by kernel_rfl
@[go_sem] theorem sf8 : selfT Tryz.prog 8 = false := by kernel_rfl
@[go_sem] theorem sz8 : szT Tryz.prog 8 = some 4 := by kernel_rfl
@[go_sem] theorem ag8 : aggT Tryz.prog 8 = some true := by kernel_rfl
@[go_sem] theorem zr8 : zeroT Tryz.prog 8 = some [AV.i IntKind.i64 0, AV.i IntKind.i64 0, AV.b false, AV.i IntKind.u8 0] := by kernel_rfl
@[go_sem] theorem u88 : u8T Tryz.prog 8 = false := by kernel_rfl
@[go_sem] theorem if8 : ifcT Tryz.prog 8 = false := by kernel_rfl
@[go_sem] theorem pl8 : plT Tryz.prog 8 = some (Sum.inl [(0, 1), (1, 1), (2, 1), (3, 1)]) := by kernel_rfl
@[go_sem] theorem eq8 : eqL Tryz.prog 8 = some [(0, 1), (1, 1), (2, 0), (3, 1)] := by kernel_rfl
@[go_sem] theorem fd8_0 : fldT Tryz.prog 8 0 = some (0, 2) := by kernel_rfl
@[go_sem] theorem fd8_1 : fldT Tryz.prog 8 1 = some (1, 3) := by kernel_rfl
@[go_sem] theorem fd8_2 : fldT Tryz.prog 8 2 = some (2, 4) := by kernel_rfl
@[go_sem] theorem fd8_3 : fldT Tryz.prog 8 3 = some (3, 6) := by kernel_rfl
@[go_sem] theorem un9 : Program.underlying Tryz.prog 9 = some TypeDesc.string := by kernel_rfl
@[go_sem] theorem sf9 : selfT Tryz.prog 9 = false := by kernel_rfl
@[go_sem] theorem sz9 : szT Tryz.prog 9 = some 1 := by kernel_rfl
@[go_sem] theorem ag9 : aggT Tryz.prog 9 = some false := by kernel_rfl
@[go_sem] theorem zr9 : zeroT Tryz.prog 9 = some [AV.s []] := by kernel_rfl
@[go_sem] theorem u89 : u8T Tryz.prog 9 = false := by kernel_rfl
@[go_sem] theorem un10 : Program.underlying Tryz.prog 10 = some TypeDesc.string := by kernel_rfl
@[go_sem] theorem sf10 : selfT Tryz.prog 10 = false := by kernel_rfl
@[go_sem] theorem sz10 : szT Tryz.prog 10 = some 1 := by kernel_rfl
@[go_sem] theorem ag10 : aggT Tryz.prog 10 = some false := by kernel_rfl
@[go_sem] theorem zr10 : zeroT Tryz.prog 10 = some [AV.s []] := by kernel_rfl
@[go_sem] theorem u810 : u8T Tryz.prog 10 = false := by kernel_rfl
@[go_sem] theorem un11 : Program.underlying Tryz.prog 11 = some TypeDesc.string := by kernel_rfl
@[go_sem] theorem sf11 : selfT Tryz.prog 11 = false := by kernel_rfl
@[go_sem] theorem sz11 : szT Tryz.prog 11 = some 1 := by kernel_rfl
@[go_sem] theorem ag11 : aggT Tryz.prog 11 = some false := by kernel_rfl
@[go_sem] theorem zr11 : zeroT Tryz.prog 11 = some [AV.s []] := by kernel_rfl
@[go_sem] theorem u811 : u8T Tryz.prog 11 = false := by kernel_rfl
@[go_sem] theorem un12 : Program.underlying Tryz.prog 12 = some (TypeDesc.int IntKind.u64) := by kernel_rfl
@[go_sem] theorem sf12 : selfT Tryz.prog 12 = false := by kernel_rfl
@[go_sem] theorem sz12 : szT Tryz.prog 12 = some 1 := by kernel_rfl
@[go_sem] theorem ag12 : aggT Tryz.prog 12 = some false := by kernel_rfl
@[go_sem] theorem zr12 : zeroT Tryz.prog 12 = some [AV.i IntKind.u64 0] := by kernel_rfl
@[go_sem] theorem u812 : u8T Tryz.prog 12 = false := by kernel_rfl
@[go_sem] theorem sf13 : selfT Tryz.prog 13 = false := by kernel_rfl
@[go_sem] theorem sz13 : szT Tryz.prog 13 = some 2 := by kernel_rfl
@[go_sem] theorem ag13 : aggT Tryz.prog 13 = some true := by kernel_rfl
@[go_sem] theorem zr13 : zeroT Tryz.prog 13 = some [AV.s [], AV.i IntKind.u64 0] := by kernel_rfl
@[go_sem] theorem u813 : u8T Tryz.prog 13 = false := by kernel_rfl
@[go_sem] theorem if13 : ifcT Tryz.prog 13 = false := by kernel_rfl
@[go_sem] theorem pl13 : plT Tryz.prog 13 = some (Sum.inl [(0, 1), (1, 1)]) := by kernel_rfl
@[go_sem] theorem fd13_0 : fldT Tryz.prog 13 0 = some (0, 9) := by kernel_rfl
@[go_sem] theorem fd13_1 : fldT Tryz.prog 13 1 = some (1, 12) := by kernel_rfl
@[go_sem] theorem sf14 : selfT Tryz.prog 14 = false := by kernel_rfl
@[go_sem] theorem sz14 : szT Tryz.prog 14 = some 2 := by kernel_rfl
@[go_sem] theorem ag14 : aggT Tryz.prog 14 = some true := by kernel_rfl
@[go_sem] theorem zr14 : zeroT Tryz.prog 14 = some [AV.s [], AV.i IntKind.u64 0] := by kernel_rfl
@[go_sem] theorem u814 : u8T Tryz.prog 14 = false := by kernel_rfl
@[go_sem] theorem if14 : ifcT Tryz.prog 14 = false := by kernel_rfl
@[go_sem] theorem pl14 : plT Tryz.prog 14 = some (Sum.inl [(0, 1), (1, 1)]) := by kernel_rfl
@[go_sem] theorem fd14_0 : fldT Tryz.prog 14 0 = some (0, 9) := by kernel_rfl
@[go_sem] theorem fd14_1 : fldT Tryz.prog 14 1 = some (1, 12) := by kernel_rfl
@[go_sem] theorem un15 : Program.underlying Tryz.prog 15 = some (TypeDesc.pointer 228) := by kernel_rfl
@[go_sem] theorem sf15 : selfT Tryz.prog 15 = false := by kernel_rfl
@[go_sem] theorem sz15 : szT Tryz.prog 15 = some 1 := by kernel_rfl
@[go_sem] theorem ag15 : aggT Tryz.prog 15 = some false := by kernel_rfl
@[go_sem] theorem zr15 : zeroT Tryz.prog 15 = some [AV.np] := by kernel_rfl
@[go_sem] theorem u815 : u8T Tryz.prog 15 = false := by kernel_rfl
@[go_sem] theorem pt15 : ptrT Tryz.prog 15 = true := by kernel_rfl
@[go_sem] theorem un16 : Program.underlying Tryz.prog 16 = some (TypeDesc.pointer 231) := by kernel_rfl
@[go_sem] theorem sf16 : selfT Tryz.prog 16 = false := by kernel_rfl
@[go_sem] theorem sz16 : szT Tryz.prog 16 = some 1 := by kernel_rfl
@[go_sem] theorem ag16 : aggT Tryz.prog 16 = some false := by kernel_rfl
@[go_sem] theorem zr16 : zeroT Tryz.prog 16 = some [AV.np] := by kernel_rfl
@[go_sem] theorem u816 : u8T Tryz.prog 16 = false := by kernel_rfl
@[go_sem] theorem pt16 : ptrT Tryz.prog 16 = true := by kernel_rfl
@[go_sem] theorem un17 : Program.underlying Tryz.prog 17 = some (TypeDesc.pointer 238) := by kernel_rfl
@[go_sem] theorem sf17 : selfT Tryz.prog 17 = false := by kernel_rfl
@[go_sem] theorem sz17 : szT Tryz.prog 17 = some 1 := by kernel_rfl
@[go_sem] theorem ag17 : aggT Tryz.prog 17 = some false := by kernel_rfl
@[go_sem] theorem zr17 : zeroT Tryz.prog 17 = some [AV.np] := by kernel_rfl
@[go_sem] theorem u817 : u8T Tryz.prog 17 = false := by kernel_rfl
@[go_sem] theorem pt17 : ptrT Tryz.prog 17 = true := by kernel_rfl
@[go_sem] theorem sf18 : selfT Tryz.prog 18 = false := by kernel_rfl
@[go_sem] theorem sz18 : szT Tryz.prog 18 = some 1 := by kernel_rfl
@[go_sem] theorem ag18 : aggT Tryz.prog 18 = some true := by kernel_rfl
@[go_sem] theorem zr18 : zeroT Tryz.prog 18 = some [AV.np] := by kernel_rfl
@[go_sem] theorem u818 : u8T Tryz.prog 18 = false := by kernel_rfl
@[go_sem] theorem if18 : ifcT Tryz.prog 18 = false := by kernel_rfl
@[go_sem] theorem pl18 : plT Tryz.prog 18 = some (Sum.inl [(0, 1)]) := by kernel_rfl
@[go_sem] theorem fd18_0 : fldT Tryz.prog 18 0 = some (0, 17) := by kernel_rfl
@[go_sem] theorem sf19 : selfT Tryz.prog 19 = false := by kernel_rfl
@[go_sem] theorem sz19 : szT Tryz.prog 19 = some 1 := by kernel_rfl
@[go_sem] theorem ag19 : aggT Tryz.prog 19 = some true := by kernel_rfl
@[go_sem] theorem zr19 : zeroT Tryz.prog 19 = some [AV.np] := by kernel_rfl
@[go_sem] theorem u819 : u8T Tryz.prog 19 = false := by kernel_rfl
@[go_sem] theorem if19 : ifcT Tryz.prog 19 = false := by kernel_rfl
@[go_sem] theorem pl19 : plT Tryz.prog 19 = some (Sum.inl [(0, 1)]) := by kernel_rfl
@[go_sem] theorem fd19_0 : fldT Tryz.prog 19 0 = some (0, 17) := by kernel_rfl
@[go_sem] theorem un20 : Program.underlying Tryz.prog 20 = some (TypeDesc.interface #[]) := by kernel_rfl
@[go_sem] theorem sf20 : selfT Tryz.prog 20 = false := by kernel_rfl
@[go_sem] theorem sz20 : szT Tryz.prog 20 = some 1 := by kernel_rfl
@[go_sem] theorem ag20 : aggT Tryz.prog 20 = some false := by kernel_rfl
@[go_sem] theorem zr20 : zeroT Tryz.prog 20 = some [AV.ni] := by kernel_rfl
@[go_sem] theorem u820 : u8T Tryz.prog 20 = false := by kernel_rfl
@[go_sem] theorem if20 : ifcT Tryz.prog 20 = true := by kernel_rfl
@[go_sem] theorem un21 : Program.underlying Tryz.prog 21 = some (TypeDesc.int IntKind.i32) := by kernel_rfl
@[go_sem] theorem sf21 : selfT Tryz.prog 21 = false := by kernel_rfl
@[go_sem] theorem sz21 : szT Tryz.prog 21 = some 1 := by kernel_rfl
@[go_sem] theorem ag21 : aggT Tryz.prog 21 = some false := by kernel_rfl
@[go_sem] theorem zr21 : zeroT Tryz.prog 21 = some [AV.i IntKind.i32 0] := by kernel_rfl
@[go_sem] theorem u821 : u8T Tryz.prog 21 = false := by kernel_rfl
@[go_sem] theorem un22 : Program.underlying Tryz.prog 22 = some (TypeDesc.slice 26) := by kernel_rfl
@[go_sem] theorem sf22 : selfT Tryz.prog 22 = false := by kernel_rfl
@[go_sem] theorem sz22 : szT Tryz.prog 22 = some 1 := by kernel_rfl
@[go_sem] theorem ag22 : aggT Tryz.prog 22 = some false := by kernel_rfl
@[go_sem] theorem zr22 : zeroT Tryz.prog 22 = some [AV.nils] := by kernel_rfl
@[go_sem] theorem u822 : u8T Tryz.prog 22 = false := by kernel_rfl
@[go_sem] theorem el22 : elT Tryz.prog 22 = some (2, 26) := by kernel_rfl
@[go_sem] theorem sf23 : selfT Tryz.prog 23 = false := by kernel_rfl
@[go_sem] theorem sz23 : szT Tryz.prog 23 = some 2 := by kernel_rfl
@[go_sem] theorem ag23 : aggT Tryz.prog 23 = some true := by kernel_rfl
@[go_sem] theorem zr23 : zeroT Tryz.prog 23 = some [AV.s [], AV.nils] := by kernel_rfl
@[go_sem] theorem u823 : u8T Tryz.prog 23 = false := by kernel_rfl
@[go_sem] theorem if23 : ifcT Tryz.prog 23 = false := by kernel_rfl
@[go_sem] theorem pl23 : plT Tryz.prog 23 = some (Sum.inl [(0, 1), (1, 1)]) := by kernel_rfl
@[go_sem] theorem fd23_0 : fldT Tryz.prog 23 0 = some (0, 9) := by kernel_rfl
@[go_sem] theorem fd23_1 : fldT Tryz.prog 23 1 = some (1, 22) := by kernel_rfl
@[go_sem] theorem sf24 : selfT Tryz.prog 24 = false := by kernel_rfl
@[go_sem] theorem sz24 : szT Tryz.prog 24 = some 2 := by kernel_rfl
@[go_sem] theorem ag24 : aggT Tryz.prog 24 = some true := by kernel_rfl
@[go_sem] theorem zr24 : zeroT Tryz.prog 24 = some [AV.s [], AV.nils] := by kernel_rfl
@[go_sem] theorem u824 : u8T Tryz.prog 24 = false := by kernel_rfl
@[go_sem] theorem if24 : ifcT Tryz.prog 24 = false := by kernel_rfl
@[go_sem] theorem pl24 : plT Tryz.prog 24 = some (Sum.inl [(0, 1), (1, 1)]) := by kernel_rfl
@[go_sem] theorem fd24_0 : fldT Tryz.prog 24 0 = some (0, 9) := by kernel_rfl
@[go_sem] theorem fd24_1 : fldT Tryz.prog 24 1 = some (1, 22) := by kernel_rfl
@[go_sem] theorem sf25 : selfT Tryz.prog 25 = false := by kernel_rfl
@[go_sem] theorem sz25 : szT Tryz.prog 25 = some 2 := by kernel_rfl
@[go_sem] theorem ag25 : aggT Tryz.prog 25 = some true := by kernel_rfl
@[go_sem] theorem zr25 : zeroT Tryz.prog 25 = some [AV.i IntKind.i64 0, AV.s []] := by kernel_rfl
@[go_sem] theorem u825 : u8T Tryz.prog 25 = false := by kernel_rfl
@[go_sem] theorem if25 : ifcT Tryz.prog 25 = false := by kernel_rfl
@[go_sem] theorem pl25 : plT Tryz.prog 25 = some (Sum.inl [(0, 1), (1, 1)]) := by kernel_rfl
@[go_sem] theorem eq25 : eqL Tryz.prog 25 = some [(0, 1), (1, 2)] := by kernel_rfl
@[go_sem] theorem fd25_0 : fldT Tryz.prog 25 0 = some (0, 3) := by kernel_rfl
@[go_sem] theorem fd25_1 : fldT Tryz.prog 25 1 = some (1, 9) := by kernel_rfl
@[go_sem] theorem sf26 : selfT Tryz.prog 26 = false := by kernel_rfl
@[go_sem] theorem sz26 : szT Tryz.prog 26 = some 2 := by kernel_rfl
@[go_sem] theorem ag26 : aggT Tryz.prog 26 = some true := by kernel_rfl
@[go_sem] theorem zr26 : zeroT Tryz.prog 26 = some [AV.i IntKind.i64 0, AV.s []] := by kernel_rfl
@[go_sem] theorem u826 : u8T Tryz.prog 26 = false := by kernel_rfl
@[go_sem] theorem if26 : ifcT Tryz.prog 26 = false := by kernel_rfl
@[go_sem] theorem pl26 : plT Tryz.prog 26 = some (Sum.inl [(0, 1), (1, 1)]) := by kernel_rfl
@[go_sem] theorem eq26 : eqL Tryz.prog 26 = some [(0, 1), (1, 2)] := by kernel_rfl
@[go_sem] theorem fd26_0 : fldT Tryz.prog 26 0 = some (0, 3) := by kernel_rfl
@[go_sem] theorem fd26_1 : fldT Tryz.prog 26 1 = some (1, 9) := by kernel_rfl
@[go_sem] theorem un27 : Program.underlying Tryz.prog 27 = some (TypeDesc.slice 3) := by kernel_rfl
@[go_sem] theorem sf27 : selfT Tryz.prog 27 = false := by kernel_rfl
@[go_sem] theorem sz27 : szT Tryz.prog 27 = some 1 := by kernel_rfl
@[go_sem] theorem ag27 : aggT Tryz.prog 27 = some false := by kernel_rfl
@[go_sem] theorem zr27 : zeroT Tryz.prog 27 = some [AV.nils] := by kernel_rfl
@[go_sem] theorem u827 : u8T Tryz.prog 27 = false := by kernel_rfl
@[go_sem] theorem el27 : elT Tryz.prog 27 = some (1, 3) := by kernel_rfl
@[go_sem] theorem un28 : Program.underlying Tryz.prog 28 = some (TypeDesc.int IntKind.i64) := by kernel_rfl
@[go_sem] theorem sf28 : selfT Tryz.prog 28 = false := by kernel_rfl
@[go_sem] theorem sz28 : szT Tryz.prog 28 = some 1 := by kernel_rfl
@[go_sem] theorem ag28 : aggT Tryz.prog 28 = some false := by kernel_rfl
@[go_sem] theorem zr28 : zeroT Tryz.prog 28 = some [AV.i IntKind.i64 0] := by kernel_rfl
@[go_sem] theorem u828 : u8T Tryz.prog 28 = false := by kernel_rfl
@[go_sem] theorem sf29 : selfT Tryz.prog 29 = false := by kernel_rfl
@[go_sem] theorem sz29 : szT Tryz.prog 29 = some 1 := by kernel_rfl
@[go_sem] theorem ag29 : aggT Tryz.prog 29 = some false := by kernel_rfl
@[go_sem] theorem u829 : u8T Tryz.prog 29 = false := by kernel_rfl
@[go_sem] theorem sf30 : selfT Tryz.prog 30 = false := by kernel_rfl
@[go_sem] theorem sz30 : szT Tryz.prog 30 = some 1 := by kernel_rfl
@[go_sem] theorem ag30 : aggT Tryz.prog 30 = some false := by kernel_rfl
@[go_sem] theorem zr30 : zeroT Tryz.prog 30 = some [AV.nf] := by kernel_rfl
@[go_sem] theorem u830 : u8T Tryz.prog 30 = false := by kernel_rfl
@[go_sem] theorem sf31 : selfT Tryz.prog 31 = false := by kernel_rfl
@[go_sem] theorem sz31 : szT Tryz.prog 31 = some 3 := by kernel_rfl
@[go_sem] theorem ag31 : aggT Tryz.prog 31 = some true := by kernel_rfl
@[go_sem] theorem zr31 : zeroT Tryz.prog 31 = some [AV.i IntKind.i64 0, AV.i IntKind.i64 0, AV.i IntKind.i64 0] := by kernel_rfl
@[go_sem] theorem u831 : u8T Tryz.prog 31 = false := by kernel_rfl
@[go_sem] theorem if31 : ifcT Tryz.prog 31 = false := by kernel_rfl
@[go_sem] theorem pl31 : plT Tryz.prog 31 = some (Sum.inl [(0, 1), (1, 1), (2, 1)]) := by kernel_rfl
@[go_sem] theorem eq31 : eqL Tryz.prog 31 = some [(0, 1), (1, 1), (2, 1)] := by kernel_rfl
@[go_sem] theorem fd31_0 : fldT Tryz.prog 31 0 = some (0, 3) := by kernel_rfl
@[go_sem] theorem fd31_1 : fldT Tryz.prog 31 1 = some (1, 3) := by kernel_rfl
@[go_sem] theorem fd31_2 : fldT Tryz.prog 31 2 = some (2, 3) := by kernel_rfl
@[go_sem] theorem sf32 : selfT Tryz.prog 32 = false := by kernel_rfl
@[go_sem] theorem sz32 : szT Tryz.prog 32 = some 3 := by kernel_rfl
@[go_sem] theorem ag32 : aggT Tryz.prog 32 = some true := by kernel_rfl
@[go_sem] theorem zr32 : zeroT Tryz.prog 32 = some [AV.i IntKind.i64 0, AV.i IntKind.i64 0, AV.i IntKind.i64 0] := by kernel_rfl
@[go_sem] theorem u832 : u8T Tryz.prog 32 = false := by kernel_rfl
@[go_sem] theorem if32 : ifcT Tryz.prog 32 = false := by kernel_rfl
@[go_sem] theorem pl32 : plT Tryz.prog 32 = some (Sum.inl [(0, 1), (1, 1), (2, 1)]) := by kernel_rfl
@[go_sem] theorem eq32 : eqL Tryz.prog 32 = some [(0, 1), (1, 1), (2, 1)] := by kernel_rfl
@[go_sem] theorem fd32_0 : fldT Tryz.prog 32 0 = some (0, 3) := by kernel_rfl
@[go_sem] theorem fd32_1 : fldT Tryz.prog 32 1 = some (1, 3) := by kernel_rfl
@[go_sem] theorem fd32_2 : fldT Tryz.prog 32 2 = some (2, 3) := by kernel_rfl
@[go_sem] theorem sf33 : selfT Tryz.prog 33 = false := by kernel_rfl
@[go_sem] theorem sz33 : szT Tryz.prog 33 = some 1 := by kernel_rfl
@[go_sem] theorem ag33 : aggT Tryz.prog 33 = some false := by kernel_rfl
@[go_sem] theorem zr33 : zeroT Tryz.prog 33 = some [AV.nf] := by kernel_rfl
@[go_sem] theorem u833 : u8T Tryz.prog 33 = false := by kernel_rfl
@[go_sem] theorem sf34 : selfT Tryz.prog 34 = false := by kernel_rfl
@[go_sem] theorem sz34 : szT Tryz.prog 34 = some 1 := by kernel_rfl
@[go_sem] theorem ag34 : aggT Tryz.prog 34 = some false := by kernel_rfl
@[go_sem] theorem u834 : u8T Tryz.prog 34 = false := by kernel_rfl
@[go_sem] theorem sf35 : selfT Tryz.prog 35 = false := by kernel_rfl
@[go_sem] theorem sz35 : szT Tryz.prog 35 = some 1 := by kernel_rfl
@[go_sem] theorem ag35 : aggT Tryz.prog 35 = some false := by kernel_rfl
@[go_sem] theorem zr35 : zeroT Tryz.prog 35 = some [AV.nf] := by kernel_rfl
@[go_sem] theorem u835 : u8T Tryz.prog 35 = false := by kernel_rfl
@[go_sem] theorem sf36 : selfT Tryz.prog 36 = false := by kernel_rfl
@[go_sem] theorem sz36 : szT Tryz.prog 36 = some 1 := by kernel_rfl
@[go_sem] theorem ag36 : aggT Tryz.prog 36 = some false := by kernel_rfl
@[go_sem] theorem zr36 : zeroT Tryz.prog 36 = some [AV.nf] := by kernel_rfl
@[go_sem] theorem u836 : u8T Tryz.prog 36 = false := by kernel_rfl
@[go_sem] theorem sf37 : selfT Tryz.prog 37 = false := by kernel_rfl
@[go_sem] theorem sz37 : szT Tryz.prog 37 = some 1 := by kernel_rfl
@[go_sem] theorem ag37 : aggT Tryz.prog 37 = some false := by kernel_rfl
@[go_sem] theorem u837 : u8T Tryz.prog 37 = false := by kernel_rfl
@[go_sem] theorem sf38 : selfT Tryz.prog 38 = false := by kernel_rfl
@[go_sem] theorem sz38 : szT Tryz.prog 38 = some 1 := by kernel_rfl
@[go_sem] theorem ag38 : aggT Tryz.prog 38 = some false := by kernel_rfl
@[go_sem] theorem zr38 : zeroT Tryz.prog 38 = some [AV.nf] := by kernel_rfl
@[go_sem] theorem u838 : u8T Tryz.prog 38 = false := by kernel_rfl
@[go_sem] theorem sf39 : selfT Tryz.prog 39 = false := by kernel_rfl
@[go_sem] theorem sz39 : szT Tryz.prog 39 = some 1 := by kernel_rfl
@[go_sem] theorem ag39 : aggT Tryz.prog 39 = some false := by kernel_rfl
@[go_sem] theorem zr39 : zeroT Tryz.prog 39 = some [AV.nf] := by kernel_rfl
@[go_sem] theorem u839 : u8T Tryz.prog 39 = false := by kernel_rfl
@[go_sem] theorem sf40 : selfT Tryz.prog 40 = false := by kernel_rfl
@[go_sem] theorem sz40 : szT Tryz.prog 40 = some 1 := by kernel_rfl
@[go_sem] theorem ag40 : aggT Tryz.prog 40 = some false := by kernel_rfl
@[go_sem] theorem zr40 : zeroT Tryz.prog 40 = some [AV.nf] := by kernel_rfl
@[go_sem] theorem u840 : u8T Tryz.prog 40 = false := by kernel_rfl
@[go_sem] theorem sf41 : selfT Tryz.prog 41 = false := by kernel_rfl
@[go_sem] theorem sz41 : szT Tryz.prog 41 = some 1 := by kernel_rfl
@[go_sem] theorem ag41 : aggT Tryz.prog 41 = some false := by kernel_rfl
@[go_sem] theorem zr41 : zeroT Tryz.prog 41 = some [AV.nf] := by kernel_rfl
@[go_sem] theorem u841 : u8T Tryz.prog 41 = false := by kernel_rfl
@[go_sem] theorem sf42 : selfT Tryz.prog 42 = false := by kernel_rfl
@[go_sem] theorem sz42 : szT Tryz.prog 42 = some 1 := by kernel_rfl
@[go_sem] theorem ag42 : aggT Tryz.prog 42 = some false := by kernel_rfl
@[go_sem] theorem zr42 : zeroT Tryz.prog 42 = some [AV.nf] := by kernel_rfl
@[go_sem] theorem u842 : u8T Tryz.prog 42 = false := by kernel_rfl
@[go_sem] theorem un43 : Program.underlying Tryz.prog 43 = some (TypeDesc.slice 45) := by kernel_rfl
@[go_sem] theorem sf43 : selfT Tryz.prog 43 = false := by kernel_rfl
@[go_sem] theorem sz43 : szT Tryz.prog 43 = some 1 := by kernel_rfl
@[go_sem] theorem ag43 : aggT Tryz.prog 43 = some false := by kernel_rfl
@[go_sem] theorem zr43 : zeroT Tryz.prog 43 = some [AV.nils] := by kernel_rfl
@[go_sem] theorem u843 : u8T Tryz.prog 43 = false := by kernel_rfl
@[go_sem] theorem el43 : elT Tryz.prog 43 = some (2, 45) := by kernel_rfl
@[go_sem] theorem sf44 : selfT Tryz.prog 44 = false := by kernel_rfl
@[go_sem] theorem sz44 : szT Tryz.prog 44 = some 2 := by kernel_rfl
@[go_sem] theorem ag44 : aggT Tryz.prog 44 = some true := by kernel_rfl
@[go_sem] theorem zr44 : zeroT Tryz.prog 44 = some [AV.s [], AV.i IntKind.i64 0] := by kernel_rfl
@[go_sem] theorem u844 : u8T Tryz.prog 44 = false := by kernel_rfl
@[go_sem] theorem if44 : ifcT Tryz.prog 44 = false := by kernel_rfl
@[go_sem] theorem pl44 : plT Tryz.prog 44 = some (Sum.inl [(0, 1), (1, 1)]) := by kernel_rfl
@[go_sem] theorem eq44 : eqL Tryz.prog 44 = some [(0, 2), (1, 1)] := by kernel_rfl
@[go_sem] theorem fd44_0 : fldT Tryz.prog 44 0 = some (0, 9) := by kernel_rfl
@[go_sem] theorem fd44_1 : fldT Tryz.prog 44 1 = some (1, 3) := by kernel_rfl
@[go_sem] theorem sf45 : selfT Tryz.prog 45 = false := by kernel_rfl
@[go_sem] theorem sz45 : szT Tryz.prog 45 = some 2 := by kernel_rfl
@[go_sem] theorem ag45 : aggT Tryz.prog 45 = some true := by kernel_rfl
@[go_sem] theorem zr45 : zeroT Tryz.prog 45 = some [AV.s [], AV.i IntKind.i64 0] := by kernel_rfl
@[go_sem] theorem u845 : u8T Tryz.prog 45 = false := by kernel_rfl
@[go_sem] theorem if45 : ifcT Tryz.prog 45 = false := by kernel_rfl
@[go_sem] theorem pl45 : plT Tryz.prog 45 = some (Sum.inl [(0, 1), (1, 1)]) := by kernel_rfl
@[go_sem] theorem eq45 : eqL Tryz.prog 45 = some [(0, 2), (1, 1)] := by kernel_rfl
@[go_sem] theorem fd45_0 : fldT Tryz.prog 45 0 = some (0, 9) := by kernel_rfl
@[go_sem] theorem fd45_1 : fldT Tryz.prog 45 1 = some (1, 3) := by kernel_rfl
@[go_sem] theorem sf46 : selfT Tryz.prog 46 = false := by kernel_rfl
@[go_sem] theorem sz46 : szT Tryz.prog 46 = some 1 := by kernel_rfl
@[go_sem] theorem ag46 : aggT Tryz.prog 46 = some false := by kernel_rfl
@[go_sem] theorem u846 : u8T Tryz.prog 46 = false := by kernel_rfl
@[go_sem] theorem sf47 : selfT Tryz.prog 47 = false := by kernel_rfl
@[go_sem] theorem sz47 : szT Tryz.prog 47 = some 1 := by kernel_rfl
@[go_sem] theorem ag47 : aggT Tryz.prog 47 = some false := by kernel_rfl
@[go_sem] theorem zr47 : zeroT Tryz.prog 47 = some [AV.nf] := by kernel_rfl
@[go_sem] theorem u847 : u8T Tryz.prog 47 = false := by kernel_rfl
@[go_sem] theorem sf48 : selfT Tryz.prog 48 = false := by kernel_rfl
@[go_sem] theorem sz48 : szT Tryz.prog 48 = some 1 := by kernel_rfl
@[go_sem] theorem ag48 : aggT Tryz.prog 48 = some false := by kernel_rfl
@[go_sem] theorem zr48 : zeroT Tryz.prog 48 = some [AV.nf] := by kernel_rfl
@[go_sem] theorem u848 : u8T Tryz.prog 48 = false := by kernel_rfl
@[go_sem] theorem sf49 : selfT Tryz.prog 49 = false := by kernel_rfl
@[go_sem] theorem sz49 : szT Tryz.prog 49 = some 1 := by kernel_rfl
@[go_sem] theorem ag49 : aggT Tryz.prog 49 = some false := by kernel_rfl
@[go_sem] theorem zr49 : zeroT Tryz.prog 49 = some [AV.nf] := by kernel_rfl
@[go_sem] theorem u849 : u8T Tryz.prog 49 = false := by kernel_rfl
@[go_sem] theorem sf50 : selfT Tryz.prog 50 = false := by kernel_rfl
@[go_sem] theorem sz50 : szT Tryz.prog 50 = some 4 := by kernel_rfl
@[go_sem] theorem ag50 : aggT Tryz.prog 50 = some true := by kernel_rfl
@[go_sem] theorem zr50 : zeroT Tryz.prog 50 = some [AV.i IntKind.i64 0, AV.i IntKind.i64 0, AV.i IntKind.i64 0, AV.i IntKind.i64 0] := by kernel_rfl
@[go_sem] theorem u850 : u8T Tryz.prog 50 = false := by kernel_rfl
@[go_sem] theorem if50 : ifcT Tryz.prog 50 = false := by kernel_rfl
@[go_sem] theorem pl50 : plT Tryz.prog 50 = some (Sum.inl [(0, 1), (1, 1), (2, 1), (3, 1)]) := by kernel_rfl
@[go_sem] theorem eq50 : eqL Tryz.prog 50 = some [(0, 1), (1, 1), (2, 1), (3, 1)] := by kernel_rfl
@[go_sem] theorem fd50_0 : fldT Tryz.prog 50 0 = some (0, 3) := by kernel_rfl
@[go_sem] theorem fd50_1 : fldT Tryz.prog 50 1 = some (1, 3) := by kernel_rfl
@[go_sem] theorem fd50_2 : fldT Tryz.prog 50 2 = some (2, 3) := by kernel_rfl
@[go_sem] theorem fd50_3 : fldT Tryz.prog 50 3 = some (3, 3) := by kernel_rfl
@[go_sem] theorem sf51 : selfT Tryz.prog 51 = false := by kernel_rfl
@[go_sem] theorem sz51 : szT Tryz.prog 51 = some 4 := by kernel_rfl
@[go_sem] theorem ag51 : aggT Tryz.prog 51 = some true := by kernel_rfl
@[go_sem] theorem zr51 : zeroT Tryz.prog 51 = some [AV.i IntKind.i64 0, AV.i IntKind.i64 0, AV.i IntKind.i64 0, AV.i IntKind.i64 0] := by kernel_rfl
@[go_sem] theorem u851 : u8T Tryz.prog 51 = false := by kernel_rfl
@[go_sem] theorem if51 : ifcT Tryz.prog 51 = false := by kernel_rfl
@[go_sem] theorem pl51 : plT Tryz.prog 51 = some (Sum.inl [(0, 1), (1, 1), (2, 1), (3, 1)]) := by kernel_rfl
@[go_sem] theorem eq51 : eqL Tryz.prog 51 = some [(0, 1), (1, 1), (2, 1), (3, 1)] := by kernel_rfl
@[go_sem] theorem fd51_0 : fldT Tryz.prog 51 0 = some (0, 3) := by kernel_rfl
@[go_sem] theorem fd51_1 : fldT Tryz.prog 51 1 = some (1, 3) := by kernel_rfl
@[go_sem] theorem fd51_2 : fldT Tryz.prog 51 2 = some (2, 3) := by kernel_rfl
@[go_sem] theorem fd51_3 : fldT Tryz.prog 51 3 = some (3, 3) := by kernel_rfl
@[go_sem] theorem sf52 : selfT Tryz.prog 52 = false := by kernel_rfl
@[go_sem] theorem sz52 : szT Tryz.prog 52 = some 1 := by kernel_rfl
@[go_sem] theorem ag52 : aggT Tryz.prog 52 = some false := by kernel_rfl
@[go_sem] theorem u852 : u8T Tryz.prog 52 = false := by kernel_rfl
@[go_sem] theorem sf53 : selfT Tryz.prog 53 = false := by kernel_rfl
@[go_sem] theorem sz53 : szT Tryz.prog 53 = some 1 := by kernel_rfl
@[go_sem] theorem ag53 : aggT Tryz.prog 53 = some false := by kernel_rfl
@[go_sem] theorem zr53 : zeroT Tryz.prog 53 = some [AV.nf] := by kernel_rfl
@[go_sem] theorem u853 : u8T Tryz.prog 53 = false := by kernel_rfl
@[go_sem] theorem sf54 : selfT Tryz.prog 54 = false := by kernel_rfl
@[go_sem] theorem sz54 : szT Tryz.prog 54 = some 1 := by kernel_rfl
@[go_sem] theorem ag54 : aggT Tryz.prog 54 = some false := by kernel_rfl
@[go_sem] theorem zr54 : zeroT Tryz.prog 54 = some [AV.nf] := by kernel_rfl
@[go_sem] theorem u854 : u8T Tryz.prog 54 = false := by kernel_rfl
@[go_sem] theorem sf55 : selfT Tryz.prog 55 = false := by kernel_rfl
@[go_sem] theorem sz55 : szT Tryz.prog 55 = some 1 := by kernel_rfl
@[go_sem] theorem ag55 : aggT Tryz.prog 55 = some false := by kernel_rfl
@[go_sem] theorem zr55 : zeroT Tryz.prog 55 = some [AV.nf] := by kernel_rfl
@[go_sem] theorem u855 : u8T Tryz.prog 55 = false := by kernel_rfl
@[go_sem] theorem sf56 : selfT Tryz.prog 56 = false := by kernel_rfl
@[go_sem] theorem sz56 : szT Tryz.prog 56 = some 1 := by kernel_rfl
@[go_sem] theorem ag56 : aggT Tryz.prog 56 = some false := by kernel_rfl
@[go_sem] theorem u856 : u8T Tryz.prog 56 = false := by kernel_rfl
@[go_sem] theorem sf57 : selfT Tryz.prog 57 = false := by kernel_rfl
@[go_sem] theorem sz57 : szT Tryz.prog 57 = some 1 := by kernel_rfl
@[go_sem] theorem ag57 : aggT Tryz.prog 57 = some false := by kernel_rfl
@[go_sem] theorem zr57 : zeroT Tryz.prog 57 = some [AV.nf] := by kernel_rfl
@[go_sem] theorem u857 : u8T Tryz.prog 57 = false := by kernel_rfl
@[go_sem] theorem sf58 : selfT Tryz.prog 58 = false := by kernel_rfl
@[go_sem] theorem sz58 : szT Tryz.prog 58 = some 1 := by kernel_rfl
@[go_sem] theorem ag58 : aggT Tryz.prog 58 = some false := by kernel_rfl
@[go_sem] theorem zr58 : zeroT Tryz.prog 58 = some [AV.nf] := by kernel_rfl
@[go_sem] theorem u858 : u8T Tryz.prog 58 = false := by kernel_rfl
@[go_sem] theorem sf59 : selfT Tryz.prog 59 = false := by kernel_rfl
@[go_sem] theorem sz59 : szT Tryz.prog 59 = some 1 := by kernel_rfl
@[go_sem] theorem ag59 : aggT Tryz.prog 59 = some false := by kernel_rfl
@[go_sem] theorem zr59 : zeroT Tryz.prog 59 = some [AV.nf] := by kernel_rfl
@[go_sem] theorem u859 : u8T Tryz.prog 59 = false := by kernel_rfl
@[go_sem] theorem un60 : Program.underlying Tryz.prog 60 = some (TypeDesc.slice 129) := by kernel_rfl
@[go_sem] theorem sf60 : selfT Tryz.prog 60 = false := by kernel_rfl
@[go_sem] theorem sz60 : szT Tryz.prog 60 = some 1 := by kernel_rfl
@[go_sem] theorem ag60 : aggT Tryz.prog 60 = some false := by kernel_rfl
@[go_sem] theorem zr60 : zeroT Tryz.prog 60 = some [AV.nils] := by kernel_rfl
@[go_sem] theorem u860 : u8T Tryz.prog 60 = false := by kernel_rfl
@[go_sem] theorem el60 : elT Tryz.prog 60 = some (3, 129) := by kernel_rfl
@[go_sem] theorem sf61 : selfT Tryz.prog 61 = false := by kernel_rfl
@[go_sem] theorem sz61 : szT Tryz.prog 61 = some 5 := by kernel_rfl
@[go_sem] theorem ag61 : aggT Tryz.prog 61 = some true := by kernel_rfl
@[go_sem] theorem zr61 : zeroT Tryz.prog 61 = some [AV.s [], AV.i IntKind.i64 0, AV.i IntKind.i64 0, AV.nils, AV.nils] := by kernel_rfl
@[go_sem] theorem u861 : u8T Tryz.prog 61 = false := by kernel_rfl
@[go_sem] theorem if61 : ifcT Tryz.prog 61 = false := by kernel_rfl
@[go_sem] theorem pl61 : plT Tryz.prog 61 = some (Sum.inl [(0, 1), (1, 1), (2, 1), (3, 1), (4, 1)]) := by kernel_rfl
@[go_sem] theorem fd61_0 : fldT Tryz.prog 61 0 = some (0, 9) := by kernel_rfl
@[go_sem] theorem fd61_1 : fldT Tryz.prog 61 1 = some (1, 3) := by kernel_rfl
@[go_sem] theorem fd61_2 : fldT Tryz.prog 61 2 = some (2, 3) := by kernel_rfl
@[go_sem] theorem fd61_3 : fldT Tryz.prog 61 3 = some (3, 60) := by kernel_rfl
@[go_sem] theorem fd61_4 : fldT Tryz.prog 61 4 = some (4, 27) := by kernel_rfl
@[go_sem] theorem sf62 : selfT Tryz.prog 62 = false := by kernel_rfl
@[go_sem] theorem sz62 : szT Tryz.prog 62 = some 5 := by kernel_rfl
@[go_sem] theorem ag62 : aggT Tryz.prog 62 = some true := by kernel_rfl
@[go_sem] theorem zr62 : zeroT Tryz.prog 62 = some [AV.s [], AV.i IntKind.i64 0, AV.i IntKind.i64 0, AV.nils, AV.nils] := by kernel_rfl
@[go_sem] theorem u862 : u8T Tryz.prog 62 = false := by kernel_rfl
@[go_sem] theorem if62 : ifcT Tryz.prog 62 = false := by kernel_rfl
@[go_sem] theorem pl62 : plT Tryz.prog 62 = some (Sum.inl [(0, 1), (1, 1), (2, 1), (3, 1), (4, 1)]) := by kernel_rfl
@[go_sem] theorem fd62_0 : fldT Tryz.prog 62 0 = some (0, 9) := by kernel_rfl
@[go_sem] theorem fd62_1 : fldT Tryz.prog 62 1 = some (1, 3) := by kernel_rfl
@[go_sem] theorem fd62_2 : fldT Tryz.prog 62 2 = some (2, 3) := by kernel_rfl
@[go_sem] theorem fd62_3 : fldT Tryz.prog 62 3 = some (3, 60) := by kernel_rfl
@[go_sem] theorem fd62_4 : fldT Tryz.prog 62 4 = some (4, 27) := by kernel_rfl
@[go_sem] theorem sf63 : selfT Tryz.prog 63 = false := by kernel_rfl
@[go_sem] theorem sz63 : szT Tryz.prog 63 = some 1 := by kernel_rfl
@[go_sem] theorem ag63 : aggT Tryz.prog 63 = some false := by kernel_rfl
@[go_sem] theorem u863 : u8T Tryz.prog 63 = false := by kernel_rfl
@[go_sem] theorem sf64 : selfT Tryz.prog 64 = false := by kernel_rfl
@[go_sem] theorem sz64 : szT Tryz.prog 64 = some 1 := by kernel_rfl
@[go_sem] theorem ag64 : aggT Tryz.prog 64 = some false := by kernel_rfl
@[go_sem] theorem zr64 : zeroT Tryz.prog 64 = some [AV.nf] := by kernel_rfl
@[go_sem] theorem u864 : u8T Tryz.prog 64 = false := by kernel_rfl
@[go_sem] theorem sf65 : selfT Tryz.prog 65 = false := by kernel_rfl
@[go_sem] theorem sz65 : szT Tryz.prog 65 = some 1 := by kernel_rfl
@[go_sem] theorem ag65 : aggT Tryz.prog 65 = some false := by kernel_rfl
@[go_sem] theorem zr65 : zeroT Tryz.prog 65 = some [AV.nf] := by kernel_rfl
@[go_sem] theorem u865 : u8T Tryz.prog 65 = false := by kernel_rfl
@[go_sem] theorem sf66 : selfT Tryz.prog 66 = false := by kernel_rfl
@[go_sem] theorem sz66 : szT Tryz.prog 66 = some 1 := by kernel_rfl
@[go_sem] theorem ag66 : aggT Tryz.prog 66 = some false := by kernel_rfl
@[go_sem] theorem zr66 : zeroT Tryz.prog 66 = some [AV.nf] := by kernel_rfl
@[go_sem] theorem u866 : u8T Tryz.prog 66 = false := by kernel_rfl
@[go_sem] theorem sf67 : selfT Tryz.prog 67 = false := by kernel_rfl
@[go_sem] theorem sz67 : szT Tryz.prog 67 = some 1 := by kernel_rfl
@[go_sem] theorem ag67 : aggT Tryz.prog 67 = some false := by kernel_rfl
@[go_sem] theorem zr67 : zeroT Tryz.prog 67 = some [AV.nf] := by kernel_rfl
@[go_sem] theorem u867 : u8T Tryz.prog 67 = false := by kernel_rfl
@[go_sem] theorem sf68 : selfT Tryz.prog 68 = false := by kernel_rfl
@[go_sem] theorem sz68 : szT Tryz.prog 68 = some 1 := by kernel_rfl
@[go_sem] theorem ag68 : aggT Tryz.prog 68 = some false := by kernel_rfl
@[go_sem] theorem zr68 : zeroT Tryz.prog 68 = some [AV.nf] := by kernel_rfl
@[go_sem] theorem u868 : u8T Tryz.prog 68 = false := by kernel_rfl
@[go_sem] theorem sf69 : selfT Tryz.prog 69 = false := by kernel_rfl
@[go_sem] theorem sz69 : szT Tryz.prog 69 = some 1 := by kernel_rfl
@[go_sem] theorem ag69 : aggT Tryz.prog 69 = some false := by kernel_rfl
@[go_sem] theorem zr69 : zeroT Tryz.prog 69 = some [AV.nf] := by kernel_rfl
@[go_sem] theorem u869 : u8T Tryz.prog 69 = false := by kernel_rfl
@[go_sem] theorem sf70 : selfT Tryz.prog 70 = false := by kernel_rfl
@[go_sem] theorem sz70 : szT Tryz.prog 70 = some 1 := by kernel_rfl
@[go_sem] theorem ag70 : aggT Tryz.prog 70 = some false := by kernel_rfl
@[go_sem] theorem zr70 : zeroT Tryz.prog 70 = some [AV.nf] := by kernel_rfl
@[go_sem] theorem u870 : u8T Tryz.prog 70 = false := by kernel_rfl
@[go_sem] theorem sf71 : selfT Tryz.prog 71 = false := by kernel_rfl
@[go_sem] theorem sz71 : szT Tryz.prog 71 = some 1 := by kernel_rfl
@[go_sem] theorem ag71 : aggT Tryz.prog 71 = some false := by kernel_rfl
@[go_sem] theorem zr71 : zeroT Tryz.prog 71 = some [AV.nf] := by kernel_rfl
@[go_sem] theorem u871 : u8T Tryz.prog 71 = false := by kernel_rfl
@[go_sem] theorem un72 : Program.underlying Tryz.prog 72 = some (TypeDesc.slice 9) := by kernel_rfl
@[go_sem] theorem sf72 : selfT Tryz.prog 72 = false := by kernel_rfl
@[go_sem] theorem sz72 : szT Tryz.prog 72 = some 1 := by kernel_rfl
@[go_sem] theorem ag72 : aggT Tryz.prog 72 = some false := by kernel_rfl
@[go_sem] theorem zr72 : zeroT Tryz.prog 72 = some [AV.nils] := by kernel_rfl
@[go_sem] theorem u872 : u8T Tryz.prog 72 = false := by kernel_rfl
@[go_sem] theorem el72 : elT Tryz.prog 72 = some (1, 9) := by kernel_rfl
@[go_sem] theorem sf73 : selfT Tryz.prog 73 = false := by kernel_rfl
@[go_sem] theorem sz73 : szT Tryz.prog 73 = some 1 := by kernel_rfl
@[go_sem] theorem ag73 : aggT Tryz.prog 73 = some false := by kernel_rfl
@[go_sem] theorem zr73 : zeroT Tryz.prog 73 = some [AV.nf] := by kernel_rfl
@[go_sem] theorem u873 : u8T Tryz.prog 73 = false := by kernel_rfl
@[go_sem] theorem sf74 : selfT Tryz.prog 74 = false := by kernel_rfl
@[go_sem] theorem sz74 : szT Tryz.prog 74 = some 1 := by kernel_rfl
@[go_sem] theorem ag74 : aggT Tryz.prog 74 = some false := by kernel_rfl
@[go_sem] theorem zr74 : zeroT Tryz.prog 74 = some [AV.nf] := by kernel_rfl
@[go_sem] theorem u874 : u8T Tryz.prog 74 = false := by kernel_rfl
@[go_sem] theorem sf75 : selfT Tryz.prog 75 = false := by kernel_rfl
@[go_sem] theorem sz75 : szT Tryz.prog 75 = some 1 := by kernel_rfl
@[go_sem] theorem ag75 : aggT Tryz.prog 75 = some false := by kernel_rfl
@[go_sem] theorem zr75 : zeroT Tryz.prog 75 = some [AV.nf] := by kernel_rfl
@[go_sem] theorem u875 : u8T Tryz.prog 75 = false := by kernel_rfl
@[go_sem] theorem sf76 : selfT Tryz.prog 76 = false := by kernel_rfl
@[go_sem] theorem sz76 : szT Tryz.prog 76 = some 1 := by kernel_rfl
@[go_sem] theorem ag76 : aggT Tryz.prog 76 = some false := by kernel_rfl
@[go_sem] theorem u876 : u8T Tryz.prog 76 = false := by kernel_rfl
@[go_sem] theorem sf77 : selfT Tryz.prog 77 = false := by kernel_rfl
@[go_sem] theorem sz77 : szT Tryz.prog 77 = some 1 := by kernel_rfl
@[go_sem] theorem ag77 : aggT Tryz.prog 77 = some false := by kernel_rfl
@[go_sem] theorem zr77 : zeroT Tryz.prog 77 = some [AV.nf] := by kernel_rfl
@[go_sem] theorem u877 : u8T Tryz.prog 77 = false := by kernel_rfl
@[go_sem] theorem sf78 : selfT Tryz.prog 78 = false := by kernel_rfl
@[go_sem] theorem sz78 : szT Tryz.prog 78 = some 1 := by kernel_rfl
@[go_sem] theorem ag78 : aggT Tryz.prog 78 = some false := by kernel_rfl
@[go_sem] theorem zr78 : zeroT Tryz.prog 78 = some [AV.nf] := by kernel_rfl
@[go_sem] theorem u878 : u8T Tryz.prog 78 = false := by kernel_rfl
@[go_sem] theorem sf79 : selfT Tryz.prog 79 = false := by kernel_rfl
@[go_sem] theorem sz79 : szT Tryz.prog 79 = some 1 := by kernel_rfl
@[go_sem] theorem ag79 : aggT Tryz.prog 79 = some false := by kernel_rfl
@[go_sem] theorem zr79 : zeroT Tryz.prog 79 = some [AV.nf] := by kernel_rfl
@[go_sem] theorem u879 : u8T Tryz.prog 79 = false := by kernel_rfl
@[go_sem] theorem sf80 : selfT Tryz.prog 80 = false := by kernel_rfl
@[go_sem] theorem sz80 : szT Tryz.prog 80 = some 1 := by kernel_rfl
@[go_sem] theorem ag80 : aggT Tryz.prog 80 = some false := by kernel_rfl
@[go_sem] theorem zr80 : zeroT Tryz.prog 80 = some [AV.nf] := by kernel_rfl
@[go_sem] theorem u880 : u8T Tryz.prog 80 = false := by kernel_rfl
@[go_sem] theorem un81 : Program.underlying Tryz.prog 81 = some (TypeDesc.array 4 3) := by kernel_rfl
@[go_sem] theorem sf81 : selfT Tryz.prog 81 = false := by kernel_rfl
@[go_sem] theorem sz81 : szT Tryz.prog 81 = some 4 := by kernel_rfl
@[go_sem] theorem ag81 : aggT Tryz.prog 81 = some true := by kernel_rfl
@[go_sem] theorem zr81 : zeroT Tryz.prog 81 = some [AV.i IntKind.i64 0, AV.i IntKind.i64 0, AV.i IntKind.i64 0, AV.i IntKind.i64 0] := by kernel_rfl
@[go_sem] theorem u881 : u8T Tryz.prog 81 = false := by kernel_rfl
@[go_sem] theorem el81 : elT Tryz.prog 81 = none := by kernel_rfl
@[go_sem] theorem ar81 : arT Tryz.prog 81 = some (4, 1) := by kernel_rfl
@[go_sem] theorem pl81 : plT Tryz.prog 81 = some (Sum.inr 1) := by kernel_rfl
@[go_sem] theorem un82 : Program.underlying Tryz.prog 82 = some (TypeDesc.array 4 9) := by kernel_rfl
@[go_sem] theorem sf82 : selfT Tryz.prog 82 = false := by kernel_rfl
@[go_sem] theorem sz82 : szT Tryz.prog 82 = some 4 := by kernel_rfl
@[go_sem] theorem ag82 : aggT Tryz.prog 82 = some true := by kernel_rfl
@[go_sem] theorem zr82 : zeroT Tryz.prog 82 = some [AV.s [], AV.s [], AV.s [], AV.s []] := by kernel_rfl
@[go_sem] theorem u882 : u8T Tryz.prog 82 = false := by kernel_rfl
@[go_sem] theorem el82 : elT Tryz.prog 82 = none := by kernel_rfl
@[go_sem] theorem ar82 : arT Tryz.prog 82 = some (4, 1) := by kernel_rfl
@[go_sem] theorem pl82 : plT Tryz.prog 82 = some (Sum.inr 1) := by kernel_rfl
@[go_sem] theorem sf83 : selfT Tryz.prog 83 = false := by kernel_rfl
@[go_sem] theorem sz83 : szT Tryz.prog 83 = some 1 := by kernel_rfl
@[go_sem] theorem ag83 : aggT Tryz.prog 83 = some false := by kernel_rfl
@[go_sem] theorem zr83 : zeroT Tryz.prog 83 = some [AV.nf] := by kernel_rfl
@[go_sem] theorem u883 : u8T Tryz.prog 83 = false := by kernel_rfl
@[go_sem] theorem sf84 : selfT Tryz.prog 84 = false := by kernel_rfl
@[go_sem] theorem sz84 : szT Tryz.prog 84 = some 1 := by kernel_rfl
@[go_sem] theorem ag84 : aggT Tryz.prog 84 = some false := by kernel_rfl
@[go_sem] theorem zr84 : zeroT Tryz.prog 84 = some [AV.nf] := by kernel_rfl
@[go_sem] theorem u884 : u8T Tryz.prog 84 = false := by kernel_rfl
@[go_sem] theorem un85 : Program.underlying Tryz.prog 85 = some (TypeDesc.interface #[("Error", 117)]) := by kernel_rfl
@[go_sem] theorem sf85 : selfT Tryz.prog 85 = false := by kernel_rfl
@[go_sem] theorem sz85 : szT Tryz.prog 85 = some 1 := by kernel_rfl
@[go_sem] theorem ag85 : aggT Tryz.prog 85 = some false := by kernel_rfl
@[go_sem] theorem zr85 : zeroT Tryz.prog 85 = some [AV.ni] := by kernel_rfl
@[go_sem] theorem u885 : u8T Tryz.prog 85 = false := by kernel_rfl
@[go_sem] theorem if85 : ifcT Tryz.prog 85 = true := by kernel_rfl
@[go_sem] theorem un86 : Program.underlying Tryz.prog 86 = some (TypeDesc.interface #[("Error", 117)]) := by kernel_rfl
@[go_sem] theorem sf86 : selfT Tryz.prog 86 = false := by kernel_rfl
@[go_sem] theorem sz86 : szT Tryz.prog 86 = some 1 := by kernel_rfl
@[go_sem] theorem ag86 : aggT Tryz.prog 86 = some false := by kernel_rfl
@[go_sem] theorem zr86 : zeroT Tryz.prog 86 = some [AV.ni] := by kernel_rfl
@[go_sem] theorem u886 : u8T Tryz.prog 86 = false := by kernel_rfl
@[go_sem] theorem if86 : ifcT Tryz.prog 86 = true := by kernel_rfl
@[go_sem] theorem sf87 : selfT Tryz.prog 87 = false := by kernel_rfl
@[go_sem] theorem sz87 : szT Tryz.prog 87 = some 1 := by kernel_rfl
@[go_sem] theorem ag87 : aggT Tryz.prog 87 = some false := by kernel_rfl
@[go_sem] theorem u887 : u8T Tryz.prog 87 = false := by kernel_rfl
@[go_sem] theorem sf88 : selfT Tryz.prog 88 = false := by kernel_rfl
@[go_sem] theorem sz88 : szT Tryz.prog 88 = some 1 := by kernel_rfl
@[go_sem] theorem ag88 : aggT Tryz.prog 88 = some false := by kernel_rfl
@[go_sem] theorem zr88 : zeroT Tryz.prog 88 = some [AV.nf] := by kernel_rfl
@[go_sem] theorem u888 : u8T Tryz.prog 88 = false := by kernel_rfl
@[go_sem] theorem sf89 : selfT Tryz.prog 89 = false := by kernel_rfl
@[go_sem] theorem sz89 : szT Tryz.prog 89 = some 1 := by kernel_rfl
@[go_sem] theorem ag89 : aggT Tryz.prog 89 = some false := by kernel_rfl
@[go_sem] theorem zr89 : zeroT Tryz.prog 89 = some [AV.nf] := by kernel_rfl
@[go_sem] theorem u889 : u8T Tryz.prog 89 = false := by kernel_rfl
@[go_sem] theorem un90 : Program.underlying Tryz.prog 90 = some (TypeDesc.slice 92) := by kernel_rfl
@[go_sem] theorem sf90 : selfT Tryz.prog 90 = false := by kernel_rfl
@[go_sem] theorem sz90 : szT Tryz.prog 90 = some 1 := by kernel_rfl
@[go_sem] theorem ag90 : aggT Tryz.prog 90 = some false := by kernel_rfl
@[go_sem] theorem zr90 : zeroT Tryz.prog 90 = some [AV.nils] := by kernel_rfl
@[go_sem] theorem u890 : u8T Tryz.prog 90 = false := by kernel_rfl
@[go_sem] theorem el90 : elT Tryz.prog 90 = some (3, 92) := by kernel_rfl
@[go_sem] theorem sf91 : selfT Tryz.prog 91 = false := by kernel_rfl
@[go_sem] theorem sz91 : szT Tryz.prog 91 = some 3 := by kernel_rfl
@[go_sem] theorem ag91 : aggT Tryz.prog 91 = some true := by kernel_rfl
@[go_sem] theorem zr91 : zeroT Tryz.prog 91 = some [AV.i IntKind.i64 0, AV.i IntKind.i64 0, AV.nils] := by kernel_rfl
@[go_sem] theorem u891 : u8T Tryz.prog 91 = false := by kernel_rfl
@[go_sem] theorem if91 : ifcT Tryz.prog 91 = false := by kernel_rfl
@[go_sem] theorem pl91 : plT Tryz.prog 91 = some (Sum.inl [(0, 1), (1, 1), (2, 1)]) := by kernel_rfl
@[go_sem] theorem fd91_0 : fldT Tryz.prog 91 0 = some (0, 3) := by kernel_rfl
@[go_sem] theorem fd91_1 : fldT Tryz.prog 91 1 = some (1, 3) := by kernel_rfl
@[go_sem] theorem fd91_2 : fldT Tryz.prog 91 2 = some (2, 90) := by kernel_rfl
@[go_sem] theorem sf92 : selfT Tryz.prog 92 = false := by kernel_rfl
@[go_sem] theorem sz92 : szT Tryz.prog 92 = some 3 := by kernel_rfl
@[go_sem] theorem ag92 : aggT Tryz.prog 92 = some true := by kernel_rfl
@[go_sem] theorem zr92 : zeroT Tryz.prog 92 = some [AV.i IntKind.i64 0, AV.i IntKind.i64 0, AV.nils] := by kernel_rfl
@[go_sem] theorem u892 : u8T Tryz.prog 92 = false := by kernel_rfl
@[go_sem] theorem if92 : ifcT Tryz.prog 92 = false := by kernel_rfl
@[go_sem] theorem pl92 : plT Tryz.prog 92 = some (Sum.inl [(0, 1), (1, 1), (2, 1)]) := by kernel_rfl
@[go_sem] theorem fd92_0 : fldT Tryz.prog 92 0 = some (0, 3) := by kernel_rfl
@[go_sem] theorem fd92_1 : fldT Tryz.prog 92 1 = some (1, 3) := by kernel_rfl
@[go_sem] theorem fd92_2 : fldT Tryz.prog 92 2 = some (2, 90) := by kernel_rfl
@[go_sem] theorem sf93 : selfT Tryz.prog 93 = false := by kernel_rfl
@[go_sem] theorem sz93 : szT Tryz.prog 93 = some 7 := by kernel_rfl
@[go_sem] theorem ag93 : aggT Tryz.prog 93 = some true := by kernel_rfl
@[go_sem] theorem zr93 : zeroT Tryz.prog 93 = some [AV.s [], AV.i IntKind.i64 0, AV.i IntKind.i64 0, AV.i IntKind.i64 0, AV.i IntKind.i64 0, AV.nils, AV.nils] := by kernel_rfl
@[go_sem] theorem u893 : u8T Tryz.prog 93 = false := by kernel_rfl
@[go_sem] theorem if93 : ifcT Tryz.prog 93 = false := by kernel_rfl
@[go_sem] theorem pl93 : plT Tryz.prog 93 = some (Sum.inl [(0, 1), (1, 1), (2, 1), (3, 3), (6, 1)]) := by kernel_rfl
@[go_sem] theorem fd93_0 : fldT Tryz.prog 93 0 = some (0, 9) := by kernel_rfl
@[go_sem] theorem fd93_1 : fldT Tryz.prog 93 1 = some (1, 3) := by kernel_rfl
@[go_sem] theorem fd93_2 : fldT Tryz.prog 93 2 = some (2, 3) := by kernel_rfl
@[go_sem] theorem fd93_3 : fldT Tryz.prog 93 3 = some (3, 92) := by kernel_rfl
@[go_sem] theorem fd93_4 : fldT Tryz.prog 93 4 = some (6, 60) := by kernel_rfl
@[go_sem] theorem sf94 : selfT Tryz.prog 94 = false := by kernel_rfl
@[go_sem] theorem sz94 : szT Tryz.prog 94 = some 7 := by kernel_rfl
@[go_sem] theorem ag94 : aggT Tryz.prog 94 = some true := by kernel_rfl
@[go_sem] theorem zr94 : zeroT Tryz.prog 94 = some [AV.s [], AV.i IntKind.i64 0, AV.i IntKind.i64 0, AV.i IntKind.i64 0, AV.i IntKind.i64 0, AV.nils, AV.nils] := by kernel_rfl
@[go_sem] theorem u894 : u8T Tryz.prog 94 = false := by kernel_rfl
@[go_sem] theorem if94 : ifcT Tryz.prog 94 = false := by kernel_rfl
@[go_sem] theorem pl94 : plT Tryz.prog 94 = some (Sum.inl [(0, 1), (1, 1), (2, 1), (3, 3), (6, 1)]) := by kernel_rfl
@[go_sem] theorem fd94_0 : fldT Tryz.prog 94 0 = some (0, 9) := by kernel_rfl
@[go_sem] theorem fd94_1 : fldT Tryz.prog 94 1 = some (1, 3) := by kernel_rfl
@[go_sem] theorem fd94_2 : fldT Tryz.prog 94 2 = some (2, 3) := by kernel_rfl
@[go_sem] theorem fd94_3 : fldT Tryz.prog 94 3 = some (3, 92) := by kernel_rfl
@[go_sem] theorem fd94_4 : fldT Tryz.prog 94 4 = some (6, 60) := by kernel_rfl
@[go_sem] theorem sf95 : selfT Tryz.prog 95 = false := by kernel_rfl
@[go_sem] theorem sz95 : szT Tryz.prog 95 = some 1 := by kernel_rfl
@[go_sem] theorem ag95 : aggT Tryz.prog 95 = some false := by kernel_rfl
@[go_sem] theorem u895 : u8T Tryz.prog 95 = false := by kernel_rfl
@[go_sem] theorem sf96 : selfT Tryz.prog 96 = false := by kernel_rfl
@[go_sem] theorem sz96 : szT Tryz.prog 96 = some 1 := by kernel_rfl
@[go_sem] theorem ag96 : aggT Tryz.prog 96 = some false := by kernel_rfl
@[go_sem] theorem zr96 : zeroT Tryz.prog 96 = some [AV.nf] := by kernel_rfl
@[go_sem] theorem u896 : u8T Tryz.prog 96 = false := by kernel_rfl
@[go_sem] theorem sf97 : selfT Tryz.prog 97 = false := by kernel_rfl
@[go_sem] theorem sz97 : szT Tryz.prog 97 = some 1 := by kernel_rfl
@[go_sem] theorem ag97 : aggT Tryz.prog 97 = some false := by kernel_rfl
@[go_sem] theorem zr97 : zeroT Tryz.prog 97 = some [AV.nf] := by kernel_rfl
@[go_sem] theorem u897 : u8T Tryz.prog 97 = false := by kernel_rfl
@[go_sem] theorem sf98 : selfT Tryz.prog 98 = false := by kernel_rfl
@[go_sem] theorem sz98 : szT Tryz.prog 98 = some 1 := by kernel_rfl
@[go_sem] theorem ag98 : aggT Tryz.prog 98 = some false := by kernel_rfl
@[go_sem] theorem zr98 : zeroT Tryz.prog 98 = some [AV.nf] := by kernel_rfl
@[go_sem] theorem u898 : u8T Tryz.prog 98 = false := by kernel_rfl
@[go_sem] theorem sf99 : selfT Tryz.prog 99 = false := by kernel_rfl
@[go_sem] theorem sz99 : szT Tryz.prog 99 = some 1 := by kernel_rfl
@[go_sem] theorem ag99 : aggT Tryz.prog 99 = some false := by kernel_rfl
@[go_sem] theorem zr99 : zeroT Tryz.prog 99 = some [AV.nf] := by kernel_rfl
@[go_sem] theorem u899 : u8T Tryz.prog 99 = false := by kernel_rfl
@[go_sem] theorem sf100 : selfT Tryz.prog 100 = false := by kernel_rfl
@[go_sem] theorem sz100 : szT Tryz.prog 100 = some 1 := by kernel_rfl
@[go_sem] theorem ag100 : aggT Tryz.prog 100 = some false := by kernel_rfl
@[go_sem] theorem zr100 : zeroT Tryz.prog 100 = some [AV.nf] := by kernel_rfl
@[go_sem] theorem u8100 : u8T Tryz.prog 100 = false := by kernel_rfl
@[go_sem] theorem sf101 : selfT Tryz.prog 101 = false := by kernel_rfl
@[go_sem] theorem sz101 : szT Tryz.prog 101 = some 1 := by kernel_rfl
@[go_sem] theorem ag101 : aggT Tryz.prog 101 = some false := by kernel_rfl
@[go_sem] theorem zr101 : zeroT Tryz.prog 101 = some [AV.nf] := by kernel_rfl
@[go_sem] theorem u8101 : u8T Tryz.prog 101 = false := by kernel_rfl
@[go_sem] theorem sf102 : selfT Tryz.prog 102 = false := by kernel_rfl
@[go_sem] theorem sz102 : szT Tryz.prog 102 = some 1 := by kernel_rfl
@[go_sem] theorem ag102 : aggT Tryz.prog 102 = some false := by kernel_rfl
@[go_sem] theorem zr102 : zeroT Tryz.prog 102 = some [AV.nf] := by kernel_rfl
@[go_sem] theorem u8102 : u8T Tryz.prog 102 = false := by kernel_rfl
@[go_sem] theorem sf103 : selfT Tryz.prog 103 = false := by kernel_rfl
@[go_sem] theorem sz103 : szT Tryz.prog 103 = some 1 := by kernel_rfl
@[go_sem] theorem ag103 : aggT Tryz.prog 103 = some false := by kernel_rfl
@[go_sem] theorem zr103 : zeroT Tryz.prog 103 = some [AV.nf] := by kernel_rfl
@[go_sem] theorem u8103 : u8T Tryz.prog 103 = false := by kernel_rfl
@[go_sem] theorem un104 : Program.underlying Tryz.prog 104 = some (TypeDesc.slice 107) := by kernel_rfl
@[go_sem] theorem sf104 : selfT Tryz.prog 104 = false := by kernel_rfl
@[go_sem] theorem sz104 : szT Tryz.prog 104 = some 1 := by kernel_rfl
@[go_sem] theorem ag104 : aggT Tryz.prog 104 = some false := by kernel_rfl
@[go_sem] theorem zr104 : zeroT Tryz.prog 104 = some [AV.nils] := by kernel_rfl
@[go_sem] theorem u8104 : u8T Tryz.prog 104 = false := by kernel_rfl
@[go_sem] theorem el104 : elT Tryz.prog 104 = some (5, 107) := by kernel_rfl
@[go_sem] theorem sf105 : selfT Tryz.prog 105 = false := by kernel_rfl
@[go_sem] theorem sz105 : szT Tryz.prog 105 = some 1 := by kernel_rfl
@[go_sem] theorem ag105 : aggT Tryz.prog 105 = some false := by kernel_rfl
@[go_sem] theorem zr105 : zeroT Tryz.prog 105 = some [AV.nf] := by kernel_rfl
@[go_sem] theorem u8105 : u8T Tryz.prog 105 = false := by kernel_rfl
@[go_sem] theorem sf106 : selfT Tryz.prog 106 = false := by kernel_rfl
@[go_sem] theorem sz106 : szT Tryz.prog 106 = some 5 := by kernel_rfl
@[go_sem] theorem ag106 : aggT Tryz.prog 106 = some true := by kernel_rfl
@[go_sem] theorem zr106 : zeroT Tryz.prog 106 = some [AV.s [], AV.i IntKind.i64 0, AV.i IntKind.i64 0, AV.s [], AV.i IntKind.u8 0] := by kernel_rfl
@[go_sem] theorem u8106 : u8T Tryz.prog 106 = false := by kernel_rfl
@[go_sem] theorem if106 : ifcT Tryz.prog 106 = false := by kernel_rfl
@[go_sem] theorem pl106 : plT Tryz.prog 106 = some (Sum.inl [(0, 1), (1, 1), (2, 1), (3, 1), (4, 1)]) := by kernel_rfl
@[go_sem] theorem eq106 : eqL Tryz.prog 106 = some [(0, 2), (1, 1), (2, 1), (3, 2), (4, 1)] := by kernel_rfl
@[go_sem] theorem fd106_0 : fldT Tryz.prog 106 0 = some (0, 9) := by kernel_rfl
@[go_sem] theorem fd106_1 : fldT Tryz.prog 106 1 = some (1, 3) := by kernel_rfl
@[go_sem] theorem fd106_2 : fldT Tryz.prog 106 2 = some (2, 3) := by kernel_rfl
@[go_sem] theorem fd106_3 : fldT Tryz.prog 106 3 = some (3, 9) := by kernel_rfl
@[go_sem] theorem fd106_4 : fldT Tryz.prog 106 4 = some (4, 5) := by kernel_rfl
@[go_sem] theorem sf107 : selfT Tryz.prog 107 = false := by kernel_rfl
@[go_sem] theorem sz107 : szT Tryz.prog 107 = some 5 := by kernel_rfl
@[go_sem] theorem ag107 : aggT Tryz.prog 107 = some true := by kernel_rfl
@[go_sem] theorem zr107 : zeroT Tryz.prog 107 = some [AV.s [], AV.i IntKind.i64 0, AV.i IntKind.i64 0, AV.s [], AV.i IntKind.u8 0] := by kernel_rfl
@[go_sem] theorem u8107 : u8T Tryz.prog 107 = false := by kernel_rfl
@[go_sem] theorem if107 : ifcT Tryz.prog 107 = false := by kernel_rfl
@[go_sem] theorem pl107 : plT Tryz.prog 107 = some (Sum.inl [(0, 1), (1, 1), (2, 1), (3, 1), (4, 1)]) := by kernel_rfl
@[go_sem] theorem eq107 : eqL Tryz.prog 107 = some [(0, 2), (1, 1), (2, 1), (3, 2), (4, 1)] := by kernel_rfl
@[go_sem] theorem fd107_0 : fldT Tryz.prog 107 0 = some (0, 9) := by kernel_rfl
@[go_sem] theorem fd107_1 : fldT Tryz.prog 107 1 = some (1, 3) := by kernel_rfl
@[go_sem] theorem fd107_2 : fldT Tryz.prog 107 2 = some (2, 3) := by kernel_rfl
@[go_sem] theorem fd107_3 : fldT Tryz.prog 107 3 = some (3, 9) := by kernel_rfl
@[go_sem] theorem fd107_4 : fldT Tryz.prog 107 4 = some (4, 5) := by kernel_rfl
@[go_sem] theorem sf108 : selfT Tryz.prog 108 = false := by kernel_rfl
@[go_sem] theorem sz108 : szT Tryz.prog 108 = some 1 := by kernel_rfl
@[go_sem] theorem ag108 : aggT Tryz.prog 108 = some false := by kernel_rfl
@[go_sem] theorem zr108 : zeroT Tryz.prog 108 = some [AV.nf] := by kernel_rfl
@[go_sem] theorem u8108 : u8T Tryz.prog 108 = false := by kernel_rfl
@[go_sem] theorem sf109 : selfT Tryz.prog 109 = false := by kernel_rfl
@[go_sem] theorem sz109 : szT Tryz.prog 109 = some 1 := by kernel_rfl
@[go_sem] theorem ag109 : aggT Tryz.prog 109 = some false := by kernel_rfl
@[go_sem] theorem zr109 : zeroT Tryz.prog 109 = some [AV.nf] := by kernel_rfl
@[go_sem] theorem u8109 : u8T Tryz.prog 109 = false := by kernel_rfl
@[go_sem] theorem sf110 : selfT Tryz.prog 110 = false := by kernel_rfl
@[go_sem] theorem sz110 : szT Tryz.prog 110 = some 1 := by kernel_rfl
@[go_sem] theorem ag110 : aggT Tryz.prog 110 = some false := by kernel_rfl
@[go_sem] theorem zr110 : zeroT Tryz.prog 110 = some [AV.nf] := by kernel_rfl
@[go_sem] theorem u8110 : u8T Tryz.prog 110 = false := by kernel_rfl
@[go_sem] theorem sf111 : selfT Tryz.prog 111 = false := by kernel_rfl
@[go_sem] theorem sz111 : szT Tryz.prog 111 = some 1 := by kernel_rfl
@[go_sem] theorem ag111 : aggT Tryz.prog 111 = some false := by kernel_rfl
@[go_sem] theorem zr111 : zeroT Tryz.prog 111 = some [AV.nf] := by kernel_rfl
@[go_sem] theorem u8111 : u8T Tryz.prog 111 = false := by kernel_rfl
@[go_sem] theorem un112 : Program.underlying Tryz.prog 112 = some (TypeDesc.pointer 115) := by kernel_rfl
@[go_sem] theorem sf112 : selfT Tryz.prog 112 = false := by kernel_rfl
@[go_sem] theorem sz112 : szT Tryz.prog 112 = some 1 := by kernel_rfl
@[go_sem] theorem ag112 : aggT Tryz.prog 112 = some false := by kernel_rfl
@[go_sem] theorem zr112 : zeroT Tryz.prog 112 = some [AV.np] := by kernel_rfl
@[go_sem] theorem u8112 : u8T Tryz.prog 112 = false := by kernel_rfl
@[go_sem] theorem pt112 : ptrT Tryz.prog 112 = true := by kernel_rfl
@[go_sem] theorem un113 : Program.underlying Tryz.prog 113 = some (TypeDesc.slice 5) := by kernel_rfl
@[go_sem] theorem sf113 : selfT Tryz.prog 113 = false := by kernel_rfl
@[go_sem] theorem sz113 : szT Tryz.prog 113 = some 1 := by kernel_rfl
@[go_sem] theorem ag113 : aggT Tryz.prog 113 = some false := by kernel_rfl
@[go_sem] theorem zr113 : zeroT Tryz.prog 113 = some [AV.nils] := by kernel_rfl
@[go_sem] theorem u8113 : u8T Tryz.prog 113 = false := by kernel_rfl
@[go_sem] theorem el113 : elT Tryz.prog 113 = some (1, 5) := by kernel_rfl
@[go_sem] theorem sf114 : selfT Tryz.prog 114 = false := by kernel_rfl
@[go_sem] theorem sz114 : szT Tryz.prog 114 = some 2 := by kernel_rfl
@[go_sem] theorem ag114 : aggT Tryz.prog 114 = some true := by kernel_rfl
@[go_sem] theorem zr114 : zeroT Tryz.prog 114 = some [AV.np, AV.nils] := by kernel_rfl
@[go_sem] theorem u8114 : u8T Tryz.prog 114 = false := by kernel_rfl
@[go_sem] theorem if114 : ifcT Tryz.prog 114 = false := by kernel_rfl
@[go_sem] theorem pl114 : plT Tryz.prog 114 = some (Sum.inl [(0, 1), (1, 1)]) := by kernel_rfl
@[go_sem] theorem fd114_0 : fldT Tryz.prog 114 0 = some (0, 112) := by kernel_rfl
@[go_sem] theorem fd114_1 : fldT Tryz.prog 114 1 = some (1, 113) := by kernel_rfl
@[go_sem] theorem sf115 : selfT Tryz.prog 115 = true := by kernel_rfl
@[go_sem] theorem sz115 : szT Tryz.prog 115 = some 2 := by kernel_rfl
@[go_sem] theorem ag115 : aggT Tryz.prog 115 = some true := by kernel_rfl
@[go_sem] theorem zr115 : zeroT Tryz.prog 115 = some [AV.np, AV.nils] := by kernel_rfl
@[go_sem] theorem u8115 : u8T Tryz.prog 115 = false := by kernel_rfl
@[go_sem] theorem if115 : ifcT Tryz.prog 115 = false := by kernel_rfl
@[go_sem] theorem pl115 : plT Tryz.prog 115 = some (Sum.inl [(0, 1), (1, 1)]) := by kernel_rfl
@[go_sem] theorem fd115_0 : fldT Tryz.prog 115 0 = some (0, 112) := by kernel_rfl
@[go_sem] theorem fd115_1 : fldT Tryz.prog 115 1 = some (1, 113) := by kernel_rfl
@[go_sem] theorem sf116 : selfT Tryz.prog 116 = false := by kernel_rfl
@[go_sem] theorem sz116 : szT Tryz.prog 116 = some 1 := by kernel_rfl
@[go_sem] theorem ag116 : aggT Tryz.prog 116 = some false := by kernel_rfl
@[go_sem] theorem zr116 : zeroT Tryz.prog 116 = some [AV.nf] := by kernel_rfl
@[go_sem] theorem u8116 : u8T Tryz.prog 116 = false := by kernel_rfl
@[go_sem] theorem sf117 : selfT Tryz.prog 117 = false := by kernel_rfl
@[go_sem] theorem sz117 : szT Tryz.prog 117 = some 1 := by kernel_rfl
@[go_sem] theorem ag117 : aggT Tryz.prog 117 = some false := by kernel_rfl
@[go_sem] theorem zr117 : zeroT Tryz.prog 117 = some [AV.nf] := by kernel_rfl
@[go_sem] theorem u8117 : u8T Tryz.prog 117 = false := by kernel_rfl
@[go_sem] theorem sf118 : selfT Tryz.prog 118 = false := by kernel_rfl
@[go_sem] theorem sz118 : szT Tryz.prog 118 = some 1 := by kernel_rfl
@[go_sem] theorem ag118 : aggT Tryz.prog 118 = some false := by kernel_rfl
@[go_sem] theorem zr118 : zeroT Tryz.prog 118 = some [AV.nf] := by kernel_rfl
@[go_sem] theorem u8118 : u8T Tryz.prog 118 = false := by kernel_rfl
@[go_sem] theorem sf119 : selfT Tryz.prog 119 = false := by kernel_rfl
@[go_sem] theorem sz119 : szT Tryz.prog 119 = some 1 := by kernel_rfl
@[go_sem] theorem ag119 : aggT Tryz.prog 119 = some false := by kernel_rfl
@[go_sem] theorem zr119 : zeroT Tryz.prog 119 = some [AV.nf] := by kernel_rfl
@[go_sem] theorem u8119 : u8T Tryz.prog 119 = false := by kernel_rfl
@[go_sem] theorem sf120 : selfT Tryz.prog 120 = false := by kernel_rfl
@[go_sem] theorem sz120 : szT Tryz.prog 120 = some 1 := by kernel_rfl
@[go_sem] theorem ag120 : aggT Tryz.prog 120 = some false := by kernel_rfl
@[go_sem] theorem zr120 : zeroT Tryz.prog 120 = some [AV.nf] := by kernel_rfl
@[go_sem] theorem u8120 : u8T Tryz.prog 120 = false := by kernel_rfl
@[go_sem] theorem sf121 : selfT Tryz.prog 121 = false := by kernel_rfl
@[go_sem] theorem sz121 : szT Tryz.prog 121 = some 1 := by kernel_rfl
@[go_sem] theorem ag121 : aggT Tryz.prog 121 = some false := by kernel_rfl
@[go_sem] theorem zr121 : zeroT Tryz.prog 121 = some [AV.nf] := by kernel_rfl
@[go_sem] theorem u8121 : u8T Tryz.prog 121 = false := by kernel_rfl
@[go_sem] theorem sf122 : selfT Tryz.prog 122 = false := by kernel_rfl
@[go_sem] theorem sz122 : szT Tryz.prog 122 = some 1 := by kernel_rfl
@[go_sem] theorem ag122 : aggT Tryz.prog 122 = some false := by kernel_rfl
@[go_sem] theorem u8122 : u8T Tryz.prog 122 = false := by kernel_rfl
@[go_sem] theorem sf123 : selfT Tryz.prog 123 = false := by kernel_rfl
@[go_sem] theorem sz123 : szT Tryz.prog 123 = some 1 := by kernel_rfl
@[go_sem] theorem ag123 : aggT Tryz.prog 123 = some false := by kernel_rfl
@[go_sem] theorem zr123 : zeroT Tryz.prog 123 = some [AV.nf] := by kernel_rfl
@[go_sem] theorem u8123 : u8T Tryz.prog 123 = false := by kernel_rfl
@[go_sem] theorem sf124 : selfT Tryz.prog 124 = false := by kernel_rfl
@[go_sem] theorem sz124 : szT Tryz.prog 124 = some 1 := by kernel_rfl
@[go_sem] theorem ag124 : aggT Tryz.prog 124 = some false := by kernel_rfl
@[go_sem] theorem zr124 : zeroT Tryz.prog 124 = some [AV.nf] := by kernel_rfl
@[go_sem] theorem u8124 : u8T Tryz.prog 124 = false := by kernel_rfl
@[go_sem] theorem un125 : Program.underlying Tryz.prog 125 = some (TypeDesc.pointer 94) := by kernel_rfl
@[go_sem] theorem sf125 : selfT Tryz.prog 125 = false := by kernel_rfl
@[go_sem] theorem sz125 : szT Tryz.prog 125 = some 1 := by kernel_rfl
@[go_sem] theorem ag125 : aggT Tryz.prog 125 = some false := by kernel_rfl
@[go_sem] theorem zr125 : zeroT Tryz.prog 125 = some [AV.np] := by kernel_rfl
@[go_sem] theorem u8125 : u8T Tryz.prog 125 = false := by kernel_rfl
@[go_sem] theorem pt125 : ptrT Tryz.prog 125 = true := by kernel_rfl
@[go_sem] theorem sf126 : selfT Tryz.prog 126 = false := by kernel_rfl
@[go_sem] theorem sz126 : szT Tryz.prog 126 = some 1 := by kernel_rfl
@[go_sem] theorem ag126 : aggT Tryz.prog 126 = some false := by kernel_rfl
@[go_sem] theorem zr126 : zeroT Tryz.prog 126 = some [AV.nf] := by kernel_rfl
@[go_sem] theorem u8126 : u8T Tryz.prog 126 = false := by kernel_rfl
@[go_sem] theorem sf127 : selfT Tryz.prog 127 = false := by kernel_rfl
@[go_sem] theorem sz127 : szT Tryz.prog 127 = some 1 := by kernel_rfl
@[go_sem] theorem ag127 : aggT Tryz.prog 127 = some false := by kernel_rfl
@[go_sem] theorem zr127 : zeroT Tryz.prog 127 = some [AV.nf] := by kernel_rfl
@[go_sem] theorem u8127 : u8T Tryz.prog 127 = false := by kernel_rfl
@[go_sem] theorem sf128 : selfT Tryz.prog 128 = false := by kernel_rfl
@[go_sem] theorem sz128 : szT Tryz.prog 128 = some 3 := by kernel_rfl
@[go_sem] theorem ag128 : aggT Tryz.prog 128 = some true := by kernel_rfl
@[go_sem] theorem zr128 : zeroT Tryz.prog 128 = some [AV.s [], AV.i IntKind.i64 0, AV.i IntKind.i64 0] := by kernel_rfl
@[go_sem] theorem u8128 : u8T Tryz.prog 128 = false := by kernel_rfl
@[go_sem] theorem if128 : ifcT Tryz.prog 128 = false := by kernel_rfl
@[go_sem] theorem pl128 : plT Tryz.prog 128 = some (Sum.inl [(0, 1), (1, 1), (2, 1)]) := by kernel_rfl
@[go_sem] theorem eq128 : eqL Tryz.prog 128 = some [(0, 2), (1, 1), (2, 1)] := by kernel_rfl
@[go_sem] theorem fd128_0 : fldT Tryz.prog 128 0 = some (0, 9) := by kernel_rfl
@[go_sem] theorem fd128_1 : fldT Tryz.prog 128 1 = some (1, 3) := by kernel_rfl
@[go_sem] theorem fd128_2 : fldT Tryz.prog 128 2 = some (2, 3) := by kernel_rfl
@[go_sem] theorem sf129 : selfT Tryz.prog 129 = false := by kernel_rfl
@[go_sem] theorem sz129 : szT Tryz.prog 129 = some 3 := by kernel_rfl
@[go_sem] theorem ag129 : aggT Tryz.prog 129 = some true := by kernel_rfl
@[go_sem] theorem zr129 : zeroT Tryz.prog 129 = some [AV.s [], AV.i IntKind.i64 0, AV.i IntKind.i64 0] := by kernel_rfl
@[go_sem] theorem u8129 : u8T Tryz.prog 129 = false := by kernel_rfl
@[go_sem] theorem if129 : ifcT Tryz.prog 129 = false := by kernel_rfl
@[go_sem] theorem pl129 : plT Tryz.prog 129 = some (Sum.inl [(0, 1), (1, 1), (2, 1)]) := by kernel_rfl
@[go_sem] theorem eq129 : eqL Tryz.prog 129 = some [(0, 2), (1, 1), (2, 1)] := by kernel_rfl
@[go_sem] theorem fd129_0 : fldT Tryz.prog 129 0 = some (0, 9) := by kernel_rfl
@[go_sem] theorem fd129_1 : fldT Tryz.prog 129 1 = some (1, 3) := by kernel_rfl
@[go_sem] theorem fd129_2 : fldT Tryz.prog 129 2 = some (2, 3) := by kernel_rfl
@[go_sem] theorem sf130 : selfT Tryz.prog 130 = false := by kernel_rfl
@[go_sem] theorem sz130 : szT Tryz.prog 130 = some 1 := by kernel_rfl
@[go_sem] theorem ag130 : aggT Tryz.prog 130 = some false := by kernel_rfl
@[go_sem] theorem zr130 : zeroT Tryz.prog 130 = some [AV.nf] := by kernel_rfl
@[go_sem] theorem u8130 : u8T Tryz.prog 130 = false := by kernel_rfl
@[go_sem] theorem sf131 : selfT Tryz.prog 131 = false := by kernel_rfl
@[go_sem] theorem sz131 : szT Tryz.prog 131 = some 1 := by kernel_rfl
@[go_sem] theorem ag131 : aggT Tryz.prog 131 = some false := by kernel_rfl
@[go_sem] theorem zr131 : zeroT Tryz.prog 131 = some [AV.nf] := by kernel_rfl
@[go_sem] theorem u8131 : u8T Tryz.prog 131 = false := by kernel_rfl
@[go_sem] theorem sf132 : selfT Tryz.prog 132 = false := by kernel_rfl
@[go_sem] theorem sz132 : szT Tryz.prog 132 = some 1 := by kernel_rfl
@[go_sem] theorem ag132 : aggT Tryz.prog 132 = some false := by kernel_rfl
@[go_sem] theorem u8132 : u8T Tryz.prog 132 = false := by kernel_rfl
@[go_sem] theorem sf133 : selfT Tryz.prog 133 = false := by kernel_rfl
@[go_sem] theorem sz133 : szT Tryz.prog 133 = some 1 := by kernel_rfl
@[go_sem] theorem ag133 : aggT Tryz.prog 133 = some false := by kernel_rfl
@[go_sem] theorem zr133 : zeroT Tryz.prog 133 = some [AV.nf] := by kernel_rfl
@[go_sem] theorem u8133 : u8T Tryz.prog 133 = false := by kernel_rfl
@[go_sem] theorem sf134 : selfT Tryz.prog 134 = false := by kernel_rfl
@[go_sem] theorem sz134 : szT Tryz.prog 134 = some 1 := by kernel_rfl
@[go_sem] theorem ag134 : aggT Tryz.prog 134 = some false := by kernel_rfl
@[go_sem] theorem zr134 : zeroT Tryz.prog 134 = some [AV.nf] := by kernel_rfl
@[go_sem] theorem u8134 : u8T Tryz.prog 134 = false := by kernel_rfl
@[go_sem] theorem sf135 : selfT Tryz.prog 135 = false := by kernel_rfl
@[go_sem] theorem sz135 : szT Tryz.prog 135 = some 1 := by kernel_rfl
@[go_sem] theorem ag135 : aggT Tryz.prog 135 = some false := by kernel_rfl
@[go_sem] theorem zr135 : zeroT Tryz.prog 135 = some [AV.nf] := by kernel_rfl
@[go_sem] theorem u8135 : u8T Tryz.prog 135 = false := by kernel_rfl
@[go_sem] theorem sf136 : selfT Tryz.prog 136 = false := by kernel_rfl
@[go_sem] theorem sz136 : szT Tryz.prog 136 = some 1 := by kernel_rfl
@[go_sem] theorem ag136 : aggT Tryz.prog 136 = some false := by kernel_rfl
@[go_sem] theorem zr136 : zeroT Tryz.prog 136 = some [AV.nf] := by kernel_rfl
@[go_sem] theorem u8136 : u8T Tryz.prog 136 = false := by kernel_rfl
@[go_sem] theorem un137 : Program.underlying Tryz.prog 137 = some (TypeDesc.pointer 5) := by kernel_rfl
@[go_sem] theorem sf137 : selfT Tryz.prog 137 = false := by kernel_rfl
@[go_sem] theorem sz137 : szT Tryz.prog 137 = some 1 := by kernel_rfl
@[go_sem] theorem ag137 : aggT Tryz.prog 137 = some false := by kernel_rfl
@[go_sem] theorem zr137 : zeroT Tryz.prog 137 = some [AV.np] := by kernel_rfl
@[go_sem] theorem u8137 : u8T Tryz.prog 137 = false := by kernel_rfl
@[go_sem] theorem pt137 : ptrT Tryz.prog 137 = true := by kernel_rfl
@[go_sem] theorem sf138 : selfT Tryz.prog 138 = false := by kernel_rfl
@[go_sem] theorem sz138 : szT Tryz.prog 138 = some 1 := by kernel_rfl
@[go_sem] theorem ag138 : aggT Tryz.prog 138 = some false := by kernel_rfl
@[go_sem] theorem zr138 : zeroT Tryz.prog 138 = some [AV.nf] := by kernel_rfl
@[go_sem] theorem u8138 : u8T Tryz.prog 138 = false := by kernel_rfl
@[go_sem] theorem sf139 : selfT Tryz.prog 139 = false := by kernel_rfl
@[go_sem] theorem sz139 : szT Tryz.prog 139 = some 1 := by kernel_rfl
@[go_sem] theorem ag139 : aggT Tryz.prog 139 = some false := by kernel_rfl
@[go_sem] theorem zr139 : zeroT Tryz.prog 139 = some [AV.nf] := by kernel_rfl
@[go_sem] theorem u8139 : u8T Tryz.prog 139 = false := by kernel_rfl
@[go_sem] theorem un140 : Program.underlying Tryz.prog 140 = some (TypeDesc.int IntKind.i64) := by kernel_rfl
@[go_sem] theorem sf140 : selfT Tryz.prog 140 = false := by kernel_rfl
@[go_sem] theorem sz140 : szT Tryz.prog 140 = some 1 := by kernel_rfl
@[go_sem] theorem ag140 : aggT Tryz.prog 140 = some false := by kernel_rfl
@[go_sem] theorem zr140 : zeroT Tryz.prog 140 = some [AV.i IntKind.i64 0] := by kernel_rfl
@[go_sem] theorem u8140 : u8T Tryz.prog 140 = false := by kernel_rfl
@[go_sem] theorem sf141 : selfT Tryz.prog 141 = false := by kernel_rfl
@[go_sem] theorem sz141 : szT Tryz.prog 141 = some 1 := by kernel_rfl
@[go_sem] theorem ag141 : aggT Tryz.prog 141 = some false := by kernel_rfl
@[go_sem] theorem u8141 : u8T Tryz.prog 141 = false := by kernel_rfl
@[go_sem] theorem sf142 : selfT Tryz.prog 142 = false := by kernel_rfl
@[go_sem] theorem sz142 : szT Tryz.prog 142 = some 1 := by kernel_rfl
@[go_sem] theorem ag142 : aggT Tryz.prog 142 = some false := by kernel_rfl
@[go_sem] theorem zr142 : zeroT Tryz.prog 142 = some [AV.nf] := by kernel_rfl
@[go_sem] theorem u8142 : u8T Tryz.prog 142 = false := by kernel_rfl
@[go_sem] theorem un143 : Program.underlying Tryz.prog 143 = some (TypeDesc.pointer 183) := by kernel_rfl
@[go_sem] theorem sf143 : selfT Tryz.prog 143 = false := by kernel_rfl
@[go_sem] theorem sz143 : szT Tryz.prog 143 = some 1 := by kernel_rfl
@[go_sem] theorem ag143 : aggT Tryz.prog 143 = some false := by kernel_rfl
@[go_sem] theorem zr143 : zeroT Tryz.prog 143 = some [AV.np] := by kernel_rfl
@[go_sem] theorem u8143 : u8T Tryz.prog 143 = false := by kernel_rfl
@[go_sem] theorem pt143 : ptrT Tryz.prog 143 = true := by kernel_rfl
@[go_sem] theorem sf144 : selfT Tryz.prog 144 = false := by kernel_rfl
@[go_sem] theorem sz144 : szT Tryz.prog 144 = some 1 := by kernel_rfl
@[go_sem] theorem ag144 : aggT Tryz.prog 144 = some false := by kernel_rfl
@[go_sem] theorem zr144 : zeroT Tryz.prog 144 = some [AV.nf] := by kernel_rfl
@[go_sem] theorem u8144 : u8T Tryz.prog 144 = false := by kernel_rfl
@[go_sem] theorem sf145 : selfT Tryz.prog 145 = false := by kernel_rfl
@[go_sem] theorem sz145 : szT Tryz.prog 145 = some 1 := by kernel_rfl
@[go_sem] theorem ag145 : aggT Tryz.prog 145 = some false := by kernel_rfl
@[go_sem] theorem zr145 : zeroT Tryz.prog 145 = some [AV.nf] := by kernel_rfl
@[go_sem] theorem u8145 : u8T Tryz.prog 145 = false := by kernel_rfl
@[go_sem] theorem un146 : Program.underlying Tryz.prog 146 = some (TypeDesc.array 256 5) := by kernel_rfl
@[go_sem] theorem sf146 : selfT Tryz.prog 146 = false := by kernel_rfl
@[go_sem] theorem sz146 : szT Tryz.prog 146 = some 256 := by kernel_rfl
@[go_sem] theorem ag146 : aggT Tryz.prog 146 = some true := by kernel_rfl
@[go_sem] theorem zr146 : zeroT Tryz.prog 146 = some [AV.i IntKind.u8 0, AV.i IntKind.u8 0, AV.i IntKind.u8 0, AV.i IntKind.u8 0, AV.i IntKind.u8 0, AV.i IntKind.u8 0, AV.i IntKind.u8 0, AV.i IntKind.u8 0, AV.i IntKind.u8 0, AV.i IntKind.u8 0, AV.i IntKind.u8 0, AV.i IntKind.u8 0, AV.i IntKind.u8 0, AV.i IntKind.u8 0, AV.i IntKind.u8 0, AV.i IntKind.u8 0, AV.i IntKind.u8 0, AV.i IntKind.u8 0, AV.i IntKind.u8 0, AV.i IntKind.u8 0, AV.i IntKind.u8 0, AV.i IntKind.u8 0, AV.i IntKind.u8 0, AV.i IntKind.u8 0, AV.i IntKind.u8 0, AV.i IntKind.u8 0, AV.i IntKind.u8 0, AV.i IntKind.u8 0, AV.i IntKind.u8 0, AV.i IntKind.u8 0, AV.i IntKind.u8 0, AV.i IntKind.u8 0, AV.i IntKind.u8 0, AV.i IntKind.u8 0, AV.i IntKind.u8 0, AV.i IntKind.u8 0, AV.i IntKind.u8 0, AV.i IntKind.u8 0, AV.i IntKind.u8 0, AV.i IntKind.u8 0, AV.i IntKind.u8 0, AV.i IntKind.u8 0, AV.i IntKind.u8 0, AV.i IntKind.u8 0, AV.i IntKind.u8 0, AV.i IntKind.u8 0, AV.i IntKind.u8 0, AV.i IntKind.u8 0, AV.i IntKind.u8 0, AV.i IntKind.u8 0, AV.i IntKind.u8 0, AV.i IntKind.u8 0, AV.i IntKind.u8 0, AV.i IntKind.u8 0, AV.i IntKind.u8 0, AV.i IntKind.u8 0, AV.i IntKind.u8 0, AV.i IntKind.u8 0, AV.i IntKind.u8 0, AV.i IntKind.u8 0, AV.i IntKind.u8 0, AV.i IntKind.u8 0, AV.i IntKind.u8 0, AV.i IntKind.u8 0, AV.i IntKind.u8 0, AV.i IntKind.u8 0, AV.i IntKind.u8 0, AV.i IntKind.u8 0, AV.i IntKind.u8 0, AV.i IntKind.u8 0, AV.i IntKind.u8 0, AV.i IntKind.u8 0, AV.i IntKind.u8 0, AV.i IntKind.u8 0, AV.i IntKind.u8 0, AV.i IntKind.u8 0, AV.i IntKind.u8 0, AV.i IntKind.u8 0, AV.i IntKind.u8 0, AV.i IntKind.u8 0, AV.i IntKind.u8 0, AV.i IntKind.u8 0, AV.i IntKind.u8 0, AV.i IntKind.u8 0, AV.i IntKind.u8 0, AV.i IntKind.u8 0, AV.i IntKind.u8 0, AV.i IntKind.u8 0, AV.i IntKind.u8 0, AV.i IntKind.u8 0, AV.i IntKind.u8 0, AV.i IntKind.u8 0, AV.i IntKind.u8 0, AV.i IntKind.u8 0, AV.i IntKind.u8 0, AV.i IntKind.u8 0, AV.i IntKind.u8 0, AV.i IntKind.u8 0, AV.i IntKind.u8 0, AV.i IntKind.u8 0, AV.i IntKind.u8 0, AV.i IntKind.u8 0, AV.i IntKind.u8 0, AV.i IntKind.u8 0, AV.i IntKind.u8 0, AV.i IntKind.u8 0, AV.i IntKind.u8 0, AV.i IntKind.u8 0, AV.i IntKind.u8 0, AV.i IntKind.u8 0, AV.i IntKind.u8 0, AV.i IntKind.u8 0, AV.i IntKind.u8 0, AV.i IntKind.u8 0, AV.i IntKind.u8 0, AV.i IntKind.u8 0, AV.i IntKind.u8 0, AV.i IntKind.u8 0, AV.i IntKind.u8 0, AV.i IntKind.u8 0, AV.i IntKind.u8 0, AV.i IntKind.u8 0, AV.i IntKind.u8 0, AV.i IntKind.u8 0, AV.i IntKind.u8 0, AV.i IntKind.u8 0, AV.i IntKind.u8 0, AV.i IntKind.u8 0, AV.i IntKind.u8 0, AV.i IntKind.u8 0, AV.i IntKind.u8 0, AV.i IntKind.u8 0, AV.i IntKind.u8 0, AV.i IntKind.u8 0, AV.i IntKind.u8 0, AV.i IntKind.u8 0, AV.i IntKind.u8 0, AV.i IntKind.u8 0, AV.i IntKind.u8 0, AV.i IntKind.u8 0, AV.i IntKind.u8 0, AV.i IntKind.u8 0, AV.i IntKind.u8 0, AV.i IntKind.u8 0, AV.i IntKind.u8 0, AV.i IntKind.u8 0, AV.i IntKind.u8 0, AV.i IntKind.u8 0, AV.i IntKind.u8 0, AV.i IntKind.u8 0, AV.i IntKind.u8 0, AV.i IntKind.u8 0, AV.i IntKind.u8 0, AV.i IntKind.u8 0, AV.i IntKind.u8 0, AV.i IntKind.u8 0, AV.i IntKind.u8 0, AV.i IntKind.u8 0, AV.i IntKind.u8 0, AV.i IntKind.u8 0, AV.i IntKind.u8 0, AV.i IntKind.u8 0, AV.i IntKind.u8 0, AV.i IntKind.u8 0, AV.i IntKind.u8 0, AV.i IntKind.u8 0, AV.i IntKind.u8 0, AV.i IntKind.u8 0, AV.i IntKind.u8 0, AV.i IntKind.u8 0, AV.i IntKind.u8 0, AV.i IntKind.u8 0, AV.i IntKind.u8 0, AV.i IntKind.u8 0, AV.i IntKind.u8 0, AV.i IntKind.u8 0, AV.i IntKind.u8 0, AV.i IntKind.u8 0, AV.i IntKind.u8 0, AV.i IntKind.u8 0, AV.i IntKind.u8 0, AV.i IntKind.u8 0, AV.i IntKind.u8 0, AV.i IntKind.u8 0, AV.i IntKind.u8 0, AV.i IntKind.u8 0, AV.i IntKind.u8 0, AV.i IntKind.u8 0, AV.i IntKind.u8 0, AV.i IntKind.u8 0, AV.i IntKind.u8 0, AV.i IntKind.u8 0, AV.i IntKind.u8 0, AV.i IntKind.u8 0, AV.i IntKind.u8 0, AV.i IntKind.u8 0, AV.i IntKind.u8 0, AV.i IntKind.u8 0, AV.i IntKind.u8 0, AV.i IntKind.u8 0, AV.i IntKind.u8 0, AV.i IntKind.u8 0, AV.i IntKind.u8 0, AV.i IntKind.u8 0, AV.i IntKind.u8 0, AV.i IntKind.u8 0, AV.i IntKind.u8 0, AV.i IntKind.u8 0, AV.i IntKind.u8 0, AV.i IntKind.u8 0, AV.i IntKind.u8 0, AV.i IntKind.u8 0, AV.i IntKind.u8 0, AV.i IntKind.u8 0, AV.i IntKind.u8 0, AV.i IntKind.u8 0, AV.i IntKind.u8 0, AV.i IntKind.u8 0, AV.i IntKind.u8 0, AV.i IntKind.u8 0, AV.i IntKind.u8 0, AV.i IntKind.u8 0, AV.i IntKind.u8 0, AV.i IntKind.u8 0, AV.i IntKind.u8 0, AV.i IntKind.u8 0, AV.i IntKind.u8 0, AV.i IntKind.u8 0, AV.i IntKind.u8 0, AV.i IntKind.u8 0, AV.i IntKind.u8 0, AV.i IntKind.u8 0, AV.i IntKind.u8 0, AV.i IntKind.u8 0, AV.i IntKind.u8 0, AV.i IntKind.u8 0, AV.i IntKind.u8 0, AV.i IntKind.u8 0, AV.i IntKind.u8 0, AV.i IntKind.u8 0, AV.i IntKind.u8 0, AV.i IntKind.u8 0, AV.i IntKind.u8 0, AV.i IntKind.u8 0, AV.i IntKind.u8 0, AV.i IntKind.u8 0, AV.i IntKind.u8 0, AV.i IntKind.u8 0, AV.i IntKind.u8 0, AV.i IntKind.u8 0, AV.i IntKind.u8 0, AV.i IntKind.u8 0, AV.i IntKind.u8 0, AV.i IntKind.u8 0, AV.i IntKind.u8 0, AV.i IntKind.u8 0] := by kernel_rfl
@[go_sem] theorem u8146 : u8T Tryz.prog 146 = false := by kernel_rfl
@[go_sem] theorem el146 : elT Tryz.prog 146 = none := by kernel_rfl
@[go_sem] theorem ar146 : arT Tryz.prog 146 = some (256, 1) := by kernel_rfl
@[go_sem] theorem pl146 : plT Tryz.prog 146 = some (Sum.inr 1) := by kernel_rfl
@[go_sem] theorem sf147 : selfT Tryz.prog 147 = false := by kernel_rfl
@[go_sem] theorem sz147 : szT Tryz.prog 147 = some 1 := by kernel_rfl
@[go_sem] theorem ag147 : aggT Tryz.prog 147 = some false := by kernel_rfl
@[go_sem] theorem zr147 : zeroT Tryz.prog 147 = some [AV.nf] := by kernel_rfl
@[go_sem] theorem u8147 : u8T Tryz.prog 147 = false := by kernel_rfl
@[go_sem] theorem sf148 : selfT Tryz.prog 148 = false := by kernel_rfl
@[go_sem] theorem sz148 : szT Tryz.prog 148 = some 1 := by kernel_rfl
@[go_sem] theorem ag148 : aggT Tryz.prog 148 = some false := by kernel_rfl
@[go_sem] theorem zr148 : zeroT Tryz.prog 148 = some [AV.nf] := by kernel_rfl
@[go_sem] theorem u8148 : u8T Tryz.prog 148 = false := by kernel_rfl
@[go_sem] theorem sf149 : selfT Tryz.prog 149 = false := by kernel_rfl
@[go_sem] theorem sz149 : szT Tryz.prog 149 = some 1 := by kernel_rfl
@[go_sem] theorem ag149 : aggT Tryz.prog 149 = some false := by kernel_rfl
@[go_sem] theorem zr149 : zeroT Tryz.prog 149 = some [AV.nf] := by kernel_rfl
@[go_sem] theorem u8149 : u8T Tryz.prog 149 = false := by kernel_rfl
@[go_sem] theorem sf150 : selfT Tryz.prog 150 = false := by kernel_rfl
@[go_sem] theorem sz150 : szT Tryz.prog 150 = some 1 := by kernel_rfl
@[go_sem] theorem ag150 : aggT Tryz.prog 150 = some true := by kernel_rfl
@[go_sem] theorem zr150 : zeroT Tryz.prog 150 = some [AV.i IntKind.i64 0] := by kernel_rfl
@[go_sem] theorem u8150 : u8T Tryz.prog 150 = false := by kernel_rfl
@[go_sem] theorem if150 : ifcT Tryz.prog 150 = false := by kernel_rfl
@[go_sem] theorem pl150 : plT Tryz.prog 150 = some (Sum.inl [(0, 1)]) := by kernel_rfl
@[go_sem] theorem eq150 : eqL Tryz.prog 150 = some [(0, 1)] := by kernel_rfl
@[go_sem] theorem fd150_0 : fldT Tryz.prog 150 0 = some (0, 28) := by kernel_rfl
@[go_sem] theorem sf151 : selfT Tryz.prog 151 = false := by kernel_rfl
@[go_sem] theorem sz151 : szT Tryz.prog 151 = some 1 := by kernel_rfl
@[go_sem] theorem ag151 : aggT Tryz.prog 151 = some true := by kernel_rfl
@[go_sem] theorem zr151 : zeroT Tryz.prog 151 = some [AV.i IntKind.i64 0] := by kernel_rfl
@[go_sem] theorem u8151 : u8T Tryz.prog 151 = false := by kernel_rfl
@[go_sem] theorem if151 : ifcT Tryz.prog 151 = false := by kernel_rfl
@[go_sem] theorem pl151 : plT Tryz.prog 151 = some (Sum.inl [(0, 1)]) := by kernel_rfl
@[go_sem] theorem eq151 : eqL Tryz.prog 151 = some [(0, 1)] := by kernel_rfl
@[go_sem] theorem fd151_0 : fldT Tryz.prog 151 0 = some (0, 28) := by kernel_rfl
@[go_sem] theorem sf152 : selfT Tryz.prog 152 = false := by kernel_rfl
@[go_sem] theorem sz152 : szT Tryz.prog 152 = some 1 := by kernel_rfl
@[go_sem] theorem ag152 : aggT Tryz.prog 152 = some false := by kernel_rfl
@[go_sem] theorem u8152 : u8T Tryz.prog 152 = false := by kernel_rfl
@[go_sem] theorem sf153 : selfT Tryz.prog 153 = false := by kernel_rfl
@[go_sem] theorem sz153 : szT Tryz.prog 153 = some 3 := by kernel_rfl
@[go_sem] theorem ag153 : aggT Tryz.prog 153 = some true := by kernel_rfl
@[go_sem] theorem zr153 : zeroT Tryz.prog 153 = some [AV.s [], AV.i IntKind.i64 0, AV.i IntKind.i64 0] := by kernel_rfl
@[go_sem] theorem u8153 : u8T Tryz.prog 153 = false := by kernel_rfl
@[go_sem] theorem if153 : ifcT Tryz.prog 153 = false := by kernel_rfl
@[go_sem] theorem pl153 : plT Tryz.prog 153 = some (Sum.inl [(0, 1), (1, 1), (2, 1)]) := by kernel_rfl
@[go_sem] theorem eq153 : eqL Tryz.prog 153 = some [(0, 2), (1, 1), (2, 1)] := by kernel_rfl
@[go_sem] theorem fd153_0 : fldT Tryz.prog 153 0 = some (0, 9) := by kernel_rfl
@[go_sem] theorem fd153_1 : fldT Tryz.prog 153 1 = some (1, 3) := by kernel_rfl
@[go_sem] theorem fd153_2 : fldT Tryz.prog 153 2 = some (2, 3) := by kernel_rfl
@[go_sem] theorem sf154 : selfT Tryz.prog 154 = false := by kernel_rfl
@[go_sem] theorem sz154 : szT Tryz.prog 154 = some 3 := by kernel_rfl
@[go_sem] theorem ag154 : aggT Tryz.prog 154 = some true := by kernel_rfl
@[go_sem] theorem zr154 : zeroT Tryz.prog 154 = some [AV.s [], AV.i IntKind.i64 0, AV.i IntKind.i64 0] := by kernel_rfl
@[go_sem] theorem u8154 : u8T Tryz.prog 154 = false := by kernel_rfl
@[go_sem] theorem if154 : ifcT Tryz.prog 154 = false := by kernel_rfl
@[go_sem] theorem pl154 : plT Tryz.prog 154 = some (Sum.inl [(0, 1), (1, 1), (2, 1)]) := by kernel_rfl
@[go_sem] theorem eq154 : eqL Tryz.prog 154 = some [(0, 2), (1, 1), (2, 1)] := by kernel_rfl
@[go_sem] theorem fd154_0 : fldT Tryz.prog 154 0 = some (0, 9) := by kernel_rfl
@[go_sem] theorem fd154_1 : fldT Tryz.prog 154 1 = some (1, 3) := by kernel_rfl
@[go_sem] theorem fd154_2 : fldT Tryz.prog 154 2 = some (2, 3) := by kernel_rfl
@[go_sem] theorem sf155 : selfT Tryz.prog 155 = false := by kernel_rfl
@[go_sem] theorem sz155 : szT Tryz.prog 155 = some 1 := by kernel_rfl
@[go_sem] theorem ag155 : aggT Tryz.prog 155 = some false := by kernel_rfl
@[go_sem] theorem zr155 : zeroT Tryz.prog 155 = some [AV.nf] := by kernel_rfl
@[go_sem] theorem u8155 : u8T Tryz.prog 155 = false := by kernel_rfl
@[go_sem] theorem sf156 : selfT Tryz.prog 156 = false := by kernel_rfl
@[go_sem] theorem sz156 : szT Tryz.prog 156 = some 1 := by kernel_rfl
@[go_sem] theorem ag156 : aggT Tryz.prog 156 = some false := by kernel_rfl
@[go_sem] theorem zr156 : zeroT Tryz.prog 156 = some [AV.nf] := by kernel_rfl
@[go_sem] theorem u8156 : u8T Tryz.prog 156 = false := by kernel_rfl
@[go_sem] theorem sf157 : selfT Tryz.prog 157 = false := by kernel_rfl
@[go_sem] theorem sz157 : szT Tryz.prog 157 = some 1 := by kernel_rfl
@[go_sem] theorem ag157 : aggT Tryz.prog 157 = some false := by kernel_rfl
@[go_sem] theorem zr157 : zeroT Tryz.prog 157 = some [AV.nf] := by kernel_rfl
@[go_sem] theorem u8157 : u8T Tryz.prog 157 = false := by kernel_rfl
@[go_sem] theorem sf158 : selfT Tryz.prog 158 = false := by kernel_rfl
@[go_sem] theorem sz158 : szT Tryz.prog 158 = some 1 := by kernel_rfl
@[go_sem] theorem ag158 : aggT Tryz.prog 158 = some false := by kernel_rfl
@[go_sem] theorem zr158 : zeroT Tryz.prog 158 = some [AV.nf] := by kernel_rfl
@[go_sem] theorem u8158 : u8T Tryz.prog 158 = false := by kernel_rfl
@[go_sem] theorem un159 : Program.underlying Tryz.prog 159 = some (TypeDesc.pointer 3) := by kernel_rfl
@[go_sem] theorem sf159 : selfT Tryz.prog 159 = false := by kernel_rfl
@[go_sem] theorem sz159 : szT Tryz.prog 159 = some 1 := by kernel_rfl
@[go_sem] theorem ag159 : aggT Tryz.prog 159 = some false := by kernel_rfl
@[go_sem] theorem zr159 : zeroT Tryz.prog 159 = some [AV.np] := by kernel_rfl
@[go_sem] theorem u8159 : u8T Tryz.prog 159 = false := by kernel_rfl
@[go_sem] theorem pt159 : ptrT Tryz.prog 159 = true := by kernel_rfl
@[go_sem] theorem sf160 : selfT Tryz.prog 160 = false := by kernel_rfl
@[go_sem] theorem sz160 : szT Tryz.prog 160 = some 2 := by kernel_rfl
@[go_sem] theorem ag160 : aggT Tryz.prog 160 = some true := by kernel_rfl
@[go_sem] theorem zr160 : zeroT Tryz.prog 160 = some [AV.i IntKind.i64 0, AV.i IntKind.i64 0] := by kernel_rfl
@[go_sem] theorem u8160 : u8T Tryz.prog 160 = false := by kernel_rfl
@[go_sem] theorem if160 : ifcT Tryz.prog 160 = false := by kernel_rfl
@[go_sem] theorem pl160 : plT Tryz.prog 160 = some (Sum.inl [(0, 1), (1, 1)]) := by kernel_rfl
@[go_sem] theorem eq160 : eqL Tryz.prog 160 = some [(0, 1), (1, 1)] := by kernel_rfl
@[go_sem] theorem fd160_0 : fldT Tryz.prog 160 0 = some (0, 3) := by kernel_rfl
@[go_sem] theorem fd160_1 : fldT Tryz.prog 160 1 = some (1, 28) := by kernel_rfl
@[go_sem] theorem sf161 : selfT Tryz.prog 161 = false := by kernel_rfl
@[go_sem] theorem sz161 : szT Tryz.prog 161 = some 2 := by kernel_rfl
@[go_sem] theorem ag161 : aggT Tryz.prog 161 = some true := by kernel_rfl
@[go_sem] theorem zr161 : zeroT Tryz.prog 161 = some [AV.i IntKind.i64 0, AV.i IntKind.i64 0] := by kernel_rfl
@[go_sem] theorem u8161 : u8T Tryz.prog 161 = false := by kernel_rfl
@[go_sem] theorem if161 : ifcT Tryz.prog 161 = false := by kernel_rfl
@[go_sem] theorem pl161 : plT Tryz.prog 161 = some (Sum.inl [(0, 1), (1, 1)]) := by kernel_rfl
@[go_sem] theorem eq161 : eqL Tryz.prog 161 = some [(0, 1), (1, 1)] := by kernel_rfl
@[go_sem] theorem fd161_0 : fldT Tryz.prog 161 0 = some (0, 3) := by kernel_rfl
@[go_sem] theorem fd161_1 : fldT Tryz.prog 161 1 = some (1, 28) := by kernel_rfl
@[go_sem] theorem sf162 : selfT Tryz.prog 162 = false := by kernel_rfl
@[go_sem] theorem sz162 : szT Tryz.prog 162 = some 1 := by kernel_rfl
@[go_sem] theorem ag162 : aggT Tryz.prog 162 = some false := by kernel_rfl
@[go_sem] theorem zr162 : zeroT Tryz.prog 162 = some [AV.nf] := by kernel_rfl
@[go_sem] theorem u8162 : u8T Tryz.prog 162 = false := by kernel_rfl
@[go_sem] theorem sf163 : selfT Tryz.prog 163 = false := by kernel_rfl
@[go_sem] theorem sz163 : szT Tryz.prog 163 = some 1 := by kernel_rfl
@[go_sem] theorem ag163 : aggT Tryz.prog 163 = some false := by kernel_rfl
@[go_sem] theorem zr163 : zeroT Tryz.prog 163 = some [AV.nf] := by kernel_rfl
@[go_sem] theorem u8163 : u8T Tryz.prog 163 = false := by kernel_rfl
@[go_sem] theorem sf164 : selfT Tryz.prog 164 = false := by kernel_rfl
@[go_sem] theorem sz164 : szT Tryz.prog 164 = some 1 := by kernel_rfl
@[go_sem] theorem ag164 : aggT Tryz.prog 164 = some false := by kernel_rfl
@[go_sem] theorem zr164 : zeroT Tryz.prog 164 = some [AV.nf] := by kernel_rfl
@[go_sem] theorem u8164 : u8T Tryz.prog 164 = false := by kernel_rfl
@[go_sem] theorem un165 : Program.underlying Tryz.prog 165 = some (TypeDesc.array 24 5) := by kernel_rfl
@[go_sem] theorem sf165 : selfT Tryz.prog 165 = false := by kernel_rfl
@[go_sem] theorem sz165 : szT Tryz.prog 165 = some 24 := by kernel_rfl
@[go_sem] theorem ag165 : aggT Tryz.prog 165 = some true := by kernel_rfl
@[go_sem] theorem zr165 : zeroT Tryz.prog 165 = some [AV.i IntKind.u8 0, AV.i IntKind.u8 0, AV.i IntKind.u8 0, AV.i IntKind.u8 0, AV.i IntKind.u8 0, AV.i IntKind.u8 0, AV.i IntKind.u8 0, AV.i IntKind.u8 0, AV.i IntKind.u8 0, AV.i IntKind.u8 0, AV.i IntKind.u8 0, AV.i IntKind.u8 0, AV.i IntKind.u8 0, AV.i IntKind.u8 0, AV.i IntKind.u8 0, AV.i IntKind.u8 0, AV.i IntKind.u8 0, AV.i IntKind.u8 0, AV.i IntKind.u8 0, AV.i IntKind.u8 0, AV.i IntKind.u8 0, AV.i IntKind.u8 0, AV.i IntKind.u8 0, AV.i IntKind.u8 0] := by kernel_rfl
@[go_sem] theorem u8165 : u8T Tryz.prog 165 = false := by kernel_rfl
@[go_sem] theorem el165 : elT Tryz.prog 165 = none := by kernel_rfl
@[go_sem] theorem ar165 : arT Tryz.prog 165 = some (24, 1) := by kernel_rfl
@[go_sem] theorem pl165 : plT Tryz.prog 165 = some (Sum.inr 1) := by kernel_rfl
@[go_sem] theorem un166 : Program.underlying Tryz.prog 166 = some (TypeDesc.int IntKind.u64) := by kernel_rfl
@[go_sem] theorem sf166 : selfT Tryz.prog 166 = false := by kernel_rfl
@[go_sem] theorem sz166 : szT Tryz.prog 166 = some 1 := by kernel_rfl
@[go_sem] theorem ag166 : aggT Tryz.prog 166 = some false := by kernel_rfl
@[go_sem] theorem zr166 : zeroT Tryz.prog 166 = some [AV.i IntKind.u64 0] := by kernel_rfl
@[go_sem] theorem u8166 : u8T Tryz.prog 166 = false := by kernel_rfl
@[go_sem] theorem sf167 : selfT Tryz.prog 167 = false := by kernel_rfl
@[go_sem] theorem sz167 : szT Tryz.prog 167 = some 1 := by kernel_rfl
@[go_sem] theorem ag167 : aggT Tryz.prog 167 = some false := by kernel_rfl
@[go_sem] theorem zr167 : zeroT Tryz.prog 167 = some [AV.nf] := by kernel_rfl
@[go_sem] theorem u8167 : u8T Tryz.prog 167 = false := by kernel_rfl
@[go_sem] theorem sf168 : selfT Tryz.prog 168 = false := by kernel_rfl
@[go_sem] theorem sz168 : szT Tryz.prog 168 = some 1 := by kernel_rfl
@[go_sem] theorem ag168 : aggT Tryz.prog 168 = some false := by kernel_rfl
@[go_sem] theorem zr168 : zeroT Tryz.prog 168 = some [AV.nf] := by kernel_rfl
@[go_sem] theorem u8168 : u8T Tryz.prog 168 = false := by kernel_rfl
@[go_sem] theorem sf169 : selfT Tryz.prog 169 = false := by kernel_rfl
@[go_sem] theorem sz169 : szT Tryz.prog 169 = some 1 := by kernel_rfl
@[go_sem] theorem ag169 : aggT Tryz.prog 169 = some false := by kernel_rfl
@[go_sem] theorem u8169 : u8T Tryz.prog 169 = false := by kernel_rfl
@[go_sem] theorem sf170 : selfT Tryz.prog 170 = false := by kernel_rfl
@[go_sem] theorem sz170 : szT Tryz.prog 170 = some 1 := by kernel_rfl
@[go_sem] theorem ag170 : aggT Tryz.prog 170 = some false := by kernel_rfl
@[go_sem] theorem zr170 : zeroT Tryz.prog 170 = some [AV.nf] := by kernel_rfl
@[go_sem] theorem u8170 : u8T Tryz.prog 170 = false := by kernel_rfl
@[go_sem] theorem un171 : Program.underlying Tryz.prog 171 = some TypeDesc.unsafePointer := by kernel_rfl
@[go_sem] theorem sf171 : selfT Tryz.prog 171 = false := by kernel_rfl
@[go_sem] theorem sz171 : szT Tryz.prog 171 = some 1 := by kernel_rfl
@[go_sem] theorem ag171 : aggT Tryz.prog 171 = some false := by kernel_rfl
@[go_sem] theorem zr171 : zeroT Tryz.prog 171 = some [AV.np] := by kernel_rfl
@[go_sem] theorem u8171 : u8T Tryz.prog 171 = false := by kernel_rfl
@[go_sem] theorem sf172 : selfT Tryz.prog 172 = false := by kernel_rfl
@[go_sem] theorem sz172 : szT Tryz.prog 172 = some 1 := by kernel_rfl
@[go_sem] theorem ag172 : aggT Tryz.prog 172 = some false := by kernel_rfl
@[go_sem] theorem zr172 : zeroT Tryz.prog 172 = some [AV.nf] := by kernel_rfl
@[go_sem] theorem u8172 : u8T Tryz.prog 172 = false := by kernel_rfl
@[go_sem] theorem sf173 : selfT Tryz.prog 173 = false := by kernel_rfl
@[go_sem] theorem sz173 : szT Tryz.prog 173 = some 1 := by kernel_rfl
@[go_sem] theorem ag173 : aggT Tryz.prog 173 = some false := by kernel_rfl
@[go_sem] theorem zr173 : zeroT Tryz.prog 173 = some [AV.nf] := by kernel_rfl
@[go_sem] theorem u8173 : u8T Tryz.prog 173 = false := by kernel_rfl
@[go_sem] theorem sf174 : selfT Tryz.prog 174 = false := by kernel_rfl
@[go_sem] theorem sz174 : szT Tryz.prog 174 = some 1 := by kernel_rfl
@[go_sem] theorem ag174 : aggT Tryz.prog 174 = some false := by kernel_rfl
@[go_sem] theorem zr174 : zeroT Tryz.prog 174 = some [AV.nf] := by kernel_rfl
@[go_sem] theorem u8174 : u8T Tryz.prog 174 = false := by kernel_rfl
@[go_sem] theorem sf175 : selfT Tryz.prog 175 = false := by kernel_rfl
@[go_sem] theorem sz175 : szT Tryz.prog 175 = some 1 := by kernel_rfl
@[go_sem] theorem ag175 : aggT Tryz.prog 175 = some false := by kernel_rfl
@[go_sem] theorem u8175 : u8T Tryz.prog 175 = false := by kernel_rfl
@[go_sem] theorem sf176 : selfT Tryz.prog 176 = false := by kernel_rfl
@[go_sem] theorem sz176 : szT Tryz.prog 176 = some 1 := by kernel_rfl
@[go_sem] theorem ag176 : aggT Tryz.prog 176 = some false := by kernel_rfl
@[go_sem] theorem zr176 : zeroT Tryz.prog 176 = some [AV.nf] := by kernel_rfl
@[go_sem] theorem u8176 : u8T Tryz.prog 176 = false := by kernel_rfl
@[go_sem] theorem sf177 : selfT Tryz.prog 177 = false := by kernel_rfl
@[go_sem] theorem sz177 : szT Tryz.prog 177 = some 1 := by kernel_rfl
@[go_sem] theorem ag177 : aggT Tryz.prog 177 = some false := by kernel_rfl
@[go_sem] theorem zr177 : zeroT Tryz.prog 177 = some [AV.nf] := by kernel_rfl
@[go_sem] theorem u8177 : u8T Tryz.prog 177 = false := by kernel_rfl
@[go_sem] theorem sf178 : selfT Tryz.prog 178 = false := by kernel_rfl
@[go_sem] theorem sz178 : szT Tryz.prog 178 = some 1 := by kernel_rfl
@[go_sem] theorem ag178 : aggT Tryz.prog 178 = some false := by kernel_rfl
@[go_sem] theorem u8178 : u8T Tryz.prog 178 = false := by kernel_rfl
@[go_sem] theorem sf179 : selfT Tryz.prog 179 = false := by kernel_rfl
@[go_sem] theorem sz179 : szT Tryz.prog 179 = some 1 := by kernel_rfl
@[go_sem] theorem ag179 : aggT Tryz.prog 179 = some false := by kernel_rfl
@[go_sem] theorem zr179 : zeroT Tryz.prog 179 = some [AV.nf] := by kernel_rfl
@[go_sem] theorem u8179 : u8T Tryz.prog 179 = false := by kernel_rfl
@[go_sem] theorem un180 : Program.underlying Tryz.prog 180 = some (TypeDesc.int IntKind.u64) := by kernel_rfl
@[go_sem] theorem sf180 : selfT Tryz.prog 180 = false := by kernel_rfl
@[go_sem] theorem sz180 : szT Tryz.prog 180 = some 1 := by kernel_rfl
@[go_sem] theorem ag180 : aggT Tryz.prog 180 = some false := by kernel_rfl
@[go_sem] theorem zr180 : zeroT Tryz.prog 180 = some [AV.i IntKind.u64 0] := by kernel_rfl
@[go_sem] theorem u8180 : u8T Tryz.prog 180 = false := by kernel_rfl
@[go_sem] theorem sf181 : selfT Tryz.prog 181 = false := by kernel_rfl
@[go_sem] theorem sz181 : szT Tryz.prog 181 = some 1 := by kernel_rfl
@[go_sem] theorem ag181 : aggT Tryz.prog 181 = some false := by kernel_rfl
@[go_sem] theorem zr181 : zeroT Tryz.prog 181 = some [AV.nf] := by kernel_rfl
@[go_sem] theorem u8181 : u8T Tryz.prog 181 = false := by kernel_rfl
@[go_sem] theorem sf182 : selfT Tryz.prog 182 = false := by kernel_rfl
@[go_sem] theorem sz182 : szT Tryz.prog 182 = some 3 := by kernel_rfl
@[go_sem] theorem ag182 : aggT Tryz.prog 182 = some true := by kernel_rfl
@[go_sem] theorem zr182 : zeroT Tryz.prog 182 = some [AV.s [], AV.s [], AV.ni] := by kernel_rfl
@[go_sem] theorem u8182 : u8T Tryz.prog 182 = false := by kernel_rfl
@[go_sem] theorem if182 : ifcT Tryz.prog 182 = false := by kernel_rfl
@[go_sem] theorem pl182 : plT Tryz.prog 182 = some (Sum.inl [(0, 1), (1, 1), (2, 1)]) := by kernel_rfl
@[go_sem] theorem fd182_0 : fldT Tryz.prog 182 0 = some (0, 9) := by kernel_rfl
@[go_sem] theorem fd182_1 : fldT Tryz.prog 182 1 = some (1, 9) := by kernel_rfl
@[go_sem] theorem fd182_2 : fldT Tryz.prog 182 2 = some (2, 86) := by kernel_rfl
@[go_sem] theorem sf183 : selfT Tryz.prog 183 = false := by kernel_rfl
@[go_sem] theorem sz183 : szT Tryz.prog 183 = some 3 := by kernel_rfl
@[go_sem] theorem ag183 : aggT Tryz.prog 183 = some true := by kernel_rfl
@[go_sem] theorem zr183 : zeroT Tryz.prog 183 = some [AV.s [], AV.s [], AV.ni] := by kernel_rfl
@[go_sem] theorem u8183 : u8T Tryz.prog 183 = false := by kernel_rfl
@[go_sem] theorem if183 : ifcT Tryz.prog 183 = false := by kernel_rfl
@[go_sem] theorem pl183 : plT Tryz.prog 183 = some (Sum.inl [(0, 1), (1, 1), (2, 1)]) := by kernel_rfl
@[go_sem] theorem fd183_0 : fldT Tryz.prog 183 0 = some (0, 9) := by kernel_rfl
@[go_sem] theorem fd183_1 : fldT Tryz.prog 183 1 = some (1, 9) := by kernel_rfl
@[go_sem] theorem fd183_2 : fldT Tryz.prog 183 2 = some (2, 86) := by kernel_rfl
@[go_sem] theorem sf184 : selfT Tryz.prog 184 = false := by kernel_rfl
@[go_sem] theorem sz184 : szT Tryz.prog 184 = some 1 := by kernel_rfl
@[go_sem] theorem ag184 : aggT Tryz.prog 184 = some false := by kernel_rfl
@[go_sem] theorem zr184 : zeroT Tryz.prog 184 = some [AV.nf] := by kernel_rfl
@[go_sem] theorem u8184 : u8T Tryz.prog 184 = false := by kernel_rfl
@[go_sem] theorem un185 : Program.underlying Tryz.prog 185 = some (TypeDesc.slice 187) := by kernel_rfl
@[go_sem] theorem sf185 : selfT Tryz.prog 185 = false := by kernel_rfl
@[go_sem] theorem sz185 : szT Tryz.prog 185 = some 1 := by kernel_rfl
@[go_sem] theorem ag185 : aggT Tryz.prog 185 = some false := by kernel_rfl
@[go_sem] theorem zr185 : zeroT Tryz.prog 185 = some [AV.nils] := by kernel_rfl
@[go_sem] theorem u8185 : u8T Tryz.prog 185 = false := by kernel_rfl
@[go_sem] theorem el185 : elT Tryz.prog 185 = some (2, 187) := by kernel_rfl
@[go_sem] theorem sf186 : selfT Tryz.prog 186 = false := by kernel_rfl
@[go_sem] theorem sz186 : szT Tryz.prog 186 = some 2 := by kernel_rfl
@[go_sem] theorem ag186 : aggT Tryz.prog 186 = some true := by kernel_rfl
@[go_sem] theorem zr186 : zeroT Tryz.prog 186 = some [AV.i IntKind.i64 0, AV.i IntKind.i64 0] := by kernel_rfl
@[go_sem] theorem u8186 : u8T Tryz.prog 186 = false := by kernel_rfl
@[go_sem] theorem if186 : ifcT Tryz.prog 186 = false := by kernel_rfl
@[go_sem] theorem pl186 : plT Tryz.prog 186 = some (Sum.inl [(0, 1), (1, 1)]) := by kernel_rfl
@[go_sem] theorem eq186 : eqL Tryz.prog 186 = some [(0, 1), (1, 1)] := by kernel_rfl
@[go_sem] theorem fd186_0 : fldT Tryz.prog 186 0 = some (0, 3) := by kernel_rfl
@[go_sem] theorem fd186_1 : fldT Tryz.prog 186 1 = some (1, 3) := by kernel_rfl
@[go_sem] theorem sf187 : selfT Tryz.prog 187 = false := by kernel_rfl
@[go_sem] theorem sz187 : szT Tryz.prog 187 = some 2 := by kernel_rfl
@[go_sem] theorem ag187 : aggT Tryz.prog 187 = some true := by kernel_rfl
@[go_sem] theorem zr187 : zeroT Tryz.prog 187 = some [AV.i IntKind.i64 0, AV.i IntKind.i64 0] := by kernel_rfl
@[go_sem] theorem u8187 : u8T Tryz.prog 187 = false := by kernel_rfl
@[go_sem] theorem if187 : ifcT Tryz.prog 187 = false := by kernel_rfl
@[go_sem] theorem pl187 : plT Tryz.prog 187 = some (Sum.inl [(0, 1), (1, 1)]) := by kernel_rfl
@[go_sem] theorem eq187 : eqL Tryz.prog 187 = some [(0, 1), (1, 1)] := by kernel_rfl
@[go_sem] theorem fd187_0 : fldT Tryz.prog 187 0 = some (0, 3) := by kernel_rfl
@[go_sem] theorem fd187_1 : fldT Tryz.prog 187 1 = some (1, 3) := by kernel_rfl
@[go_sem] theorem un188 : Program.underlying Tryz.prog 188 = some (TypeDesc.int IntKind.u32) := by kernel_rfl
@[go_sem] theorem sf188 : selfT Tryz.prog 188 = false := by kernel_rfl
@[go_sem] theorem sz188 : szT Tryz.prog 188 = some 1 := by kernel_rfl
@[go_sem] theorem ag188 : aggT Tryz.prog 188 = some false := by kernel_rfl
@[go_sem] theorem zr188 : zeroT Tryz.prog 188 = some [AV.i IntKind.u32 0] := by kernel_rfl
@[go_sem] theorem u8188 : u8T Tryz.prog 188 = false := by kernel_rfl
@[go_sem] theorem sf189 : selfT Tryz.prog 189 = false := by kernel_rfl
@[go_sem] theorem sz189 : szT Tryz.prog 189 = some 1 := by kernel_rfl
@[go_sem] theorem ag189 : aggT Tryz.prog 189 = some false := by kernel_rfl
@[go_sem] theorem zr189 : zeroT Tryz.prog 189 = some [AV.nf] := by kernel_rfl
@[go_sem] theorem u8189 : u8T Tryz.prog 189 = false := by kernel_rfl
@[go_sem] theorem un190 : Program.underlying Tryz.prog 190 = some (TypeDesc.pointer 209) := by kernel_rfl
@[go_sem] theorem sf190 : selfT Tryz.prog 190 = false := by kernel_rfl
@[go_sem] theorem sz190 : szT Tryz.prog 190 = some 1 := by kernel_rfl
@[go_sem] theorem ag190 : aggT Tryz.prog 190 = some false := by kernel_rfl
@[go_sem] theorem zr190 : zeroT Tryz.prog 190 = some [AV.np] := by kernel_rfl
@[go_sem] theorem u8190 : u8T Tryz.prog 190 = false := by kernel_rfl
@[go_sem] theorem pt190 : ptrT Tryz.prog 190 = true := by kernel_rfl
@[go_sem] theorem un191 : Program.underlying Tryz.prog 191 = some (TypeDesc.pointer 154) := by kernel_rfl
@[go_sem] theorem sf191 : selfT Tryz.prog 191 = false := by kernel_rfl
@[go_sem] theorem sz191 : szT Tryz.prog 191 = some 1 := by kernel_rfl
@[go_sem] theorem ag191 : aggT Tryz.prog 191 = some false := by kernel_rfl
@[go_sem] theorem zr191 : zeroT Tryz.prog 191 = some [AV.np] := by kernel_rfl
@[go_sem] theorem u8191 : u8T Tryz.prog 191 = false := by kernel_rfl
@[go_sem] theorem pt191 : ptrT Tryz.prog 191 = true := by kernel_rfl
@[go_sem] theorem sf192 : selfT Tryz.prog 192 = false := by kernel_rfl
@[go_sem] theorem sz192 : szT Tryz.prog 192 = some 1 := by kernel_rfl
@[go_sem] theorem ag192 : aggT Tryz.prog 192 = some false := by kernel_rfl
@[go_sem] theorem zr192 : zeroT Tryz.prog 192 = some [AV.nf] := by kernel_rfl
@[go_sem] theorem u8192 : u8T Tryz.prog 192 = false := by kernel_rfl
@[go_sem] theorem un193 : Program.underlying Tryz.prog 193 = some (TypeDesc.array 8 72) := by kernel_rfl
@[go_sem] theorem sf193 : selfT Tryz.prog 193 = false := by kernel_rfl
@[go_sem] theorem sz193 : szT Tryz.prog 193 = some 8 := by kernel_rfl
@[go_sem] theorem ag193 : aggT Tryz.prog 193 = some true := by kernel_rfl
@[go_sem] theorem zr193 : zeroT Tryz.prog 193 = some [AV.nils, AV.nils, AV.nils, AV.nils, AV.nils, AV.nils, AV.nils, AV.nils] := by kernel_rfl
@[go_sem] theorem u8193 : u8T Tryz.prog 193 = false := by kernel_rfl
@[go_sem] theorem el193 : elT Tryz.prog 193 = none := by kernel_rfl
@[go_sem] theorem ar193 : arT Tryz.prog 193 = some (8, 1) := by kernel_rfl
@[go_sem] theorem pl193 : plT Tryz.prog 193 = some (Sum.inr 1) := by kernel_rfl
@[go_sem] theorem un194 : Program.underlying Tryz.prog 194 = some (TypeDesc.array 8 27) := by kernel_rfl
@[go_sem] theorem sf194 : selfT Tryz.prog 194 = false := by kernel_rfl
@[go_sem] theorem sz194 : szT Tryz.prog 194 = some 8 := by kernel_rfl
@[go_sem] theorem ag194 : aggT Tryz.prog 194 = some true := by kernel_rfl
@[go_sem] theorem zr194 : zeroT Tryz.prog 194 = some [AV.nils, AV.nils, AV.nils, AV.nils, AV.nils, AV.nils, AV.nils, AV.nils] := by kernel_rfl
@[go_sem] theorem u8194 : u8T Tryz.prog 194 = false := by kernel_rfl
@[go_sem] theorem el194 : elT Tryz.prog 194 = none := by kernel_rfl
@[go_sem] theorem ar194 : arT Tryz.prog 194 = some (8, 1) := by kernel_rfl
@[go_sem] theorem pl194 : plT Tryz.prog 194 = some (Sum.inr 1) := by kernel_rfl
@[go_sem] theorem un195 : Program.underlying Tryz.prog 195 = some (TypeDesc.array 14 3) := by kernel_rfl
@[go_sem] theorem sf195 : selfT Tryz.prog 195 = false := by kernel_rfl
@[go_sem] theorem sz195 : szT Tryz.prog 195 = some 14 := by kernel_rfl
@[go_sem] theorem ag195 : aggT Tryz.prog 195 = some true := by kernel_rfl
@[go_sem] theorem zr195 : zeroT Tryz.prog 195 = some [AV.i IntKind.i64 0, AV.i IntKind.i64 0, AV.i IntKind.i64 0, AV.i IntKind.i64 0, AV.i IntKind.i64 0, AV.i IntKind.i64 0, AV.i IntKind.i64 0, AV.i IntKind.i64 0, AV.i IntKind.i64 0, AV.i IntKind.i64 0, AV.i IntKind.i64 0, AV.i IntKind.i64 0, AV.i IntKind.i64 0, AV.i IntKind.i64 0] := by kernel_rfl
@[go_sem] theorem u8195 : u8T Tryz.prog 195 = false := by kernel_rfl
@[go_sem] theorem el195 : elT Tryz.prog 195 = none := by kernel_rfl
@[go_sem] theorem ar195 : arT Tryz.prog 195 = some (14, 1) := by kernel_rfl
@[go_sem] theorem pl195 : plT Tryz.prog 195 = some (Sum.inr 1) := by kernel_rfl
@[go_sem] theorem un196 : Program.underlying Tryz.prog 196 = some (TypeDesc.pointer 161) := by kernel_rfl
@[go_sem] theorem sf196 : selfT Tryz.prog 196 = false := by kernel_rfl
@[go_sem] theorem sz196 : szT Tryz.prog 196 = some 1 := by kernel_rfl
@[go_sem] theorem ag196 : aggT Tryz.prog 196 = some false := by kernel_rfl
@[go_sem] theorem zr196 : zeroT Tryz.prog 196 = some [AV.np] := by kernel_rfl
@[go_sem] theorem u8196 : u8T Tryz.prog 196 = false := by kernel_rfl
@[go_sem] theorem pt196 : ptrT Tryz.prog 196 = true := by kernel_rfl
@[go_sem] theorem un197 : Program.underlying Tryz.prog 197 = some (TypeDesc.array 2 3) := by kernel_rfl
@[go_sem] theorem sf197 : selfT Tryz.prog 197 = false := by kernel_rfl
@[go_sem] theorem sz197 : szT Tryz.prog 197 = some 2 := by kernel_rfl
@[go_sem] theorem ag197 : aggT Tryz.prog 197 = some true := by kernel_rfl
@[go_sem] theorem zr197 : zeroT Tryz.prog 197 = some [AV.i IntKind.i64 0, AV.i IntKind.i64 0] := by kernel_rfl
@[go_sem] theorem u8197 : u8T Tryz.prog 197 = false := by kernel_rfl
@[go_sem] theorem el197 : elT Tryz.prog 197 = none := by kernel_rfl
@[go_sem] theorem ar197 : arT Tryz.prog 197 = some (2, 1) := by kernel_rfl
@[go_sem] theorem pl197 : plT Tryz.prog 197 = some (Sum.inr 1) := by kernel_rfl
@[go_sem] theorem sf198 : selfT Tryz.prog 198 = false := by kernel_rfl
@[go_sem] theorem sz198 : szT Tryz.prog 198 = some 1 := by kernel_rfl
@[go_sem] theorem ag198 : aggT Tryz.prog 198 = some false := by kernel_rfl
@[go_sem] theorem zr198 : zeroT Tryz.prog 198 = some [AV.nf] := by kernel_rfl
@[go_sem] theorem u8198 : u8T Tryz.prog 198 = false := by kernel_rfl
@[go_sem] theorem un199 : Program.underlying Tryz.prog 199 = some (TypeDesc.array 20 166) := by kernel_rfl
@[go_sem] theorem sf199 : selfT Tryz.prog 199 = false := by kernel_rfl
@[go_sem] theorem sz199 : szT Tryz.prog 199 = some 20 := by kernel_rfl
@[go_sem] theorem ag199 : aggT Tryz.prog 199 = some true := by kernel_rfl
@[go_sem] theorem zr199 : zeroT Tryz.prog 199 = some [AV.i IntKind.u64 0, AV.i IntKind.u64 0, AV.i IntKind.u64 0, AV.i IntKind.u64 0, AV.i IntKind.u64 0, AV.i IntKind.u64 0, AV.i IntKind.u64 0, AV.i IntKind.u64 0, AV.i IntKind.u64 0, AV.i IntKind.u64 0, AV.i IntKind.u64 0, AV.i IntKind.u64 0, AV.i IntKind.u64 0, AV.i IntKind.u64 0, AV.i IntKind.u64 0, AV.i IntKind.u64 0, AV.i IntKind.u64 0, AV.i IntKind.u64 0, AV.i IntKind.u64 0, AV.i IntKind.u64 0] := by kernel_rfl
@[go_sem] theorem u8199 : u8T Tryz.prog 199 = false := by kernel_rfl
@[go_sem] theorem el199 : elT Tryz.prog 199 = none := by kernel_rfl
@[go_sem] theorem ar199 : arT Tryz.prog 199 = some (20, 1) := by kernel_rfl
@[go_sem] theorem pl199 : plT Tryz.prog 199 = some (Sum.inr 1) := by kernel_rfl
@[go_sem] theorem un200 : Program.underlying Tryz.prog 200 = some (TypeDesc.array 65 5) := by kernel_rfl
@[go_sem] theorem sf200 : selfT Tryz.prog 200 = false := by kernel_rfl
@[go_sem] theorem sz200 : szT Tryz.prog 200 = some 65 := by kernel_rfl
@[go_sem] theorem ag200 : aggT Tryz.prog 200 = some true := by kernel_rfl
@[go_sem] theorem zr200 : zeroT Tryz.prog 200 = some [AV.i IntKind.u8 0, AV.i IntKind.u8 0, AV.i IntKind.u8 0, AV.i IntKind.u8 0, AV.i IntKind.u8 0, AV.i IntKind.u8 0, AV.i IntKind.u8 0, AV.i IntKind.u8 0, AV.i IntKind.u8 0, AV.i IntKind.u8 0, AV.i IntKind.u8 0, AV.i IntKind.u8 0, AV.i IntKind.u8 0, AV.i IntKind.u8 0, AV.i IntKind.u8 0, AV.i IntKind.u8 0, AV.i IntKind.u8 0, AV.i IntKind.u8 0, AV.i IntKind.u8 0, AV.i IntKind.u8 0, AV.i IntKind.u8 0, AV.i IntKind.u8 0, AV.i IntKind.u8 0, AV.i IntKind.u8 0, AV.i IntKind.u8 0, AV.i IntKind.u8 0, AV.i IntKind.u8 0, AV.i IntKind.u8 0, AV.i IntKind.u8 0, AV.i IntKind.u8 0, AV.i IntKind.u8 0, AV.i IntKind.u8 0, AV.i IntKind.u8 0, AV.i IntKind.u8 0, AV.i IntKind.u8 0, AV.i IntKind.u8 0, AV.i IntKind.u8 0, AV.i IntKind.u8 0, AV.i IntKind.u8 0, AV.i IntKind.u8 0, AV.i IntKind.u8 0, AV.i IntKind.u8 0, AV.i IntKind.u8 0, AV.i IntKind.u8 0, AV.i IntKind.u8 0, AV.i IntKind.u8 0, AV.i IntKind.u8 0, AV.i IntKind.u8 0, AV.i IntKind.u8 0, AV.i IntKind.u8 0, AV.i IntKind.u8 0, AV.i IntKind.u8 0, AV.i IntKind.u8 0, AV.i IntKind.u8 0, AV.i IntKind.u8 0, AV.i IntKind.u8 0, AV.i IntKind.u8 0, AV.i IntKind.u8 0, AV.i IntKind.u8 0, AV.i IntKind.u8 0, AV.i IntKind.u8 0, AV.i IntKind.u8 0, AV.i IntKind.u8 0, AV.i IntKind.u8 0, AV.i IntKind.u8 0] := by kernel_rfl
@[go_sem] theorem u8200 : u8T Tryz.prog 200 = false := by kernel_rfl
@[go_sem] theorem el200 : elT Tryz.prog 200 = none := by kernel_rfl
@[go_sem] theorem ar200 : arT Tryz.prog 200 = some (65, 1) := by kernel_rfl
@[go_sem] theorem pl200 : plT Tryz.prog 200 = some (Sum.inr 1) := by kernel_rfl
@[go_sem] theorem sf201 : selfT Tryz.prog 201 = false := by kernel_rfl
@[go_sem] theorem sz201 : szT Tryz.prog 201 = some 1 := by kernel_rfl
@[go_sem] theorem ag201 : aggT Tryz.prog 201 = some false := by kernel_rfl
@[go_sem] theorem zr201 : zeroT Tryz.prog 201 = some [AV.nf] := by kernel_rfl
@[go_sem] theorem u8201 : u8T Tryz.prog 201 = false := by kernel_rfl
@[go_sem] theorem sf202 : selfT Tryz.prog 202 = false := by kernel_rfl
@[go_sem] theorem sz202 : szT Tryz.prog 202 = some 1 := by kernel_rfl
@[go_sem] theorem ag202 : aggT Tryz.prog 202 = some false := by kernel_rfl
@[go_sem] theorem zr202 : zeroT Tryz.prog 202 = some [AV.nf] := by kernel_rfl
@[go_sem] theorem u8202 : u8T Tryz.prog 202 = false := by kernel_rfl
@[go_sem] theorem un203 : Program.underlying Tryz.prog 203 = some (TypeDesc.pointer 205) := by kernel_rfl
@[go_sem] theorem sf203 : selfT Tryz.prog 203 = false := by kernel_rfl
@[go_sem] theorem sz203 : szT Tryz.prog 203 = some 1 := by kernel_rfl
@[go_sem] theorem ag203 : aggT Tryz.prog 203 = some false := by kernel_rfl
@[go_sem] theorem zr203 : zeroT Tryz.prog 203 = some [AV.np] := by kernel_rfl
@[go_sem] theorem u8203 : u8T Tryz.prog 203 = false := by kernel_rfl
@[go_sem] theorem pt203 : ptrT Tryz.prog 203 = true := by kernel_rfl
@[go_sem] theorem sf204 : selfT Tryz.prog 204 = false := by kernel_rfl
@[go_sem] theorem sz204 : szT Tryz.prog 204 = some 1 := by kernel_rfl
@[go_sem] theorem ag204 : aggT Tryz.prog 204 = some true := by kernel_rfl
@[go_sem] theorem zr204 : zeroT Tryz.prog 204 = some [AV.s []] := by kernel_rfl
@[go_sem] theorem u8204 : u8T Tryz.prog 204 = false := by kernel_rfl
@[go_sem] theorem if204 : ifcT Tryz.prog 204 = false := by kernel_rfl
@[go_sem] theorem pl204 : plT Tryz.prog 204 = some (Sum.inl [(0, 1)]) := by kernel_rfl
@[go_sem] theorem eq204 : eqL Tryz.prog 204 = some [(0, 2)] := by kernel_rfl
@[go_sem] theorem fd204_0 : fldT Tryz.prog 204 0 = some (0, 9) := by kernel_rfl
@[go_sem] theorem sf205 : selfT Tryz.prog 205 = false := by kernel_rfl
@[go_sem] theorem sz205 : szT Tryz.prog 205 = some 1 := by kernel_rfl
@[go_sem] theorem ag205 : aggT Tryz.prog 205 = some true := by kernel_rfl
@[go_sem] theorem zr205 : zeroT Tryz.prog 205 = some [AV.s []] := by kernel_rfl
@[go_sem] theorem u8205 : u8T Tryz.prog 205 = false := by kernel_rfl
@[go_sem] theorem if205 : ifcT Tryz.prog 205 = false := by kernel_rfl
@[go_sem] theorem pl205 : plT Tryz.prog 205 = some (Sum.inl [(0, 1)]) := by kernel_rfl
@[go_sem] theorem eq205 : eqL Tryz.prog 205 = some [(0, 2)] := by kernel_rfl
@[go_sem] theorem fd205_0 : fldT Tryz.prog 205 0 = some (0, 9) := by kernel_rfl
@[go_sem] theorem un206 : Program.underlying Tryz.prog 206 = some (TypeDesc.slice 212) := by kernel_rfl
@[go_sem] theorem sf206 : selfT Tryz.prog 206 = false := by kernel_rfl
@[go_sem] theorem sz206 : szT Tryz.prog 206 = some 1 := by kernel_rfl
@[go_sem] theorem ag206 : aggT Tryz.prog 206 = some false := by kernel_rfl
@[go_sem] theorem zr206 : zeroT Tryz.prog 206 = some [AV.nils] := by kernel_rfl
@[go_sem] theorem u8206 : u8T Tryz.prog 206 = false := by kernel_rfl
@[go_sem] theorem el206 : elT Tryz.prog 206 = some (3, 212) := by kernel_rfl
@[go_sem] theorem un207 : Program.underlying Tryz.prog 207 = some (TypeDesc.slice 215) := by kernel_rfl
@[go_sem] theorem sf207 : selfT Tryz.prog 207 = false := by kernel_rfl
@[go_sem] theorem sz207 : szT Tryz.prog 207 = some 1 := by kernel_rfl
@[go_sem] theorem ag207 : aggT Tryz.prog 207 = some false := by kernel_rfl
@[go_sem] theorem zr207 : zeroT Tryz.prog 207 = some [AV.nils] := by kernel_rfl
@[go_sem] theorem u8207 : u8T Tryz.prog 207 = false := by kernel_rfl
@[go_sem] theorem el207 : elT Tryz.prog 207 = some (3, 215) := by kernel_rfl
@[go_sem] theorem sf208 : selfT Tryz.prog 208 = false := by kernel_rfl
@[go_sem] theorem sz208 : szT Tryz.prog 208 = some 3 := by kernel_rfl
@[go_sem] theorem ag208 : aggT Tryz.prog 208 = some true := by kernel_rfl
@[go_sem] theorem zr208 : zeroT Tryz.prog 208 = some [AV.nils, AV.nils, AV.i IntKind.i64 0] := by kernel_rfl
@[go_sem] theorem u8208 : u8T Tryz.prog 208 = false := by kernel_rfl
@[go_sem] theorem if208 : ifcT Tryz.prog 208 = false := by kernel_rfl
@[go_sem] theorem pl208 : plT Tryz.prog 208 = some (Sum.inl [(0, 1), (1, 1), (2, 1)]) := by kernel_rfl
@[go_sem] theorem fd208_0 : fldT Tryz.prog 208 0 = some (0, 206) := by kernel_rfl
@[go_sem] theorem fd208_1 : fldT Tryz.prog 208 1 = some (1, 207) := by kernel_rfl
@[go_sem] theorem fd208_2 : fldT Tryz.prog 208 2 = some (2, 3) := by kernel_rfl
@[go_sem] theorem sf209 : selfT Tryz.prog 209 = false := by kernel_rfl
@[go_sem] theorem sz209 : szT Tryz.prog 209 = some 3 := by kernel_rfl
@[go_sem] theorem ag209 : aggT Tryz.prog 209 = some true := by kernel_rfl
@[go_sem] theorem zr209 : zeroT Tryz.prog 209 = some [AV.nils, AV.nils, AV.i IntKind.i64 0] := by kernel_rfl
@[go_sem] theorem u8209 : u8T Tryz.prog 209 = false := by kernel_rfl
@[go_sem] theorem if209 : ifcT Tryz.prog 209 = false := by kernel_rfl
@[go_sem] theorem pl209 : plT Tryz.prog 209 = some (Sum.inl [(0, 1), (1, 1), (2, 1)]) := by kernel_rfl
@[go_sem] theorem fd209_0 : fldT Tryz.prog 209 0 = some (0, 206) := by kernel_rfl
@[go_sem] theorem fd209_1 : fldT Tryz.prog 209 1 = some (1, 207) := by kernel_rfl
@[go_sem] theorem fd209_2 : fldT Tryz.prog 209 2 = some (2, 3) := by kernel_rfl
@[go_sem] theorem un210 : Program.underlying Tryz.prog 210 = some (TypeDesc.int IntKind.u16) := by kernel_rfl
@[go_sem] theorem sf210 : selfT Tryz.prog 210 = false := by kernel_rfl
@[go_sem] theorem sz210 : szT Tryz.prog 210 = some 1 := by kernel_rfl
@[go_sem] theorem ag210 : aggT Tryz.prog 210 = some false := by kernel_rfl
@[go_sem] theorem zr210 : zeroT Tryz.prog 210 = some [AV.i IntKind.u16 0] := by kernel_rfl
@[go_sem] theorem u8210 : u8T Tryz.prog 210 = false := by kernel_rfl
@[go_sem] theorem sf211 : selfT Tryz.prog 211 = false := by kernel_rfl
@[go_sem] theorem sz211 : szT Tryz.prog 211 = some 3 := by kernel_rfl
@[go_sem] theorem ag211 : aggT Tryz.prog 211 = some true := by kernel_rfl
@[go_sem] theorem zr211 : zeroT Tryz.prog 211 = some [AV.i IntKind.u16 0, AV.i IntKind.u16 0, AV.i IntKind.u16 0] := by kernel_rfl
@[go_sem] theorem u8211 : u8T Tryz.prog 211 = false := by kernel_rfl
@[go_sem] theorem if211 : ifcT Tryz.prog 211 = false := by kernel_rfl
@[go_sem] theorem pl211 : plT Tryz.prog 211 = some (Sum.inl [(0, 1), (1, 1), (2, 1)]) := by kernel_rfl
@[go_sem] theorem eq211 : eqL Tryz.prog 211 = some [(0, 1), (1, 1), (2, 1)] := by kernel_rfl
@[go_sem] theorem fd211_0 : fldT Tryz.prog 211 0 = some (0, 210) := by kernel_rfl
@[go_sem] theorem fd211_1 : fldT Tryz.prog 211 1 = some (1, 210) := by kernel_rfl
@[go_sem] theorem fd211_2 : fldT Tryz.prog 211 2 = some (2, 210) := by kernel_rfl
@[go_sem] theorem sf212 : selfT Tryz.prog 212 = false := by kernel_rfl
@[go_sem] theorem sz212 : szT Tryz.prog 212 = some 3 := by kernel_rfl
@[go_sem] theorem ag212 : aggT Tryz.prog 212 = some true := by kernel_rfl
@[go_sem] theorem zr212 : zeroT Tryz.prog 212 = some [AV.i IntKind.u16 0, AV.i IntKind.u16 0, AV.i IntKind.u16 0] := by kernel_rfl
@[go_sem] theorem u8212 : u8T Tryz.prog 212 = false := by kernel_rfl
@[go_sem] theorem if212 : ifcT Tryz.prog 212 = false := by kernel_rfl
@[go_sem] theorem pl212 : plT Tryz.prog 212 = some (Sum.inl [(0, 1), (1, 1), (2, 1)]) := by kernel_rfl
@[go_sem] theorem eq212 : eqL Tryz.prog 212 = some [(0, 1), (1, 1), (2, 1)] := by kernel_rfl
@[go_sem] theorem fd212_0 : fldT Tryz.prog 212 0 = some (0, 210) := by kernel_rfl
@[go_sem] theorem fd212_1 : fldT Tryz.prog 212 1 = some (1, 210) := by kernel_rfl
@[go_sem] theorem fd212_2 : fldT Tryz.prog 212 2 = some (2, 210) := by kernel_rfl
@[go_sem] theorem sf213 : selfT Tryz.prog 213 = false := by kernel_rfl
@[go_sem] theorem sz213 : szT Tryz.prog 213 = some 1 := by kernel_rfl
@[go_sem] theorem ag213 : aggT Tryz.prog 213 = some false := by kernel_rfl
@[go_sem] theorem zr213 : zeroT Tryz.prog 213 = some [AV.nf] := by kernel_rfl
@[go_sem] theorem u8213 : u8T Tryz.prog 213 = false := by kernel_rfl
@[go_sem] theorem sf214 : selfT Tryz.prog 214 = false := by kernel_rfl
@[go_sem] theorem sz214 : szT Tryz.prog 214 = some 3 := by kernel_rfl
@[go_sem] theorem ag214 : aggT Tryz.prog 214 = some true := by kernel_rfl
@[go_sem] theorem zr214 : zeroT Tryz.prog 214 = some [AV.i IntKind.u32 0, AV.i IntKind.u32 0, AV.i IntKind.u32 0] := by kernel_rfl
@[go_sem] theorem u8214 : u8T Tryz.prog 214 = false := by kernel_rfl
@[go_sem] theorem if214 : ifcT Tryz.prog 214 = false := by kernel_rfl
@[go_sem] theorem pl214 : plT Tryz.prog 214 = some (Sum.inl [(0, 1), (1, 1), (2, 1)]) := by kernel_rfl
@[go_sem] theorem eq214 : eqL Tryz.prog 214 = some [(0, 1), (1, 1), (2, 1)] := by kernel_rfl
@[go_sem] theorem fd214_0 : fldT Tryz.prog 214 0 = some (0, 188) := by kernel_rfl
@[go_sem] theorem fd214_1 : fldT Tryz.prog 214 1 = some (1, 188) := by kernel_rfl
@[go_sem] theorem fd214_2 : fldT Tryz.prog 214 2 = some (2, 188) := by kernel_rfl
@[go_sem] theorem sf215 : selfT Tryz.prog 215 = false := by kernel_rfl
@[go_sem] theorem sz215 : szT Tryz.prog 215 = some 3 := by kernel_rfl
@[go_sem] theorem ag215 : aggT Tryz.prog 215 = some true := by kernel_rfl
@[go_sem] theorem zr215 : zeroT Tryz.prog 215 = some [AV.i IntKind.u32 0, AV.i IntKind.u32 0, AV.i IntKind.u32 0] := by kernel_rfl
@[go_sem] theorem u8215 : u8T Tryz.prog 215 = false := by kernel_rfl
@[go_sem] theorem if215 : ifcT Tryz.prog 215 = false := by kernel_rfl
@[go_sem] theorem pl215 : plT Tryz.prog 215 = some (Sum.inl [(0, 1), (1, 1), (2, 1)]) := by kernel_rfl
@[go_sem] theorem eq215 : eqL Tryz.prog 215 = some [(0, 1), (1, 1), (2, 1)] := by kernel_rfl
@[go_sem] theorem fd215_0 : fldT Tryz.prog 215 0 = some (0, 188) := by kernel_rfl
@[go_sem] theorem fd215_1 : fldT Tryz.prog 215 1 = some (1, 188) := by kernel_rfl
@[go_sem] theorem fd215_2 : fldT Tryz.prog 215 2 = some (2, 188) := by kernel_rfl
@[go_sem] theorem sf216 : selfT Tryz.prog 216 = false := by kernel_rfl
@[go_sem] theorem sz216 : szT Tryz.prog 216 = some 1 := by kernel_rfl
@[go_sem] theorem ag216 : aggT Tryz.prog 216 = some false := by kernel_rfl
@[go_sem] theorem zr216 : zeroT Tryz.prog 216 = some [AV.nf] := by kernel_rfl
@[go_sem] theorem u8216 : u8T Tryz.prog 216 = false := by kernel_rfl
@[go_sem] theorem sf217 : selfT Tryz.prog 217 = false := by kernel_rfl
@[go_sem] theorem sz217 : szT Tryz.prog 217 = some 1 := by kernel_rfl
@[go_sem] theorem ag217 : aggT Tryz.prog 217 = some false := by kernel_rfl
@[go_sem] theorem zr217 : zeroT Tryz.prog 217 = some [AV.nf] := by kernel_rfl
@[go_sem] theorem u8217 : u8T Tryz.prog 217 = false := by kernel_rfl
@[go_sem] theorem sf218 : selfT Tryz.prog 218 = false := by kernel_rfl
@[go_sem] theorem sz218 : szT Tryz.prog 218 = some 2 := by kernel_rfl
@[go_sem] theorem ag218 : aggT Tryz.prog 218 = some true := by kernel_rfl
@[go_sem] theorem zr218 : zeroT Tryz.prog 218 = some [AV.i IntKind.u8 0, AV.i IntKind.u8 0] := by kernel_rfl
@[go_sem] theorem u8218 : u8T Tryz.prog 218 = false := by kernel_rfl
@[go_sem] theorem if218 : ifcT Tryz.prog 218 = false := by kernel_rfl
@[go_sem] theorem pl218 : plT Tryz.prog 218 = some (Sum.inl [(0, 1), (1, 1)]) := by kernel_rfl
@[go_sem] theorem eq218 : eqL Tryz.prog 218 = some [(0, 1), (1, 1)] := by kernel_rfl
@[go_sem] theorem fd218_0 : fldT Tryz.prog 218 0 = some (0, 5) := by kernel_rfl
@[go_sem] theorem fd218_1 : fldT Tryz.prog 218 1 = some (1, 5) := by kernel_rfl
@[go_sem] theorem sf219 : selfT Tryz.prog 219 = false := by kernel_rfl
@[go_sem] theorem sz219 : szT Tryz.prog 219 = some 2 := by kernel_rfl
@[go_sem] theorem ag219 : aggT Tryz.prog 219 = some true := by kernel_rfl
@[go_sem] theorem zr219 : zeroT Tryz.prog 219 = some [AV.i IntKind.u8 0, AV.i IntKind.u8 0] := by kernel_rfl
@[go_sem] theorem u8219 : u8T Tryz.prog 219 = false := by kernel_rfl
@[go_sem] theorem if219 : ifcT Tryz.prog 219 = false := by kernel_rfl
@[go_sem] theorem pl219 : plT Tryz.prog 219 = some (Sum.inl [(0, 1), (1, 1)]) := by kernel_rfl
@[go_sem] theorem eq219 : eqL Tryz.prog 219 = some [(0, 1), (1, 1)] := by kernel_rfl
@[go_sem] theorem fd219_0 : fldT Tryz.prog 219 0 = some (0, 5) := by kernel_rfl
@[go_sem] theorem fd219_1 : fldT Tryz.prog 219 1 = some (1, 5) := by kernel_rfl
@[go_sem] theorem un220 : Program.underlying Tryz.prog 220 = some (TypeDesc.array 16 219) := by kernel_rfl
@[go_sem] theorem sf220 : selfT Tryz.prog 220 = false := by kernel_rfl
@[go_sem] theorem sz220 : szT Tryz.prog 220 = some 32 := by kernel_rfl
@[go_sem] theorem ag220 : aggT Tryz.prog 220 = some true := by kernel_rfl
@[go_sem] theorem zr220 : zeroT Tryz.prog 220 = some [AV.i IntKind.u8 0, AV.i IntKind.u8 0, AV.i IntKind.u8 0, AV.i IntKind.u8 0, AV.i IntKind.u8 0, AV.i IntKind.u8 0, AV.i IntKind.u8 0, AV.i IntKind.u8 0, AV.i IntKind.u8 0, AV.i IntKind.u8 0, AV.i IntKind.u8 0, AV.i IntKind.u8 0, AV.i IntKind.u8 0, AV.i IntKind.u8 0, AV.i IntKind.u8 0, AV.i IntKind.u8 0, AV.i IntKind.u8 0, AV.i IntKind.u8 0, AV.i IntKind.u8 0, AV.i IntKind.u8 0, AV.i IntKind.u8 0, AV.i IntKind.u8 0, AV.i IntKind.u8 0, AV.i IntKind.u8 0, AV.i IntKind.u8 0, AV.i IntKind.u8 0, AV.i IntKind.u8 0, AV.i IntKind.u8 0, AV.i IntKind.u8 0, AV.i IntKind.u8 0, AV.i IntKind.u8 0, AV.i IntKind.u8 0] := by kernel_rfl
@[go_sem] theorem u8220 : u8T Tryz.prog 220 = false := by kernel_rfl
@[go_sem] theorem el220 : elT Tryz.prog 220 = none := by kernel_rfl
@[go_sem] theorem ar220 : arT Tryz.prog 220 = some (16, 2) := by kernel_rfl
@[go_sem] theorem pl220 : plT Tryz.prog 220 = some (Sum.inr 2) := by kernel_rfl
@[go_sem] theorem sf221 : selfT Tryz.prog 221 = false := by kernel_rfl
@[go_sem] theorem sz221 : szT Tryz.prog 221 = some 1 := by kernel_rfl
@[go_sem] theorem ag221 : aggT Tryz.prog 221 = some false := by kernel_rfl
@[go_sem] theorem u8221 : u8T Tryz.prog 221 = false := by kernel_rfl
@[go_sem] theorem sf222 : selfT Tryz.prog 222 = false := by kernel_rfl
@[go_sem] theorem sz222 : szT Tryz.prog 222 = some 1 := by kernel_rfl
@[go_sem] theorem ag222 : aggT Tryz.prog 222 = some false := by kernel_rfl
@[go_sem] theorem zr222 : zeroT Tryz.prog 222 = some [AV.nf] := by kernel_rfl
@[go_sem] theorem u8222 : u8T Tryz.prog 222 = false := by kernel_rfl
@[go_sem] theorem un223 : Program.underlying Tryz.prog 223 = some (TypeDesc.pointer 212) := by kernel_rfl
@[go_sem] theorem sf223 : selfT Tryz.prog 223 = false := by kernel_rfl
@[go_sem] theorem sz223 : szT Tryz.prog 223 = some 1 := by kernel_rfl
@[go_sem] theorem ag223 : aggT Tryz.prog 223 = some false := by kernel_rfl
@[go_sem] theorem zr223 : zeroT Tryz.prog 223 = some [AV.np] := by kernel_rfl
@[go_sem] theorem u8223 : u8T Tryz.prog 223 = false := by kernel_rfl
@[go_sem] theorem pt223 : ptrT Tryz.prog 223 = true := by kernel_rfl
@[go_sem] theorem un224 : Program.underlying Tryz.prog 224 = some (TypeDesc.pointer 215) := by kernel_rfl
@[go_sem] theorem sf224 : selfT Tryz.prog 224 = false := by kernel_rfl
@[go_sem] theorem sz224 : szT Tryz.prog 224 = some 1 := by kernel_rfl
@[go_sem] theorem ag224 : aggT Tryz.prog 224 = some false := by kernel_rfl
@[go_sem] theorem zr224 : zeroT Tryz.prog 224 = some [AV.np] := by kernel_rfl
@[go_sem] theorem u8224 : u8T Tryz.prog 224 = false := by kernel_rfl
@[go_sem] theorem pt224 : ptrT Tryz.prog 224 = true := by kernel_rfl
@[go_sem] theorem un225 : Program.underlying Tryz.prog 225 = some (TypeDesc.array 32 5) := by kernel_rfl
@[go_sem] theorem sf225 : selfT Tryz.prog 225 = false := by kernel_rfl
@[go_sem] theorem sz225 : szT Tryz.prog 225 = some 32 := by kernel_rfl
@[go_sem] theorem ag225 : aggT Tryz.prog 225 = some true := by kernel_rfl
@[go_sem] theorem zr225 : zeroT Tryz.prog 225 = some [AV.i IntKind.u8 0, AV.i IntKind.u8 0, AV.i IntKind.u8 0, AV.i IntKind.u8 0, AV.i IntKind.u8 0, AV.i IntKind.u8 0, AV.i IntKind.u8 0, AV.i IntKind.u8 0, AV.i IntKind.u8 0, AV.i IntKind.u8 0, AV.i IntKind.u8 0, AV.i IntKind.u8 0, AV.i IntKind.u8 0, AV.i IntKind.u8 0, AV.i IntKind.u8 0, AV.i IntKind.u8 0, AV.i IntKind.u8 0, AV.i IntKind.u8 0, AV.i IntKind.u8 0, AV.i IntKind.u8 0, AV.i IntKind.u8 0, AV.i IntKind.u8 0, AV.i IntKind.u8 0, AV.i IntKind.u8 0, AV.i IntKind.u8 0, AV.i IntKind.u8 0, AV.i IntKind.u8 0, AV.i IntKind.u8 0, AV.i IntKind.u8 0, AV.i IntKind.u8 0, AV.i IntKind.u8 0, AV.i IntKind.u8 0] := by kernel_rfl
@[go_sem] theorem u8225 : u8T Tryz.prog 225 = false := by kernel_rfl
@[go_sem] theorem el225 : elT Tryz.prog 225 = none := by kernel_rfl
@[go_sem] theorem ar225 : arT Tryz.prog 225 = some (32, 1) := by kernel_rfl
@[go_sem] theorem pl225 : plT Tryz.prog 225 = some (Sum.inr 1) := by kernel_rfl
@[go_sem] theorem un226 : Program.underlying Tryz.prog 226 = some (TypeDesc.array 64 5) := by kernel_rfl
@[go_sem] theorem sf226 : selfT Tryz.prog 226 = false := by kernel_rfl
@[go_sem] theorem sz226 : szT Tryz.prog 226 = some 64 := by kernel_rfl
@[go_sem] theorem ag226 : aggT Tryz.prog 226 = some true := by kernel_rfl
@[go_sem] theorem zr226 : zeroT Tryz.prog 226 = some [AV.i IntKind.u8 0, AV.i IntKind.u8 0, AV.i IntKind.u8 0, AV.i IntKind.u8 0, AV.i IntKind.u8 0, AV.i IntKind.u8 0, AV.i IntKind.u8 0, AV.i IntKind.u8 0, AV.i IntKind.u8 0, AV.i IntKind.u8 0, AV.i IntKind.u8 0, AV.i IntKind.u8 0, AV.i IntKind.u8 0, AV.i IntKind.u8 0, AV.i IntKind.u8 0, AV.i IntKind.u8 0, AV.i IntKind.u8 0, AV.i IntKind.u8 0, AV.i IntKind.u8 0, AV.i IntKind.u8 0, AV.i IntKind.u8 0, AV.i IntKind.u8 0, AV.i IntKind.u8 0, AV.i IntKind.u8 0, AV.i IntKind.u8 0, AV.i IntKind.u8 0, AV.i IntKind.u8 0, AV.i IntKind.u8 0, AV.i IntKind.u8 0, AV.i IntKind.u8 0, AV.i IntKind.u8 0, AV.i IntKind.u8 0, AV.i IntKind.u8 0, AV.i IntKind.u8 0, AV.i IntKind.u8 0, AV.i IntKind.u8 0, AV.i IntKind.u8 0, AV.i IntKind.u8 0, AV.i IntKind.u8 0, AV.i IntKind.u8 0, AV.i IntKind.u8 0, AV.i IntKind.u8 0, AV.i IntKind.u8 0, AV.i IntKind.u8 0, AV.i IntKind.u8 0, AV.i IntKind.u8 0, AV.i IntKind.u8 0, AV.i IntKind.u8 0, AV.i IntKind.u8 0, AV.i IntKind.u8 0, AV.i IntKind.u8 0, AV.i IntKind.u8 0, AV.i IntKind.u8 0, AV.i IntKind.u8 0, AV.i IntKind.u8 0, AV.i IntKind.u8 0, AV.i IntKind.u8 0, AV.i IntKind.u8 0, AV.i IntKind.u8 0, AV.i IntKind.u8 0, AV.i IntKind.u8 0, AV.i IntKind.u8 0, AV.i IntKind.u8 0, AV.i IntKind.u8 0] := by kernel_rfl
@[go_sem] theorem u8226 : u8T Tryz.prog 226 = false := by kernel_rfl
@[go_sem] theorem el226 : elT Tryz.prog 226 = none := by kernel_rfl
@[go_sem] theorem ar226 : arT Tryz.prog 226 = some (64, 1) := by kernel_rfl
@[go_sem] theorem pl226 : plT Tryz.prog 226 = some (Sum.inr 1) := by kernel_rfl
@[go_sem] theorem sf227 : selfT Tryz.prog 227 = false := by kernel_rfl
@[go_sem] theorem sz227 : szT Tryz.prog 227 = some 4 := by kernel_rfl
@[go_sem] theorem ag227 : aggT Tryz.prog 227 = some true := by kernel_rfl
@[go_sem] theorem zr227 : zeroT Tryz.prog 227 = some [AV.np, AV.np, AV.np, AV.s []] := by kernel_rfl
@[go_sem] theorem u8227 : u8T Tryz.prog 227 = false := by kernel_rfl
@[go_sem] theorem if227 : ifcT Tryz.prog 227 = false := by kernel_rfl
@[go_sem] theorem pl227 : plT Tryz.prog 227 = some (Sum.inl [(0, 1), (1, 1), (2, 1), (3, 1)]) := by kernel_rfl
@[go_sem] theorem fd227_0 : fldT Tryz.prog 227 0 = some (0, 17) := by kernel_rfl
@[go_sem] theorem fd227_1 : fldT Tryz.prog 227 1 = some (1, 17) := by kernel_rfl
@[go_sem] theorem fd227_2 : fldT Tryz.prog 227 2 = some (2, 17) := by kernel_rfl
@[go_sem] theorem fd227_3 : fldT Tryz.prog 227 3 = some (3, 9) := by kernel_rfl
@[go_sem] theorem sf228 : selfT Tryz.prog 228 = false := by kernel_rfl
@[go_sem] theorem sz228 : szT Tryz.prog 228 = some 4 := by kernel_rfl
@[go_sem] theorem ag228 : aggT Tryz.prog 228 = some true := by kernel_rfl
@[go_sem] theorem zr228 : zeroT Tryz.prog 228 = some [AV.np, AV.np, AV.np, AV.s []] := by kernel_rfl
@[go_sem] theorem u8228 : u8T Tryz.prog 228 = false := by kernel_rfl
@[go_sem] theorem if228 : ifcT Tryz.prog 228 = false := by kernel_rfl
@[go_sem] theorem pl228 : plT Tryz.prog 228 = some (Sum.inl [(0, 1), (1, 1), (2, 1), (3, 1)]) := by kernel_rfl
@[go_sem] theorem fd228_0 : fldT Tryz.prog 228 0 = some (0, 17) := by kernel_rfl
@[go_sem] theorem fd228_1 : fldT Tryz.prog 228 1 = some (1, 17) := by kernel_rfl
@[go_sem] theorem fd228_2 : fldT Tryz.prog 228 2 = some (2, 17) := by kernel_rfl
@[go_sem] theorem fd228_3 : fldT Tryz.prog 228 3 = some (3, 9) := by kernel_rfl
@[go_sem] theorem un229 : Program.underlying Tryz.prog 229 = some (TypeDesc.array 0 16) := by kernel_rfl
@[go_sem] theorem sf229 : selfT Tryz.prog 229 = false := by kernel_rfl
@[go_sem] theorem sz229 : szT Tryz.prog 229 = some 0 := by kernel_rfl
@[go_sem] theorem ag229 : aggT Tryz.prog 229 = some true := by kernel_rfl
@[go_sem] theorem zr229 : zeroT Tryz.prog 229 = some [] := by kernel_rfl
@[go_sem] theorem u8229 : u8T Tryz.prog 229 = false := by kernel_rfl
@[go_sem] theorem el229 : elT Tryz.prog 229 = none := by kernel_rfl
@[go_sem] theorem ar229 : arT Tryz.prog 229 = some (0, 1) := by kernel_rfl
@[go_sem] theorem pl229 : plT Tryz.prog 229 = some (Sum.inr 1) := by kernel_rfl
@[go_sem] theorem sf230 : selfT Tryz.prog 230 = false := by kernel_rfl
@[go_sem] theorem sz230 : szT Tryz.prog 230 = some 0 := by kernel_rfl
@[go_sem] theorem ag230 : aggT Tryz.prog 230 = some true := by kernel_rfl
@[go_sem] theorem zr230 : zeroT Tryz.prog 230 = some [] := by kernel_rfl
@[go_sem] theorem u8230 : u8T Tryz.prog 230 = false := by kernel_rfl
@[go_sem] theorem if230 : ifcT Tryz.prog 230 = false := by kernel_rfl
@[go_sem] theorem pl230 : plT Tryz.prog 230 = some (Sum.inl [(0, 0)]) := by kernel_rfl
@[go_sem] theorem sf231 : selfT Tryz.prog 231 = false := by kernel_rfl
@[go_sem] theorem sz231 : szT Tryz.prog 231 = some 0 := by kernel_rfl
@[go_sem] theorem ag231 : aggT Tryz.prog 231 = some true := by kernel_rfl
@[go_sem] theorem zr231 : zeroT Tryz.prog 231 = some [] := by kernel_rfl
@[go_sem] theorem u8231 : u8T Tryz.prog 231 = false := by kernel_rfl
@[go_sem] theorem if231 : ifcT Tryz.prog 231 = false := by kernel_rfl
@[go_sem] theorem pl231 : plT Tryz.prog 231 = some (Sum.inl [(0, 0)]) := by kernel_rfl
@[go_sem] theorem un232 : Program.underlying Tryz.prog 232 = some (TypeDesc.int IntKind.u8) := by kernel_rfl
@[go_sem] theorem sf232 : selfT Tryz.prog 232 = false := by kernel_rfl
@[go_sem] theorem sz232 : szT Tryz.prog 232 = some 1 := by kernel_rfl
@[go_sem] theorem ag232 : aggT Tryz.prog 232 = some false := by kernel_rfl
@[go_sem] theorem zr232 : zeroT Tryz.prog 232 = some [AV.i IntKind.u8 0] := by kernel_rfl
@[go_sem] theorem u8232 : u8T Tryz.prog 232 = true := by kernel_rfl
@[go_sem] theorem un233 : Program.underlying Tryz.prog 233 = some (TypeDesc.int IntKind.u8) := by kernel_rfl
@[go_sem] theorem sf233 : selfT Tryz.prog 233 = false := by kernel_rfl
@[go_sem] theorem sz233 : szT Tryz.prog 233 = some 1 := by kernel_rfl
@[go_sem] theorem ag233 : aggT Tryz.prog 233 = some false := by kernel_rfl
@[go_sem] theorem zr233 : zeroT Tryz.prog 233 = some [AV.i IntKind.u8 0] := by kernel_rfl
@[go_sem] theorem u8233 : u8T Tryz.prog 233 = true := by kernel_rfl
@[go_sem] theorem sf234 : selfT Tryz.prog 234 = false := by kernel_rfl
@[go_sem] theorem sz234 : szT Tryz.prog 234 = some 1 := by kernel_rfl
@[go_sem] theorem ag234 : aggT Tryz.prog 234 = some false := by kernel_rfl
@[go_sem] theorem zr234 : zeroT Tryz.prog 234 = some [AV.nf] := by kernel_rfl
@[go_sem] theorem u8234 : u8T Tryz.prog 234 = false := by kernel_rfl
@[go_sem] theorem un235 : Program.underlying Tryz.prog 235 = some (TypeDesc.int IntKind.i32) := by kernel_rfl
@[go_sem] theorem sf235 : selfT Tryz.prog 235 = false := by kernel_rfl
@[go_sem] theorem sz235 : szT Tryz.prog 235 = some 1 := by kernel_rfl
@[go_sem] theorem ag235 : aggT Tryz.prog 235 = some false := by kernel_rfl
@[go_sem] theorem zr235 : zeroT Tryz.prog 235 = some [AV.i IntKind.i32 0] := by kernel_rfl
@[go_sem] theorem u8235 : u8T Tryz.prog 235 = false := by kernel_rfl
@[go_sem] theorem un236 : Program.underlying Tryz.prog 236 = some (TypeDesc.int IntKind.i32) := by kernel_rfl
@[go_sem] theorem sf236 : selfT Tryz.prog 236 = false := by kernel_rfl
@[go_sem] theorem sz236 : szT Tryz.prog 236 = some 1 := by kernel_rfl
@[go_sem] theorem ag236 : aggT Tryz.prog 236 = some false := by kernel_rfl
@[go_sem] theorem zr236 : zeroT Tryz.prog 236 = some [AV.i IntKind.i32 0] := by kernel_rfl
@[go_sem] theorem u8236 : u8T Tryz.prog 236 = false := by kernel_rfl
@[go_sem] theorem sf237 : selfT Tryz.prog 237 = false := by kernel_rfl
@[go_sem] theorem sz237 : szT Tryz.prog 237 = some 11 := by kernel_rfl
@[go_sem] theorem ag237 : aggT Tryz.prog 237 = some true := by kernel_rfl
@[go_sem] theorem zr237 : zeroT Tryz.prog 237 = some [AV.i IntKind.u64 0, AV.i IntKind.u64 0, AV.i IntKind.u32 0, AV.i IntKind.u8 0, AV.i IntKind.u8 0, AV.i IntKind.u8 0, AV.i IntKind.u8 0, AV.nf, AV.np, AV.i IntKind.i32 0, AV.i IntKind.i32 0] := by kernel_rfl
@[go_sem] theorem u8237 : u8T Tryz.prog 237 = false := by kernel_rfl
@[go_sem] theorem if237 : ifcT Tryz.prog 237 = false := by kernel_rfl
@[go_sem] theorem pl237 : plT Tryz.prog 237 = some (Sum.inl [(0, 1), (1, 1), (2, 1), (3, 1), (4, 1), (5, 1), (6, 1), (7, 1), (8, 1), (9, 1), (10, 1)]) := by kernel_rfl
@[go_sem] theorem fd237_0 : fldT Tryz.prog 237 0 = some (0, 12) := by kernel_rfl
@[go_sem] theorem fd237_1 : fldT Tryz.prog 237 1 = some (1, 12) := by kernel_rfl
@[go_sem] theorem fd237_2 : fldT Tryz.prog 237 2 = some (2, 188) := by kernel_rfl
@[go_sem] theorem fd237_3 : fldT Tryz.prog 237 3 = some (3, 232) := by kernel_rfl
@[go_sem] theorem fd237_4 : fldT Tryz.prog 237 4 = some (4, 5) := by kernel_rfl
@[go_sem] theorem fd237_5 : fldT Tryz.prog 237 5 = some (5, 5) := by kernel_rfl
@[go_sem] theorem fd237_6 : fldT Tryz.prog 237 6 = some (6, 233) := by kernel_rfl
@[go_sem] theorem fd237_7 : fldT Tryz.prog 237 7 = some (7, 234) := by kernel_rfl
@[go_sem] theorem fd237_8 : fldT Tryz.prog 237 8 = some (8, 137) := by kernel_rfl
@[go_sem] theorem fd237_9 : fldT Tryz.prog 237 9 = some (9, 235) := by kernel_rfl
@[go_sem] theorem fd237_10 : fldT Tryz.prog 237 10 = some (10, 236) := by kernel_rfl
@[go_sem] theorem sf238 : selfT Tryz.prog 238 = false := by kernel_rfl
@[go_sem] theorem sz238 : szT Tryz.prog 238 = some 11 := by kernel_rfl
@[go_sem] theorem ag238 : aggT Tryz.prog 238 = some true := by kernel_rfl
@[go_sem] theorem zr238 : zeroT Tryz.prog 238 = some [AV.i IntKind.u64 0, AV.i IntKind.u64 0, AV.i IntKind.u32 0, AV.i IntKind.u8 0, AV.i IntKind.u8 0, AV.i IntKind.u8 0, AV.i IntKind.u8 0, AV.nf, AV.np, AV.i IntKind.i32 0, AV.i IntKind.i32 0] := by kernel_rfl
@[go_sem] theorem u8238 : u8T Tryz.prog 238 = false := by kernel_rfl
@[go_sem] theorem if238 : ifcT Tryz.prog 238 = false := by kernel_rfl
@[go_sem] theorem pl238 : plT Tryz.prog 238 = some (Sum.inl [(0, 1), (1, 1), (2, 1), (3, 1), (4, 1), (5, 1), (6, 1), (7, 1), (8, 1), (9, 1), (10, 1)]) := by kernel_rfl
@[go_sem] theorem fd238_0 : fldT Tryz.prog 238 0 = some (0, 12) := by kernel_rfl
@[go_sem] theorem fd238_1 : fldT Tryz.prog 238 1 = some (1, 12) := by kernel_rfl
@[go_sem] theorem fd238_2 : fldT Tryz.prog 238 2 = some (2, 188) := by kernel_rfl
@[go_sem] theorem fd238_3 : fldT Tryz.prog 238 3 = some (3, 232) := by kernel_rfl
@[go_sem] theorem fd238_4 : fldT Tryz.prog 238 4 = some (4, 5) := by kernel_rfl
@[go_sem] theorem fd238_5 : fldT Tryz.prog 238 5 = some (5, 5) := by kernel_rfl
@[go_sem] theorem fd238_6 : fldT Tryz.prog 238 6 = some (6, 233) := by kernel_rfl
@[go_sem] theorem fd238_7 : fldT Tryz.prog 238 7 = some (7, 234) := by kernel_rfl
@[go_sem] theorem fd238_8 : fldT Tryz.prog 238 8 = some (8, 137) := by kernel_rfl
@[go_sem] theorem fd238_9 : fldT Tryz.prog 238 9 = some (9, 235) := by kernel_rfl
@[go_sem] theorem fd238_10 : fldT Tryz.prog 238 10 = some (10, 236) := by kernel_rfl
end Go.Proofs.YtkokongbnemkhaaGreatDoorFx
