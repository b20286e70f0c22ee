/- What each argument of the law reads as, and the statement over plain values. -/
import Derived.Test.YtboddbgmgcjppaaOpens
import Derived.Test.YtboddbgmgcjppaaQZoneJumpsx13
import Derived.KernelRfl
set_option linter.unusedVariables false
namespace Go.Proofs.Ytboddbgmgcjppaa.QZoneJumps
open Go.RowKit Go.Proofs.YtboddbgmgcjppaaW.PrintWords Go.Proofs.YtboddbgmgcjppaaW.PrintLast Go.Proofs.YtboddbgmgcjppaaOpens
theorem op9 (w : World) : Opens Try.prog w 9 Kd.string (fun x : ByteArray => x.size ≤ 140737488351232) := opens_string Try.underlying9
theorem op3 (w : World) : Opens Try.prog w 3 (Kd.int .i64) (fun x : Int => (Lit.int .i64 x).wf = true) := opens_int Try.underlying3
def Wf69 (x : S69) : Prop := (And2 (fun x : Int => (Lit.int .i64 x).wf = true) (And2 (fun x : Int => (Lit.int .i64 x).wf = true) (fun x : ByteArray => x.size ≤ 140737488351232))) (x.f0, x.f1, x.f2)
theorem op69 (w : World) : Opens Try.prog w 69 k69 Wf69 := opens_struct (W := (And2 (fun x : Int => (Lit.int .i64 x).wf = true) (And2 (fun x : Int => (Lit.int .i64 x).wf = true) (fun x : ByteArray => x.size ≤ 140737488351232)))) (fun p => ⟨p.1, p.2.1, p.2.2⟩) (fun _ => rfl) Try.underlying69 (by kernel_rfl) (opensF_cons (off := 0) (off' := 1) rfl (by kernel_rfl) rfl (op3 w) (opensF_cons (off := 1) (off' := 2) rfl (by kernel_rfl) rfl (op3 w) (opensF_one (off := 2) rfl (by kernel_rfl) (op9 w))))
theorem op57 (w : World) : Opens Try.prog w 57 (Kd.slice 69 k69) (fun l : List (S69) => (∀ x ∈ l, Wf69 x) ∧ l.length ≤ maxLen ∧ l.length * 32 ≤ 140737488351232) := opens_slice Try.underlying57 (by kernel_rfl) (by kernel_rfl) (op69 w)
abbrev Q59 := (ByteArray) × (Int) × (List (S69))
def kq59 : Kd Q59 := Kd.iso (Kd.pair Kd.string (Kd.pair (Kd.int .i64) (Kd.slice 69 k69))) (fun x : Q59 => x)
def Wq59 : Q59 → Prop := (And2 (fun x : ByteArray => x.size ≤ 140737488351232) (And2 (fun x : Int => (Lit.int .i64 x).wf = true) (fun l : List (S69) => (∀ x ∈ l, Wf69 x) ∧ l.length ≤ maxLen ∧ l.length * 32 ≤ 140737488351232)))
theorem op59 (w : World) : Opens Try.prog w 59 kq59 Wq59 := opens_struct (W := (And2 (fun x : ByteArray => x.size ≤ 140737488351232) (And2 (fun x : Int => (Lit.int .i64 x).wf = true) (fun l : List (S69) => (∀ x ∈ l, Wf69 x) ∧ l.length ≤ maxLen ∧ l.length * 32 ≤ 140737488351232)))) (f := fun x : Q59 => x) (fun p => p) (fun _ => rfl) Try.underlying59 (by kernel_rfl) (opensF_cons (off := 0) (off' := 1) rfl (by kernel_rfl) rfl (op9 w) (opensF_cons (off := 1) (off' := 2) rfl (by kernel_rfl) rfl (op3 w) (opensF_one (off := 2) rfl (by kernel_rfl) (op57 w))))
/-- The statement over plain values. -/
def ephemeriskeep1_ZoneJumps.Pure : Prop := ∀ (a0_0 : ByteArray) (a0_1 : Int) (l0_2 : List (S69)) (a1 : Int), (a0_0.size ≤ 140737488351232) → ((Lit.int .i64 a0_1).wf = true) → ((∀ x ∈ l0_2, Wf69 x) ∧ l0_2.length ≤ maxLen ∧ l0_2.length * 32 ≤ 140737488351232) → ((Lit.int .i64 a1).wf = true) → ∃ k, ephemeriskeep1_ZoneJumps.f k a0_0 a0_1 l0_2 a1 = some true
end Go.Proofs.Ytboddbgmgcjppaa.QZoneJumps
