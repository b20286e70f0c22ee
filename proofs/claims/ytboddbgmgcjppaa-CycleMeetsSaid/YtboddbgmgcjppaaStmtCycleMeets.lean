/- What each argument of the law reads as, and the statement over plain values. -/
import Derived.Test.YtboddbgmgcjppaaOpens
import Derived.Test.YtboddbgmgcjppaaQCycleMeetsx13
import Derived.KernelRfl
set_option linter.unusedVariables false
namespace Go.Proofs.Ytboddbgmgcjppaa.QCycleMeets
open Go.RowKit Go.Proofs.YtboddbgmgcjppaaW.PrintWords Go.Proofs.YtboddbgmgcjppaaW.PrintLast Go.Proofs.YtboddbgmgcjppaaOpens
theorem op3 (w : World) : Opens Try.prog w 3 (Kd.int .i64) (fun x : Int => (Lit.int .i64 x).wf = true) := opens_int Try.underlying3
theorem op49 (w : World) : Opens Try.prog w 49 (Kd.slice 3 (Kd.int .i64)) (fun l : List Int => (∀ x ∈ l, ((fun x : Int => (Lit.int .i64 x).wf = true)) x) ∧ l.length ≤ maxLen ∧ l.length * 8 ≤ 140737488351232) := opens_slice Try.underlying49 (by kernel_rfl) (by kernel_rfl) (op3 w)
abbrev Q51 := (List Int) × (List Int)
def kq51 : Kd Q51 := Kd.iso (Kd.pair (Kd.slice 3 (Kd.int .i64)) (Kd.slice 3 (Kd.int .i64))) (fun x : Q51 => x)
def Wq51 : Q51 → Prop := (And2 (fun l : List Int => (∀ x ∈ l, ((fun x : Int => (Lit.int .i64 x).wf = true)) x) ∧ l.length ≤ maxLen ∧ l.length * 8 ≤ 140737488351232) (fun l : List Int => (∀ x ∈ l, ((fun x : Int => (Lit.int .i64 x).wf = true)) x) ∧ l.length ≤ maxLen ∧ l.length * 8 ≤ 140737488351232))
theorem op51 (w : World) : Opens Try.prog w 51 kq51 Wq51 := opens_struct (W := (And2 (fun l : List Int => (∀ x ∈ l, ((fun x : Int => (Lit.int .i64 x).wf = true)) x) ∧ l.length ≤ maxLen ∧ l.length * 8 ≤ 140737488351232) (fun l : List Int => (∀ x ∈ l, ((fun x : Int => (Lit.int .i64 x).wf = true)) x) ∧ l.length ≤ maxLen ∧ l.length * 8 ≤ 140737488351232))) (f := fun x : Q51 => x) (fun p => p) (fun _ => rfl) Try.underlying51 (by kernel_rfl) (opensF_cons (off := 0) (off' := 1) rfl (by kernel_rfl) rfl (op49 w) (opensF_one (off := 1) rfl (by kernel_rfl) (op49 w)))
/-- The statement over plain values. -/
def ephemeriskeep1_CycleMeets.Pure : Prop := ∀ (l0_0 : List Int) (l0_1 : List Int) (a1 : Int), ((∀ x ∈ l0_0, ((Lit.int .i64 x).wf = true)) ∧ l0_0.length ≤ maxLen ∧ l0_0.length * 8 ≤ 140737488351232) → ((∀ x ∈ l0_1, ((Lit.int .i64 x).wf = true)) ∧ l0_1.length ≤ maxLen ∧ l0_1.length * 8 ≤ 140737488351232) → ((Lit.int .i64 a1).wf = true) → ∃ k, ephemeriskeep1_CycleMeets.f k l0_0 l0_1 a1 = some true
end Go.Proofs.Ytboddbgmgcjppaa.QCycleMeets
