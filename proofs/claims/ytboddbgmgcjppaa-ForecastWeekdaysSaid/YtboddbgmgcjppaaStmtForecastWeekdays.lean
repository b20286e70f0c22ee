/- What each argument of the law reads as, and the statement over plain values. -/
import Derived.Test.YtboddbgmgcjppaaOpens
import Derived.Test.YtboddbgmgcjppaaQForecastWeekdaysx18
import Derived.KernelRfl
set_option linter.unusedVariables false
namespace Go.Proofs.Ytboddbgmgcjppaa.QForecastWeekdays
open Go.RowKit Go.Proofs.YtboddbgmgcjppaaW.PrintWords Go.Proofs.YtboddbgmgcjppaaW.PrintLast Go.Proofs.YtboddbgmgcjppaaOpens
theorem op3 (w : World) : Opens Try.prog w 3 (Kd.int .i64) (fun x : Int => (Lit.int .i64 x).wf = true) := opens_int Try.underlying3
theorem op9 (w : World) : Opens Try.prog w 9 Kd.string (fun x : ByteArray => x.size ≤ 140737488351232) := opens_string Try.underlying9
def Wf76 (x : S76) : Prop := (And2 (fun x : Int => (Lit.int .i64 x).wf = true) (And2 (fun x : Int => (Lit.int .i64 x).wf = true) (And2 (fun x : Int => (Lit.int .i64 x).wf = true) (And2 (fun x : Int => (Lit.int .i64 x).wf = true) (And2 (fun x : Int => (Lit.int .i64 x).wf = true) (fun x : ByteArray => x.size ≤ 140737488351232)))))) (x.f0, x.f1, x.f2, x.f3, x.f4, x.f5)
theorem op76 (w : World) : Opens Try.prog w 76 k76 Wf76 := opens_struct (W := (And2 (fun x : Int => (Lit.int .i64 x).wf = true) (And2 (fun x : Int => (Lit.int .i64 x).wf = true) (And2 (fun x : Int => (Lit.int .i64 x).wf = true) (And2 (fun x : Int => (Lit.int .i64 x).wf = true) (And2 (fun x : Int => (Lit.int .i64 x).wf = true) (fun x : ByteArray => x.size ≤ 140737488351232))))))) (fun p => ⟨p.1, p.2.1, p.2.2.1, p.2.2.2.1, p.2.2.2.2.1, p.2.2.2.2.2⟩) (fun _ => rfl) Try.underlying76 (by kernel_rfl) (opensF_cons (off := 0) (off' := 1) rfl (by kernel_rfl) rfl (op3 w) (opensF_cons (off := 1) (off' := 2) rfl (by kernel_rfl) rfl (op3 w) (opensF_cons (off := 2) (off' := 3) rfl (by kernel_rfl) rfl (op3 w) (opensF_cons (off := 3) (off' := 4) rfl (by kernel_rfl) rfl (op3 w) (opensF_cons (off := 4) (off' := 5) rfl (by kernel_rfl) rfl (op3 w) (opensF_one (off := 5) rfl (by kernel_rfl) (op9 w)))))))
theorem op74 (w : World) : Opens Try.prog w 74 (Kd.slice 76 k76) (fun l : List (S76) => (∀ x ∈ l, Wf76 x) ∧ l.length ≤ maxLen ∧ l.length * 56 ≤ 140737488351232) := opens_slice Try.underlying74 (by kernel_rfl) (by kernel_rfl) (op76 w)
/-- The statement over plain values. -/
def ephemeriskeep1_ForecastWeekdays.Pure : Prop := ∀ (l0 : List (S76)) (a1 : Int) (a2 : Int), ((∀ x ∈ l0, Wf76 x) ∧ l0.length ≤ maxLen ∧ l0.length * 56 ≤ 140737488351232) → ((Lit.int .i64 a1).wf = true) → ((Lit.int .i64 a2).wf = true) → ∃ k, ephemeriskeep1_ForecastWeekdays.f k l0 a1 a2 = some true
end Go.Proofs.Ytboddbgmgcjppaa.QForecastWeekdays
