/- What each argument of the law reads as, and the statement over plain values. -/
import Derived.Test.YtboddbgmgcjppaaOpens
import Derived.Test.YtboddbgmgcjppaaRuleF
import Derived.KernelRfl
set_option linter.unusedVariables false
namespace Go.Proofs.Ytboddbgmgcjppaa.QFracNearest
open Go.RowKit Go.Proofs.YtboddbgmgcjppaaW.PrintWords Go.Proofs.YtboddbgmgcjppaaW.PrintLast Go.Proofs.YtboddbgmgcjppaaOpens
theorem op3 (w : World) : Opens Try.prog w 3 (Kd.int .i64) (fun x : Int => (Lit.int .i64 x).wf = true) := opens_int Try.underlying3
/-- The statement over plain values. -/
def ephemeriskeep1_FracNearest.Pure : Prop := ∀ (a0 : Int) (a1 : Int) (a2 : Int) (a3 : Int) (a4 : Int), ((Lit.int .i64 a0).wf = true) → ((Lit.int .i64 a1).wf = true) → ((Lit.int .i64 a2).wf = true) → ((Lit.int .i64 a3).wf = true) → ((Lit.int .i64 a4).wf = true) → ∃ k, ephemeriskeep1_FracNearest.f k a0 a1 a2 a3 a4 = some true
end Go.Proofs.Ytboddbgmgcjppaa.QFracNearest
