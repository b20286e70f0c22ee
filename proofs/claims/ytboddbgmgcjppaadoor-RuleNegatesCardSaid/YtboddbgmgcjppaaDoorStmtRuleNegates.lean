/- What each argument of the law reads as, and the statement over plain values. -/
import Derived.Test.YtboddbgmgcjppaaDoorOpens
import Derived.Test.YtboddbgmgcjppaaDoorRuleN
import Derived.KernelRfl
set_option linter.unusedVariables false
namespace Go.Proofs.YtboddbgmgcjppaaDoor.QRuleNegates
open Go.RowKit Go.Proofs.YtboddbgmgcjppaaDoorW.PrintWords Go.Proofs.YtboddbgmgcjppaaDoorW.PrintLast Go.Proofs.YtboddbgmgcjppaaDoorOpens
theorem op3 (w : World) : Opens Tryd.prog w 3 (Kd.int .i64) (fun x : Int => (Lit.int .i64 x).wf = true) := opens_int Tryd.underlying3
def Wf24 (x : S24) : Prop := (Lit.int .i64 x.f0).wf = true ∧ (Lit.int .i64 x.f1).wf = true ∧ ((∀ y ∈ x.f2, True) ∧ x.f2.length ≤ maxLen ∧ x.f2.length * 40 ≤ 140737488351232)
set_option maxRecDepth 100000 in
theorem op24 (w : World) : Opens Tryd.prog w 24 k24 Wf24 := by
  intro H enc base spare held fuel
  induction fuel using Nat.strongRecOn with
  | ind fuel ih =>
    intro cs x hx hl
    obtain ⟨xs, n, hn, rfl, hlen, hlx, hf⟩ := DataW.trod_struct Tryd.underlying24 hx
    have hc : Tryd.prog.cellsOf 24 = 3 := by kernel_rfl
    rw [hc] at hlen
    have hlx2 : xs.length = 3 := hlx
    match xs, hlx2 with
    | [x0_, x1_, x2_], _ =>
      have h0_ := hf 0 _ rfl
      have h1_ := hf 1 _ rfl
      have h2_ := hf 2 _ rfl
      simp only [List.getElem?_cons_zero, List.getElem?_cons_succ] at h0_ h1_ h2_
      have hw : ∀ n ∈ DataW.weightsEach Tryd.prog [3, 3, 22] [x0_.1, x1_.1, x2_.1], n ≤ reachBytes := fun n hn => hl n (by simpa [DataW.weights, Tryd.underlying24] using hn)
      have l0_ : Light Tryd.prog 3 x0_.1 := fun n hn => hw n (DataW.weights_mem_each (j := 0) rfl rfl n hn)
      have l1_ : Light Tryd.prog 3 x1_.1 := fun n hn => hw n (DataW.weights_mem_each (j := 1) rfl rfl n hn)
      have l2_ : Light Tryd.prog 22 x2_.1 := fun n hn => hw n (DataW.weights_mem_each (j := 2) rfl rfl n hn)
      obtain ⟨a0_, e0_, w0_⟩ := op3 w H enc base spare held n _ _ h0_ l0_
      obtain ⟨a1_, e1_, w1_⟩ := op3 w H enc base spare held n _ _ h1_ l1_
      obtain ⟨a2_, ⟨A_, c_, e2_, hle_, hC_⟩, w2_⟩ := slice_core (d := k24) (W := fun _ => True) (B := 40) Tryd.underlying22 (by kernel_rfl) (by kernel_rfl) h2_ l2_ (fun m cs' y hm hy hly => by obtain ⟨a, k, _⟩ := ih m (by omega) cs' y hy hly; exact ⟨a, k, trivial⟩)
      match cs, hlen with
      | [u0_, u1_, u2_], _ =>
        have q0_ : [u0_] = [.int .i64 a0_] := e0_
        have q1_ : [u1_] = [.int .i64 a1_] := e1_
        have q2_ : [u2_] = [.slice A_ a2_.length c_] := e2_
        obtain rfl := (List.cons.inj q0_).1
        obtain rfl := (List.cons.inj q1_).1
        obtain rfl := (List.cons.inj q2_).1
        exact ⟨⟨a0_, a1_, a2_⟩, k24_mk w ⟨a0_, a1_, a2_⟩ hle_ hC_, w0_, w1_, w2_⟩
/-- The statement over plain values. -/
def ephemeriskeep1_RuleNegates.Pure : Prop := ∀ (a0_0 : Int) (a0_1 : Int) (l0_2 : List (S24)) (a1 : Int), ((Lit.int .i64 a0_0).wf = true) → ((Lit.int .i64 a0_1).wf = true) → ((∀ y ∈ l0_2, True) ∧ l0_2.length ≤ maxLen ∧ l0_2.length * 40 ≤ 140737488351232) → ((Lit.int .i64 a1).wf = true) → ∃ k, ephemeriskeep1_RuleNegates.f k a0_0 a0_1 l0_2 a1 = some true
end Go.Proofs.YtboddbgmgcjppaaDoor.QRuleNegates
