/- What each argument of the law reads as, and the statement over plain values. -/
import Derived.Test.YtidjaahpabppaaaDoorOpens
import Derived.Test.YtidjaahpabppaaaDoorQCompileLeastSamex14
import Derived.KernelRfl
set_option linter.unusedVariables false
namespace Go.Proofs.YtidjaahpabppaaaDoor.QCompileLeastSame
open Go.RowKit Go.Proofs.YtidjaahpabppaaaDoorW.PrintWords Go.Proofs.YtidjaahpabppaaaDoorW.PrintLast Go.Proofs.YtidjaahpabppaaaDoorOpens
theorem op9 (w : World) : Opens Tryd.prog w 9 Kd.string (fun x : ByteArray => x.size ≤ 140737488351232) := opens_string Tryd.underlying9
theorem op3 (w : World) : Opens Tryd.prog w 3 (Kd.int .i64) (fun x : Int => (Lit.int .i64 x).wf = true) := opens_int Tryd.underlying3
def Wf41 (x : S41) : Prop := (Lit.int .i64 x.f0).wf = true ∧ (Lit.int .i64 x.f1).wf = true ∧ ((∀ y ∈ x.f2, True) ∧ x.f2.length ≤ maxLen ∧ x.f2.length * 40 ≤ 140737488351232)
set_option maxRecDepth 100000 in
theorem op41 (w : World) : Opens Tryd.prog w 41 k41 Wf41 := by
  intro H enc base spare held fuel
  induction fuel using Nat.strongRecOn with
  | ind fuel ih =>
    intro cs x hx hl
    obtain ⟨xs, n, hn, rfl, hlen, hlx, hf⟩ := DataW.trod_struct Tryd.underlying41 hx
    have hc : Tryd.prog.cellsOf 41 = 3 := by kernel_rfl
    rw [hc] at hlen
    have hlx2 : xs.length = 3 := hlx
    match xs, hlx2 with
    | [x0_, x1_, x2_], _ =>
      have h0_ := hf 0 _ rfl
      have h1_ := hf 1 _ rfl
      have h2_ := hf 2 _ rfl
      simp only [List.getElem?_cons_zero, List.getElem?_cons_succ] at h0_ h1_ h2_
      have hw : ∀ n ∈ DataW.weightsEach Tryd.prog [3, 3, 39] [x0_.1, x1_.1, x2_.1], n ≤ reachBytes := fun n hn => hl n (by simpa [DataW.weights, Tryd.underlying41] using hn)
      have l0_ : Light Tryd.prog 3 x0_.1 := fun n hn => hw n (DataW.weights_mem_each (j := 0) rfl rfl n hn)
      have l1_ : Light Tryd.prog 3 x1_.1 := fun n hn => hw n (DataW.weights_mem_each (j := 1) rfl rfl n hn)
      have l2_ : Light Tryd.prog 39 x2_.1 := fun n hn => hw n (DataW.weights_mem_each (j := 2) rfl rfl n hn)
      obtain ⟨a0_, e0_, w0_⟩ := op3 w H enc base spare held n _ _ h0_ l0_
      obtain ⟨a1_, e1_, w1_⟩ := op3 w H enc base spare held n _ _ h1_ l1_
      obtain ⟨a2_, ⟨A_, c_, e2_, hle_, hC_⟩, w2_⟩ := slice_core (d := k41) (W := fun _ => True) (B := 40) Tryd.underlying39 (by kernel_rfl) (by kernel_rfl) h2_ l2_ (fun m cs' y hm hy hly => by obtain ⟨a, k, _⟩ := ih m (by omega) cs' y hy hly; exact ⟨a, k, trivial⟩)
      match cs, hlen with
      | [u0_, u1_, u2_], _ =>
        have q0_ : [u0_] = [.int .i64 a0_] := e0_
        have q1_ : [u1_] = [.int .i64 a1_] := e1_
        have q2_ : [u2_] = [.slice A_ a2_.length c_] := e2_
        obtain rfl := (List.cons.inj q0_).1
        obtain rfl := (List.cons.inj q1_).1
        obtain rfl := (List.cons.inj q2_).1
        exact ⟨⟨a0_, a1_, a2_⟩, k41_mk w ⟨a0_, a1_, a2_⟩ hle_ hC_, w0_, w1_, w2_⟩
def Wf46 (x : S46) : Prop := (And2 (fun x : ByteArray => x.size ≤ 140737488351232) (And2 (fun x : Int => (Lit.int .i64 x).wf = true) (fun x : Int => (Lit.int .i64 x).wf = true))) (x.f0, x.f1, x.f2)
theorem op46 (w : World) : Opens Tryd.prog w 46 k46 Wf46 := opens_struct (W := (And2 (fun x : ByteArray => x.size ≤ 140737488351232) (And2 (fun x : Int => (Lit.int .i64 x).wf = true) (fun x : Int => (Lit.int .i64 x).wf = true)))) (fun p => ⟨p.1, p.2.1, p.2.2⟩) (fun _ => rfl) Tryd.underlying46 (by kernel_rfl) (opensF_cons (off := 0) (off' := 1) rfl (by kernel_rfl) rfl (op9 w) (opensF_cons (off := 1) (off' := 2) rfl (by kernel_rfl) rfl (op3 w) (opensF_one (off := 2) rfl (by kernel_rfl) (op3 w))))
theorem op42 (w : World) : Opens Tryd.prog w 42 (Kd.slice 46 k46) (fun l : List (S46) => (∀ x ∈ l, Wf46 x) ∧ l.length ≤ maxLen ∧ l.length * 32 ≤ 140737488351232) := opens_slice Tryd.underlying42 (by kernel_rfl) (by kernel_rfl) (op46 w)
abbrev Q44 := (ByteArray) × (Int) × (Int) × (S41) × (List (S46))
def kq44 : Kd Q44 := Kd.iso (Kd.pair Kd.string (Kd.pair (Kd.int .i64) (Kd.pair (Kd.int .i64) (Kd.pair k41 (Kd.slice 46 k46))))) (fun x : Q44 => x)
def Wq44 : Q44 → Prop := (And2 (fun x : ByteArray => x.size ≤ 140737488351232) (And2 (fun x : Int => (Lit.int .i64 x).wf = true) (And2 (fun x : Int => (Lit.int .i64 x).wf = true) (And2 Wf41 (fun l : List (S46) => (∀ x ∈ l, Wf46 x) ∧ l.length ≤ maxLen ∧ l.length * 32 ≤ 140737488351232)))))
theorem op44 (w : World) : Opens Tryd.prog w 44 kq44 Wq44 := opens_struct (W := (And2 (fun x : ByteArray => x.size ≤ 140737488351232) (And2 (fun x : Int => (Lit.int .i64 x).wf = true) (And2 (fun x : Int => (Lit.int .i64 x).wf = true) (And2 Wf41 (fun l : List (S46) => (∀ x ∈ l, Wf46 x) ∧ l.length ≤ maxLen ∧ l.length * 32 ≤ 140737488351232)))))) (f := fun x : Q44 => x) (fun p => p) (fun _ => rfl) Tryd.underlying44 (by kernel_rfl) (opensF_cons (off := 0) (off' := 1) rfl (by kernel_rfl) rfl (op9 w) (opensF_cons (off := 1) (off' := 2) rfl (by kernel_rfl) rfl (op3 w) (opensF_cons (off := 2) (off' := 3) rfl (by kernel_rfl) rfl (op3 w) (opensF_cons (off := 3) (off' := 6) rfl (by kernel_rfl) rfl (op41 w) (opensF_one (off := 6) rfl (by kernel_rfl) (op42 w))))))
/-- The statement over plain values. -/
def ephemeriskeep1_CompileLeastSame.Pure : Prop := ∀ (a0_0 : ByteArray) (a0_1 : Int) (a0_2 : Int) (a0_3 : Int) (a0_4 : Int) (l0_5 : List (S41)) (l0_6 : List (S46)) (a1 : Int), (a0_0.size ≤ 140737488351232) → ((Lit.int .i64 a0_1).wf = true) → ((Lit.int .i64 a0_2).wf = true) → ((Lit.int .i64 a0_3).wf = true) → ((Lit.int .i64 a0_4).wf = true) → ((∀ y ∈ l0_5, True) ∧ l0_5.length ≤ maxLen ∧ l0_5.length * 40 ≤ 140737488351232) → ((∀ x ∈ l0_6, Wf46 x) ∧ l0_6.length ≤ maxLen ∧ l0_6.length * 32 ≤ 140737488351232) → ((Lit.int .i64 a1).wf = true) → ∃ k, ephemeriskeep1_CompileLeastSame.f k a0_0 a0_1 a0_2 a0_3 a0_4 l0_5 l0_6 a1 = some true
end Go.Proofs.YtidjaahpabppaaaDoor.QCompileLeastSame
