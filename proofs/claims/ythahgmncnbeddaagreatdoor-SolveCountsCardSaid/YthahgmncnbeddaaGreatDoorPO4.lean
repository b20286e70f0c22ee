/- Feasts and descriptions of work as arguments. -/
import Derived.Test.YthahgmncnbeddaaGreatDoorNG
import Derived.Test.YthahgmncnbeddaaGreatDoorPS16
set_option linter.unusedVariables false
set_option linter.unusedSimpArgs false
namespace Go.Proofs.YthahgmncnbeddaaGreatDoorA
open Go Go.RowKit Go.Proofs
variable {w : World}
def IntW (zs : List AV) : Prop := ∃ n, zs = [.i .i64 n] ∧ (Lit.int .i64 n).wf = true
def StrW (zs : List AV) : Prop := ∃ s, zs = [.s s] ∧ s.length ≤ 140737488351232
theorem oaInt : OA Tryz.prog w 3 1 IntW := oa_int (by kernel_rfl)
theorem oaStr : OA Tryz.prog w 9 1 StrW := oa_string (by kernel_rfl)
set_option maxRecDepth 100000 in
theorem feast_aux : ∀ (fuel : Nat) (H : Type) (enc : TypeId × Value → H) (base : Nat) (spare : Nat → Bool) (held : Bool) (cs : List Value) (x : DataW H × List MemPlace),
    DataW.trod enc Tryz.prog w base spare held fuel 24 cs = some x → LightA Tryz.prog 24 x.1 → ∃ zs, zs.length = 5 ∧ CellsA w cs zs ∧ FeR zs := by
  intro fuel
  induction fuel using Nat.strongRecOn with
  | ind fuel ih =>
  intro H enc base spare held cs x hx hl
  have ht := Tryz.underlying24
  obtain ⟨xs, k, rfl, rfl, hlen, hlx, hf⟩ := DataW.trod_struct ht hx
  have hl' : ∀ n ∈ DataW.weightsEach Tryz.prog _ (xs.map (·.1)), n ≤ reachBytes := fun n hn => hl n (by simpa [DataW.weights, ht] using hn)
  obtain ⟨x0, x1, x2, x3, x4, rfl⟩ : ∃ x0 x1 x2 x3 x4, xs = [x0, x1, x2, x3, x4] := by
    match xs, hlx with
    | [a, b, c, d, e], _ => exact ⟨_, _, _, _, _, rfl⟩
  · skip
    have h0 := hf 0 _ rfl
    have h1 := hf 1 _ rfl
    have h2 := hf 2 _ rfl
    have h3 := hf 3 _ rfl
    have h4 := hf 4 _ rfl
    simp only [List.getElem?_cons_zero, List.getElem?_cons_succ] at h0 h1 h2 h3 h4
    simp only [DataW.weightsEach, List.map_cons, List.map_nil, List.mem_append, List.not_mem_nil, or_false] at hl'
    obtain ⟨z0, l0, c0, n0, rfl, w0⟩ := oaInt H enc base spare held k _ x0 h0 (fun n hn => hl' n (by simp [hn]))
    obtain ⟨z1, l1, c1, n1, rfl, w1⟩ := oaInt H enc base spare held k _ x1 h1 (fun n hn => hl' n (by simp [hn]))
    obtain ⟨z2, l2, c2, n2, rfl, w2⟩ := oaInt H enc base spare held k _ x2 h2 (fun n hn => hl' n (by simp [hn]))
    obtain ⟨z3, l3, c3, n3, rfl, w3⟩ := oaStr H enc base spare held k _ x3 h3 (fun n hn => hl' n (by simp [hn]))
    obtain ⟨z4, l4, c4, rows, rfl, w4, _, w5⟩ := slice_coreA (t := 22) (k := 5) (B := 64) (W := FeR) (e := 24) (by kernel_rfl) (by kernel_rfl) (by kernel_rfl) (by decide) h4 (fun n hn => hl' n (by simp [hn])) (fun n cs' y hn hy hly => ih n (by omega) H enc base spare held cs' y hy hly)
    have e5 : cs.length = 5 := hlen.trans (by kernel_rfl)
    obtain ⟨a0, a1, a2, a3, a4, rfl⟩ : ∃ a0 a1 a2 a3 a4, cs = [a0, a1, a2, a3, a4] := by
      match cs, e5 with
      | [a, b, c, d, e], _ => exact ⟨_, _, _, _, _, rfl⟩
    · skip
      have p0 := c0.2 0 a0 _ rfl rfl
      have p1 := c1.2 0 a1 _ rfl rfl
      have p2 := c2.2 0 a2 _ rfl rfl
      have p3 := c3.2 0 a3 _ rfl rfl
      have p4 := c4.2 0 a4 _ rfl rfl
      refine ⟨[.i .i64 n0, .i .i64 n1, .i .i64 n2, .s n3, .isl false 5 rows], rfl, ⟨rfl, fun j v a hv ha => ?_⟩, .mk _ _ _ _ _ w0 w1 w2 (fun r hr => (w4 r hr).2) (by omega)⟩
      match j, hv, ha with
      | 0, hv, ha => cases hv; cases ha; exact p0
      | 1, hv, ha => cases hv; cases ha; exact p1
      | 2, hv, ha => cases hv; cases ha; exact p2
      | 3, hv, ha => cases hv; cases ha; exact p3
      | 4, hv, ha => cases hv; cases ha; exact p4
      | n + 5, hv, ha => simp at hv
theorem oaFeast : OA Tryz.prog w 24 5 FeR := fun H enc base spare held fuel cs x h hl => feast_aux fuel H enc base spare held cs x h hl
end Go.Proofs.YthahgmncnbeddaaGreatDoorA
