/- What the calendar says of a regnal date, told so that the reign of a day is found. -/
import Derived.Test.YtkokongbnemkhaaGreatDoorNA
set_option linter.unusedVariables false
set_option linter.unusedSimpArgs false
namespace Go.Proofs.YtkokongbnemkhaaGreatDoorA
open Go Go.RowKit Go.Proofs
variable {m : Int}
theorem Cal.At.year {c : Cal} (hc : c.Ok) {day y y' : Int} {mo mo' : Nat} (h : c.At day y mo) (h' : c.At day y' mo') : y' = y := by
  have a := h.a; have b := h.b; have a' := h'.a; have b' := h'.b
  rcases Int.lt_trichotomy y' y with q | q | q
  · have := hc.first_mono (show y' + 1 ≤ y from q); omega
  · exact q
  · have := hc.first_mono (show y + 1 ≤ y' from q); omega
theorem rg_ask2 {c : Cal} (hc : c.Good m) (l : Reigns) (s : List UInt8) (mode y mo d : Int) : ∃ n e : Nat → Int, (∀ i, i < l.length → (rgN l i ≠ s → e i ≠ 0) ∧
    (rgN l i = s → (MeetsP Tryz.prog (glT m) 27 [c.A, .i .i64 ((rgR l).f i)] (resD (dateA 0 0 0) 3) ∧ e i ≠ 0) ∨
      ∃ fy fm fd, -10000 ≤ fy ∧ fy ≤ 10000 ∧ MeetsP Tryz.prog (glT m) 27 [c.A, .i .i64 ((rgR l).f i)] (resD (dateA fy fm fd) 0) ∧ MeetsP Tryz.prog (glT m) 37 [c.A, dateA (fy + y - xtr mode) mo d] (resD (.i .i64 (n i)) (e i)) ∧ True)) ∧
    ∀ i, i < l.length → rgN l i = s → ∀ fy (k : Nat), c.At ((rgR l).f i) fy k → ∀ x (j : Nat), mo = j + 1 → c.At x (fy + y - xtr mode) j → x - c.first (fy + y - xtr mode) + 1 - c.bef (fy + y - xtr mode) j = d → e i = 0 ∧ n i = x := by
  have key : ∀ i : Nat, ∃ p : Int × Int, i < l.length → ((rgN l i ≠ s → p.2 ≠ 0) ∧
    (rgN l i = s → (MeetsP Tryz.prog (glT m) 27 [c.A, .i .i64 ((rgR l).f i)] (resD (dateA 0 0 0) 3) ∧ p.2 ≠ 0) ∨
      ∃ fy fm fd, -10000 ≤ fy ∧ fy ≤ 10000 ∧ MeetsP Tryz.prog (glT m) 27 [c.A, .i .i64 ((rgR l).f i)] (resD (dateA fy fm fd) 0) ∧ MeetsP Tryz.prog (glT m) 37 [c.A, dateA (fy + y - xtr mode) mo d] (resD (.i .i64 p.1) p.2) ∧ True)) ∧
    (rgN l i = s → ∀ fy (k : Nat), c.At ((rgR l).f i) fy k → ∀ x (j : Nat), mo = j + 1 → c.At x (fy + y - xtr mode) j → x - c.first (fy + y - xtr mode) + 1 - c.bef (fy + y - xtr mode) j = d → p.2 = 0 ∧ p.1 = x) := fun i => by
    by_cases hs : rgN l i = s
    · by_cases hex : ∃ fy, ∃ k : Nat, c.At ((rgR l).f i) fy k
      · obtain ⟨fy, k, hat⟩ := hex
        obtain ⟨n, e, h1, _, _, h3⟩ := toDay_is (m := m) hc (fy + y - xtr mode) mo d
        refine ⟨(n, e), fun _ => ⟨⟨fun q => absurd hs q, fun _ => .inr ⟨fy, _, _, hat.y1, hat.y2, hat.run hc, h1, trivial⟩⟩, fun _ fy' k' hat' x j hj hx hd => ?_⟩⟩
        obtain rfl := hat.year hc.toOk hat'
        exact h3 x j hj hx hd
      · rcases fromDay_all hc ((rgR l).f i) with hf | ⟨fy, k, hat⟩
        · exact ⟨(0, 1), fun _ => ⟨⟨fun q => absurd hs q, fun _ => .inl ⟨hf, by simp⟩⟩, fun _ fy' k' hat' => absurd ⟨fy', k', hat'⟩ hex⟩⟩
        · exact absurd ⟨fy, k, hat⟩ hex
    · exact ⟨(0, 1), fun _ => ⟨⟨fun _ => by simp, fun q => absurd q hs⟩, fun q => absurd q hs⟩⟩
  obtain ⟨p, hp⟩ := Classical.axiomOfChoice key
  exact ⟨fun i => (p i).1, fun i => (p i).2, fun i hi => (hp i hi).1, fun i hi => (hp i hi).2⟩
end Go.Proofs.YtkokongbnemkhaaGreatDoorA
