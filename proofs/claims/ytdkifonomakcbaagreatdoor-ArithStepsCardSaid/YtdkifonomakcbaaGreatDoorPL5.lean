/- One month after the other: plain laws. -/
import Derived.Test.YtdkifonomakcbaaGreatDoorPL4
import Derived.Test.YtdkifonomakcbaaGreatDoorPW22
set_option linter.unusedVariables false
set_option linter.unusedSimpArgs false
namespace Go.Proofs.YtdkifonomakcbaaGreatDoorA
open Go Go.RowKit Go.Proofs
variable {c : Cal} {m : Int}
/-- The length of a month is one of its two. -/
theorem Cal.mlen_is (c : Cal) {y : Int} {i : Nat} (h : i < c.ms.length) : c.mlen y (i + 1) = c.ms[i].2.1 ∨ c.mlen y (i + 1) = c.ms[i].2.2 := by
  unfold Cal.mlen
  have e : ((i : Int) + 1 - 1).toNat = i := by omega
  simp only [e, List.getElem?_eq_getElem h]
  split <;> simp
/-- The day of a month to which one comes. -/
def Cal.dayAt (c : Cal) (d : Int) (p : Int × Nat) : Int := c.first p.1 + c.bef p.1 (p.2 - 1) + d - 1
/-- No month with days is too short. -/
def Cal.Fits (c : Cal) (d : Int) : Prop := ∀ q ∈ c.ms, ¬ (min q.2.1 q.2.2 < d ∧ 0 < max q.2.1 q.2.2)
theorem Cal.fits_mlen {d : Int} (hf : c.Fits d) {y : Int} {i : Nat} (h : i < c.ms.length) (hc : c.Ok) (hz : c.mlen y (i + 1) ≠ 0) : d ≤ c.mlen y (i + 1) := by
  have h1 := hf c.ms[i] (List.getElem_mem h)
  have h2 := hc.mon c.ms[i] (List.getElem_mem h)
  rcases c.mlen_is (y := y) h with e | e <;> omega
theorem Cal.chain (hc : c.Ok) (hpos : ∀ y, 0 < c.ylen y) (hfar : 1400000 ≤ c.first 10001 ∧ c.first (-10000) ≤ -1500000) {day y : Int} {mo : Nat} (hat : c.At day y mo) (hday : 1 ≤ day ∧ day ≤ 700000) (hf : c.Fits (day - c.first y + 1 - c.bef y mo)) :
    ∀ i, i ≤ 20 → (1 ≤ (c.walkM (y, mo + 1) i).2) ∧ c.At (c.dayAt (day - c.first y + 1 - c.bef y mo) (c.walkM (y, mo + 1) i)) (c.walkM (y, mo + 1) i).1 ((c.walkM (y, mo + 1) i).2 - 1) ∧ 1 ≤ c.dayAt (day - c.first y + 1 - c.bef y mo) (c.walkM (y, mo + 1) i) ∧ c.dayAt (day - c.first y + 1 - c.bef y mo) (c.walkM (y, mo + 1) i) ≤ 700000 + 800 * i := by
  intro i
  induction i with
  | zero =>
    intro _
    have e : c.dayAt (day - c.first y + 1 - c.bef y mo) (y, mo + 1) = day := by unfold Cal.dayAt; simp only [Nat.add_sub_cancel]; omega
    refine ⟨by simp only [Cal.walkM]; omega, ?_⟩
    simp only [Cal.walkM, Nat.add_sub_cancel, e]
    exact ⟨hat, by omega, by omega⟩
  | succ i ih =>
    intro hi
    obtain ⟨h1, h2, h3, h4⟩ := ih (by omega)
    have hd1 : 1 ≤ day - c.first y + 1 - c.bef y mo := by have := hat.r1; omega
    have hd2 : day - c.first y + 1 - c.bef y mo ≤ 400 := by
      have := hat.r2
      have e : c.bef y (mo + 1) = c.bef y mo + c.mlen y (mo + 1) := rfl
      have := (hc.mlen_bounds y (mo + 1)).2
      omega
    have hs : c.walkM (y, mo + 1) (i + 1) = c.stepM (c.walkM (y, mo + 1) i) := rfl
    rw [hs]
    clear hs
    generalize day - c.first y + 1 - c.bef y mo = d at *
    generalize c.walkM (y, mo + 1) i = p at *
    obtain ⟨yi, Mi⟩ := p
    simp only at h1 h2
    obtain ⟨mi, rfl⟩ : ∃ k, Mi = k + 1 := ⟨Mi - 1, by omega⟩
    unfold Cal.dayAt at h2 h3 h4
    simp only [Nat.add_sub_cancel] at h2 h3 h4
    have e1 : ∀ y n, c.bef y (n + 1) = c.bef y n + c.mlen y (n + 1) := fun y n => rfl
    have b0 := fun y n => (hc.bef_bounds y n).1
    have r1 := h2.r1
    have r2 := h2.r2
    have a := h2.a
    have ml := hc.mlen_bounds yi (mi + 1)
    have eb := e1 yi mi
    have bb := b0 yi mi
    have hmi := h2.hmo
    have bm := hc.bef_mono yi (show mi + 1 ≤ c.ms.length from hmi)
    have ba := c.bef_all yi
    have fs := hc.first_succ yi
    have hE : c.At (c.first yi + c.bef yi (mi + 1) - 1) yi mi := ⟨chkDay_ok (by omega) (by omega), h2.y1, h2.y2, by omega, by omega, hmi, by omega, by omega⟩
    have hn : ¬ c.first yi + c.bef yi (mi + 1) - 1 - c.first yi + 1 - c.bef yi mi < c.mlen yi (mi + 1) := by omega
    obtain ⟨y', m', hE'⟩ : ∃ y' m', c.At (c.first yi + c.bef yi (mi + 1) - 1 + 1) y' m' := by
      rcases hc.at_or (c.first yi + c.bef yi (mi + 1) - 1 + 1) with h | ⟨_, h⟩ | h
      · rw [chkDay_ok (by omega) (by omega)] at h; cases h
      · exfalso; omega
      · exact h
    have hst := hE.stepM hc hpos hn hE'
    have hnx := (hE.next hc hpos hn hE').1
    rw [hst]
    have r1' := hE'.r1
    have r2' := hE'.r2
    have eb' := e1 y' m'
    have hz : c.mlen y' (m' + 1) ≠ 0 := by omega
    have hfit := Cal.fits_mlen hf hE'.hmo hc hz
    have bb' := b0 y' m'
    have bm' := hc.bef_mono y' (show m' + 1 ≤ c.ms.length from hE'.hmo)
    have ba' := c.bef_all y'
    have fs' := hc.first_succ y'
    unfold Cal.dayAt
    simp only [Nat.add_sub_cancel]
    exact ⟨by omega, ⟨chkDay_ok (by omega) (by omega), hE'.y1, hE'.y2, by omega, by omega, hE'.hmo, by omega, by omega⟩, by omega, by omega⟩
/-- Later leads along the chain. -/
theorem Cal.later_to (hc : c.Good m) {day y : Int} {mo : Nat} (hat : c.At day y mo) {n : Nat} (hn : n ≤ 10000) (hp : 1 ≤ (c.walkM (y, mo + 1) n).2) (hat' : c.At (c.dayAt (day - c.first y + 1 - c.bef y mo) (c.walkM (y, mo + 1) n)) (c.walkM (y, mo + 1) n).1 ((c.walkM (y, mo + 1) n).2 - 1)) :
    MeetsP Tryz.prog (glT m) 19 [c.A, .i .i64 day, .i .i64 0, .i .i64 n] (resD (.i .i64 (c.dayAt (day - c.first y + 1 - c.bef y mo) (c.walkM (y, mo + 1) n))) 0) := by
  have h := laterP hc hat (Y := 0) (Mo := n) (by omega) (by omega)
  have r1 := hat.r1
  have r2 := hat.r2
  have eb : c.bef y (mo + 1) = c.bef y mo + c.mlen y (mo + 1) := rfl
  have hz : c.mlen y ((mo + 1 : Nat) : Int) ≠ 0 := by
    rw [show ((mo + 1 : Nat) : Int) = (mo : Int) + 1 by omega]; omega
  rw [Int.add_zero, Cal.skip_stop (p := (y, mo + 1)) (.inr hz), Int.toNat_natCast] at h
  generalize day - c.first y + 1 - c.bef y mo = d at *
  generalize c.walkM (y, mo + 1) n = p at *
  obtain ⟨y', M'⟩ := p
  simp only at hp hat' h
  obtain ⟨m', rfl⟩ : ∃ k, M' = k + 1 := ⟨M' - 1, by omega⟩
  unfold Cal.laterR at h
  have hb : ¬ badY y' = true := by rw [Bool.not_eq_true]; exact badY_f.2 ⟨hat'.y1, hat'.y2⟩
  have r2' := hat'.r2
  have eb' : c.bef y' (m' + 1) = c.bef y' m' + c.mlen y' (m' + 1) := rfl
  simp only [Nat.add_sub_cancel, Cal.dayAt] at h hat' r2' ⊢
  have hm : min d (c.mlen y' ((m' + 1 : Nat) : Int)) = d := by
    have : ((m' + 1 : Nat) : Int) = (m' : Int) + 1 := by omega
    rw [this]; omega
  rw [if_neg hb, hm, show c.first y' + d - 1 + c.bef y' m' = c.first y' + c.bef y' m' + d - 1 by omega, if_pos hat'.far] at h
  exact h
end Go.Proofs.YtdkifonomakcbaaGreatDoorA
