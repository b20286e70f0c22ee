/- Plain laws of compiled calendars. -/
import Derived.Test.YtkokongbnemkhaaGreatDoorPW7
set_option linter.unusedVariables false
set_option linter.unusedSimpArgs false
namespace Go.Proofs.YtkokongbnemkhaaGreatDoorA
open Go
def Cal.ylen (c : Cal) (y : Int) : Int := if c.leap y then sumL c.ms else sumS c.ms
theorem cnt_succ : ∀ {ls : List Int} (x : Int), ls.Pairwise (· < ·) → (cnt ls (x + 1) : Int) = cnt ls x + if x ∈ ls then 1 else 0
  | [], x, _ => by simp [cnt]
  | y :: ls, x, hs => by
    have h1 := List.pairwise_cons.1 hs
    have ih := cnt_succ x h1.2
    have step : ∀ z, cnt (y :: ls) z = cnt ls z + if y < z then 1 else 0 := fun z => by
      by_cases hz : y < z <;> simp [cnt, hz]
    rw [step, step]
    by_cases hx : x = y
    · subst hx
      have : ¬ x ∈ ls := fun q => by have := h1.1 x q; omega
      rw [if_neg this] at ih
      rw [if_pos (by omega), if_neg (by omega), if_pos (List.mem_cons_self ..)]
      omega
    · have e : (x ∈ y :: ls) = (x ∈ ls) := by simp [hx]
      simp only [e]
      by_cases h2 : y < x
      · rw [if_pos (by omega), if_pos h2]; split at ih <;> simp_all <;> omega
      · rw [if_neg (by omega), if_neg h2]; split at ih <;> simp_all
theorem cnt_all {ls : List Int} {x : Int} (h : ∀ z ∈ ls, z < x) : cnt ls x = ls.length := by
  unfold cnt
  rw [List.filter_eq_self.2 (fun z hz => decide_eq_true (h z hz))]
theorem cnt_none {ls : List Int} {x : Int} (h : ∀ z ∈ ls, x ≤ z) : cnt ls x = 0 := by
  simp only [cnt, List.length_eq_zero_iff, List.filter_eq_nil_iff, decide_eq_true_eq]
  exact fun z hz => by have := h z hz; omega
theorem Cal.Ok.first_succ {c : Cal} (hc : c.Ok) (y : Int) : c.first (y + 1) = c.first y + c.ylen y := by
  have hcy := hc.cy1
  have hm1 := Int.emod_nonneg (y - 1) (show c.cy ≠ 0 by omega)
  have hm2 := Int.emod_lt_of_pos (y - 1) (show 0 < c.cy by omega)
  have hdm := Int.mul_ediv_add_emod (y - 1) c.cy
  have hs := cnt_succ ((y - 1) % c.cy + 1) hc.sorted
  unfold Cal.first Cal.ylen Cal.leap
  have hy : y + 1 - 1 = y := by omega
  rw [hy]
  generalize hr : (y - 1) % c.cy = r at *
  generalize hq : (y - 1) / c.cy = q at *
  by_cases h : r + 1 < c.cy
  · have e1 : y % c.cy = r + 1 := by
      rw [show y = (r + 1) + c.cy * q by omega, Int.add_mul_emod_self_left]; exact Int.emod_eq_of_lt (by omega) h
    have e2 : y / c.cy = q := by
      rw [show y = (r + 1) + c.cy * q by omega, Int.add_mul_ediv_left _ _ (by omega), Int.ediv_eq_zero_of_lt (by omega) h]; omega
    rw [e1, e2, hs]
    by_cases hx : r + 1 ∈ c.ls
    · simp only [hx, if_true, decide_true]
      generalize (cnt c.ls (r + 1) : Int) = n
      rw [show r + 1 - (n + 1) = r - n by omega, Int.mul_add, Int.mul_one]; omega
    · simp only [hx, if_false, decide_false, Bool.false_eq_true]
      generalize (cnt c.ls (r + 1) : Int) = n
      rw [show r + 1 - (n + 0) = (r - n) + 1 by omega, Int.mul_add, Int.mul_one, Int.add_zero]; omega
  · have h' : r + 1 = c.cy := by omega
    have e1 : y % c.cy = 0 := by
      rw [show y = c.cy * (q + 1) by rw [Int.mul_add]; omega]; exact Int.mul_emod_right _ _
    have e2 : y / c.cy = q + 1 := by
      rw [show y = c.cy * (q + 1) by rw [Int.mul_add]; omega]; exact Int.mul_ediv_cancel_left _ (by omega)
    have hall : cnt c.ls (r + 1 + 1) = c.ls.length := cnt_all (fun z hz => by have := (hc.within z hz).2; omega)
    have h0 : cnt c.ls (0 + 1) = 0 := cnt_none (fun z hz => by have := (hc.within z hz).1; omega)
    rw [e1, e2, h0]
    rw [hall] at hs
    unfold Cal.total
    simp only [Int.natCast_zero, Int.sub_zero, Int.mul_zero, Int.add_zero]
    by_cases hx : r + 1 ∈ c.ls
    · simp only [hx, if_true, decide_true] at hs ⊢
      generalize (cnt c.ls (r + 1) : Int) = n at hs
      rw [hs, ← h', show r + 1 - (n + 1) = r - n by omega]
      simp only [Int.add_mul, Int.mul_add, Int.mul_one, Int.one_mul]; omega
    · simp only [hx, if_false, decide_false, Bool.false_eq_true, Int.add_zero] at hs ⊢
      generalize (cnt c.ls (r + 1) : Int) = n at hs
      rw [hs, ← h', show r + 1 - n = (r - n) + 1 by omega]
      simp only [Int.add_mul, Int.mul_add, Int.mul_one, Int.one_mul]; omega
theorem Cal.Ok.ylen_nonneg {c : Cal} (hc : c.Ok) (y : Int) : 0 ≤ c.ylen y ∧ c.ylen y ≤ 8000 := by
  have := sums_le c.ms hc.mon
  have := hc.len2
  unfold Cal.ylen
  split <;> omega
theorem Cal.Ok.first_mono {c : Cal} (hc : c.Ok) {a b : Int} (h : a ≤ b) : c.first a ≤ c.first b := by
  obtain ⟨n, rfl⟩ : ∃ n : Nat, b = a + n := ⟨(b - a).toNat, by omega⟩
  clear h
  induction n with
  | zero => simp
  | succ n ih =>
    have := hc.first_succ (a + n)
    have := (hc.ylen_nonneg (a + n)).1
    rw [show a + ((n + 1 : Nat) : Int) = a + n + 1 by omega]
    omega
/-- The days of the first n months of a year. -/
def Cal.bef (c : Cal) (y : Int) : Nat → Int
  | 0 => 0
  | n + 1 => c.bef y n + c.mlen y (n + 1)
theorem Cal.bef_all (c : Cal) (y : Int) : c.bef y c.ms.length = c.ylen y := by
  have key : ∀ n, n ≤ c.ms.length → c.bef y n = if c.leap y then sumL (c.ms.take n) else sumS (c.ms.take n) := by
    intro n
    induction n with
    | zero => intro _; simp [Cal.bef, sumL, sumS]
    | succ n ih =>
      intro hn
      have hst := sum_take (l := c.ms) (i := n) (by omega)
      unfold Cal.bef
      rw [ih (by omega), hst.1, hst.2]
      unfold Cal.mlen
      rw [show ((n : Int) + 1 - 1).toNat = n by omega, List.getElem?_eq_getElem (by omega)]
      split <;> rfl
  have := key _ (Nat.le_refl _)
  rw [this]
  unfold Cal.ylen
  simp
theorem Cal.Ok.mlen_bounds {c : Cal} (hc : c.Ok) (y k : Int) : 0 ≤ c.mlen y k ∧ c.mlen y k ≤ 400 := by
  unfold Cal.mlen
  cases h : c.ms[(k - 1).toNat]? with
  | none => simp
  | some q =>
    have := hc.mon q (List.mem_of_getElem? h)
    simp only [Option.getD_some]
    split <;> omega
theorem Cal.Ok.bef_mono {c : Cal} (hc : c.Ok) (y : Int) {a b : Nat} (h : a ≤ b) : c.bef y a ≤ c.bef y b := by
  induction b with
  | zero => have : a = 0 := by omega
            subst this; exact Int.le_refl _
  | succ b ih =>
    by_cases e : a = b + 1
    · subst e; exact Int.le_refl _
    · have := ih (by omega)
      have := (hc.mlen_bounds y (b + 1)).1
      have e2 : c.bef y (b + 1) = c.bef y b + c.mlen y (b + 1) := rfl
      omega
theorem Cal.Ok.bef_bounds {c : Cal} (hc : c.Ok) (y : Int) (n : Nat) : 0 ≤ c.bef y n ∧ c.bef y n ≤ 400 * n := by
  induction n with
  | zero => simp [Cal.bef]
  | succ n ih =>
    have := hc.mlen_bounds y (n + 1)
    unfold Cal.bef
    omega
theorem Cal.Ok.first_bounds {c : Cal} (hc : c.Ok) {y : Int} (h1 : -20000 ≤ y) (h2 : y ≤ 20000) : -1000000000 ≤ c.first y ∧ c.first y ≤ 1000000000 := by
  have key : ∀ n : Nat, c.first 1 ≤ c.first (1 + n) ∧ c.first (1 + n) ≤ c.first 1 + 8000 * n ∧ c.first 1 - 8000 * n ≤ c.first (1 - n) := by
    intro n
    induction n with
    | zero => simp
    | succ n ih =>
      have a1 := hc.first_succ (1 + n)
      have a2 := hc.ylen_nonneg (1 + n)
      have a3 := hc.first_succ (1 - (n + 1 : Nat))
      have a4 := hc.ylen_nonneg (1 - (n + 1 : Nat))
      rw [show (1 : Int) - ((n + 1 : Nat) : Int) + 1 = 1 - n by omega] at a3
      rw [show (1 : Int) + ((n + 1 : Nat) : Int) = 1 + n + 1 by omega]
      omega
  have e1 : c.first 1 = c.ep := by
    have : cnt c.ls (0 + 1) = 0 := cnt_none (fun z hz => by have := (hc.within z hz).1; omega)
    have t2 : cnt c.ls 1 = 0 := this
    unfold Cal.first
    simp [t2]
  have := hc.ep1
  have := hc.ep2
  by_cases h : 1 ≤ y
  · have := key (y - 1).toNat
    rw [show (1 : Int) + ((y - 1).toNat : Int) = y by omega] at this
    omega
  · have := key (1 - y).toNat
    rw [show (1 : Int) - ((1 - y).toNat : Int) = y by omega] at this
    have := hc.first_mono (show y ≤ 1 by omega)
    omega
end Go.Proofs.YtkokongbnemkhaaGreatDoorA
