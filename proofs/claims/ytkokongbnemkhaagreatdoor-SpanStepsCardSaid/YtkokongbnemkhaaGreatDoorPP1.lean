/- Texts of numbers, and texts parted at a byte: plain laws. -/
import Derived.Test.YtkokongbnemkhaaGreatDoorPW3
import Derived.Lib.Split
import Derived.Lib.SplitLaws
import Derived.Lib.IndexBytes
import Derived.Lib.ItoaNum
import Derived.Lib.Atoi
set_option linter.unusedVariables false
set_option linter.unusedSimpArgs false
namespace Go.Proofs.YtkokongbnemkhaaGreatDoorA
open Go Go.Proofs
theorem ixb_no {c : UInt8} : ∀ {a : List UInt8}, c ∉ a → Lib.indexByte a c = -1
  | [], _ => rfl
  | b :: a, h => by
    have h1 : ¬ b = c := fun q => h (by rw [q]; exact List.mem_cons_self ..)
    have h2 := ixb_no (a := a) fun q => h (List.mem_cons_of_mem _ q)
    unfold Lib.indexByte
    rw [h2]
    simp [h1]
theorem ixb_at {c : UInt8} {b : List UInt8} : ∀ {a : List UInt8}, c ∉ a → Lib.indexByte (a ++ c :: b) c = a.length
  | [], _ => by unfold Lib.indexByte; simp
  | x :: a, h => by
    have h1 : ¬ x = c := fun q => h (by rw [q]; exact List.mem_cons_self ..)
    have h2 := ixb_at (b := b) (a := a) fun q => h (List.mem_cons_of_mem _ q)
    rw [List.cons_append]
    unfold Lib.indexByte
    rw [h2]
    have h3 : ¬ (a.length : Int) = -1 := by omega
    simp [h1, h3]
/-- Texts with a byte between. -/
def jl (c : UInt8) : List (List UInt8) → List UInt8
  | [] => []
  | [x] => x
  | x :: y :: r => x ++ c :: jl c (y :: r)
theorem count_jl {c : UInt8} : ∀ {L : List (List UInt8)}, (∀ x ∈ L, c ∉ x) → (jl c L).count c = L.length - 1
  | [], _ => rfl
  | [x], h => by
    have := h x (by simp)
    show x.count c = 0
    exact List.count_eq_zero.2 this
  | x :: y :: r, h => by
    have h1 := h x (by simp)
    have h2 := count_jl (L := y :: r) fun z hz => h z (List.mem_cons_of_mem _ hz)
    show (x ++ c :: jl c (y :: r)).count c = _
    rw [List.count_append, List.count_eq_zero.2 h1, List.count_cons_self, h2]
    simp
theorem splitK_jl {c : UInt8} : ∀ {L : List (List UInt8)}, L ≠ [] → (∀ x ∈ L, c ∉ x) → Lib.splitK [c] 0 (L.length - 1) (jl c L) = L
  | [], h, _ => absurd rfl h
  | [x], _, _ => rfl
  | x :: y :: r, _, h => by
    have h1 := h x (by simp)
    have h2 := splitK_jl (L := y :: r) (by simp) fun z hz => h z (List.mem_cons_of_mem _ hz)
    have e : Lib.index (x ++ c :: jl c (y :: r)) [c] = x.length := by rw [Lib.index_one]; exact ixb_at h1
    show Lib.splitK [c] 0 ((y :: r).length - 1 + 1) (x ++ c :: jl c (y :: r)) = _
    unfold Lib.splitK
    rw [e]
    have h3 : ¬ (x.length : Int) = -1 := by omega
    rw [if_neg (by simp [h3])]
    rw [show ((x.length : Int).toNat + 0) = x.length by omega, List.take_left' rfl]
    have e2 : (x ++ c :: jl c (y :: r)).drop ((x.length : Int).toNat + [c].length) = jl c (y :: r) := by
      rw [show (x.length : Int).toNat + [c].length = x.length + 1 by simp]
      rw [show x ++ c :: jl c (y :: r) = (x ++ [c]) ++ jl c (y :: r) by simp]
      exact List.drop_left' (by simp)
    rw [e2, h2]
theorem split_jl {c : UInt8} {L : List (List UInt8)} (hL : L ≠ []) (h : ∀ x ∈ L, c ∉ x) : Lib.split (jl c L) [c] = L := by
  unfold Lib.split
  rw [Lib.count_one, count_jl h]
  exact splitK_jl hL h
/-- A digit. -/
def isDg (b : UInt8) : Prop := 48 ≤ b.toNat ∧ b.toNat ≤ 57
theorem dg_ofNat {u : Nat} (h : u < 10) : (UInt8.ofNat (48 + u)).toNat = 48 + u := by
  rw [UInt8.toNat_ofNat']; omega
theorem decDigits_dg (u : Nat) : ∀ b ∈ Lib.decDigits u, isDg b := by
  induction u using Nat.strongRecOn with
  | ind u ih =>
    intro b hb
    rw [Lib.decDigits] at hb
    split at hb
    · rename_i h
      have : b = UInt8.ofNat (48 + u) := by simpa using hb
      subst this; unfold isDg; rw [dg_ofNat h]; omega
    · rename_i h
      rcases List.mem_append.1 hb with q | q
      · exact ih (u / 10) (by omega) b q
      · have : b = UInt8.ofNat (48 + u % 10) := by simpa using q
        subst this; unfold isDg; rw [dg_ofNat (by omega)]; omega
theorem decDigits_ne (u : Nat) : Lib.decDigits u ≠ [] := by
  rw [Lib.decDigits]; split <;> simp
theorem decFrom_snoc : ∀ (l : List UInt8) (acc : Nat) (b : UInt8), Lib.decFrom acc (l ++ [b]) = (Lib.decFrom acc l).bind fun n => (Lib.digitVal b).map fun d => n * 10 + d
  | [], acc, b => by
    show Lib.decFrom acc [b] = _
    unfold Lib.decFrom
    cases hd : Lib.digitVal b with
    | none => rfl
    | some d => rfl
  | x :: l, acc, b => by
    rw [List.cons_append]
    unfold Lib.decFrom
    cases hd : Lib.digitVal x with
    | none => rfl
    | some d => exact decFrom_snoc l _ b
theorem digitVal_of {u : Nat} (h : u < 10) : Lib.digitVal (UInt8.ofNat (48 + u)) = some u := by
  unfold Lib.digitVal
  rw [dg_ofNat h, if_pos (by omega)]
  congr 1; omega
theorem decFrom_dec (u : Nat) : Lib.decFrom 0 (Lib.decDigits u) = some u := by
  induction u using Nat.strongRecOn with
  | ind u ih =>
    rw [Lib.decDigits]
    split
    · rename_i h
      unfold Lib.decFrom
      rw [digitVal_of h]
      show some _ = _
      congr 1; omega
    · rename_i h
      rw [decFrom_snoc, ih (u / 10) (by omega), digitVal_of (by omega)]
      show some (u / 10 * 10 + u % 10) = _
      congr 1; omega
theorem decNat_dec (u : Nat) : Lib.decNat (Lib.decDigits u) = some u := by
  unfold Lib.decNat
  have := decDigits_ne u
  rw [if_neg (by simpa using this)]
  exact decFrom_dec u
theorem decDigits_le : ∀ (k u : Nat), u < 10 ^ (k + 1) → (Lib.decDigits u).length ≤ k + 1
  | 0, u, h => by rw [Lib.decDigits, dif_pos (by omega)]; simp
  | k + 1, u, h => by
    rw [Lib.decDigits]
    split
    · simp
    · have h2 : u / 10 < 10 ^ (k + 1) := by rw [Nat.pow_succ] at h; omega
      have := decDigits_le k (u / 10) h2
      simp; omega
theorem atoi_itoa (n : Int) : Lib.atoi (Lib.itoa n) = some n := by
  unfold Lib.itoa
  split
  · rename_i h
    unfold Lib.atoi
    simp only
    rw [if_pos (by decide), decNat_dec]
    show some (-((n.natAbs : Nat) : Int)) = _
    congr 1; omega
  · rename_i h
    have hd := decDigits_dg n.toNat
    have he := decNat_dec n.toNat
    have hne := decDigits_ne n.toNat
    generalize Lib.decDigits n.toNat = l at *
    cases l with
    | nil => exact absurd rfl hne
    | cons b r =>
      have hb := hd b (by simp)
      unfold Lib.atoi
      have h1 : ¬ (b == 45) = true := fun q => by have := beq_iff_eq.1 q; subst this; exact absurd hb.1 (by decide)
      have h2 : ¬ (b == 43) = true := fun q => by have := beq_iff_eq.1 q; subst this; exact absurd hb.1 (by decide)
      simp only
      rw [if_neg h1, if_neg h2, he]
      show some ((n.toNat : Nat) : Int) = _
      congr 1; omega
/-- A number's text: digits, maybe behind a sign. -/
theorem itoa_form (n : Int) : ∃ a D, Lib.itoa n = a ++ D ∧ D ≠ [] ∧ (∀ b ∈ D, isDg b) ∧ (a = [] ∨ a = [45]) := by
  unfold Lib.itoa
  split
  · exact ⟨[45], _, rfl, decDigits_ne _, decDigits_dg _, .inr rfl⟩
  · exact ⟨[], _, rfl, decDigits_ne _, decDigits_dg _, .inl rfl⟩
theorem itoa_len {n : Int} {k : Nat} (h : n.natAbs < 10 ^ (k + 1)) : (Lib.itoa n).length ≤ k + 2 := by
  unfold Lib.itoa
  split
  · have := decDigits_le k n.natAbs h; simp; omega
  · have := decDigits_le k n.toNat (by omega); omega
end Go.Proofs.YtkokongbnemkhaaGreatDoorA
