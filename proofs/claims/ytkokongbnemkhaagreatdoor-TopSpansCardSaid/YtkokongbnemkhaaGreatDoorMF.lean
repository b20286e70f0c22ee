/- Runs reckoned out by the kernel, with calls in regions that draw. -/
import Derived.Test.YtkokongbnemkhaaGreatDoorME
set_option linter.unusedVariables false
set_option linter.unusedSimpArgs false
namespace Go.Proofs.YtkokongbnemkhaaGreatDoorA
open Go Go.RowKit
def sameL (p : AV → AV → Bool) : List AV → List AV → Bool
  | [], [] => true
  | x :: xs, y :: ys => p x y && sameL p xs ys
  | _, _ => false
/-- The same value (told so only of some). -/
noncomputable def sameV : Nat → AV → AV → Bool
  | 0, _, _ => false
  | d + 1, a, b => match a, b with
    | .b x, .b y => x == y
    | .i k x, .i k' y => eqK k k' && beqI x y
    | .s x, .s y => beqS x y
    | .np, .np => true
    | .nf, .nf => true
    | .ni, .ni => true
    | .nils, .nils => true
    | .ptr i r c, .ptr i' r' c' => Nat.beq i i' && Nat.beq r r' && Nat.beq c c'
    | .osl i o n, .osl i' o' n' => Nat.beq i i' && Nat.beq o o' && Nat.beq n n'
    | .agg xs, .agg ys => sameL (sameV d) xs ys
    | _, _ => false
theorem sameL_eq {p : AV → AV → Bool} (hp : ∀ a b, p a b = true → a = b) : ∀ xs ys, sameL p xs ys = true → xs = ys
  | [], [], _ => rfl
  | x :: xs, y :: ys, h => by
    simp only [sameL, Bool.and_eq_true] at h
    rw [hp x y h.1, sameL_eq hp xs ys h.2]
  | [], _ :: _, h => by cases h
  | _ :: _, [], h => by cases h
theorem sameV_eq : ∀ (d : Nat) (a b : AV), sameV d a b = true → a = b
  | 0, a, b, h => by cases h
  | d + 1, a, b, h => by
    cases a <;> cases b <;> first
      | rfl
      | (exfalso; cases h; done)
      | skip
    case b.b x y => simp only [sameV, beq_iff_eq] at h; rw [h]
    case i.i k x k' y =>
      simp only [sameV, Bool.and_eq_true, eqK_eq, beqI_eq, decide_eq_true_eq, beq_iff_eq] at h
      rw [h.1, h.2]
    case s.s x y => simp only [sameV, beqS_eq, beq_iff_eq] at h; rw [h]
    case ptr.ptr i r c i' r' c' => simp only [sameV, Bool.and_eq_true, Nat.beq_eq] at h; rw [h.1.1, h.1.2, h.2]
    case osl.osl i r c i' r' c' => simp only [sameV, Bool.and_eq_true, Nat.beq_eq] at h; rw [h.1.1, h.1.2, h.2]
    case agg.agg xs ys => simp only [sameV] at h; rw [sameL_eq (sameV_eq d) xs ys h]
def wfL (n : Nat) : List (Nat × Ent) → Bool
  | [] => true
  | (i, _) :: r => !Nat.ble n i && wfL n r
theorem wfL_ok {n : Nat} : ∀ {c : List (Nat × Ent)}, wfL n c = true → ∀ id e, look c id = some e → id < n
  | [], h, id, e, q => by cases q
  | (i, x) :: r, h, id, e, q => by
    simp only [wfL, Bool.and_eq_true, Bool.not_eq_true'] at h
    by_cases hi : i = id
    · subst hi
      rcases Nat.lt_or_ge i n with k | k
      · exact k
      · rw [Nat.ble_eq_true_of_le k] at h; cases h.1
    · simp only [look, if_neg hi] at q
      exact wfL_ok h.2 id e q
/-- The loads ahead of the call that it does not wait for. -/
def freeU (ops : Array Oper) (c : Nat) : List Nat := (List.range c).filter fun i => match ops[i]?, ops[c]? with | some oi, some oc => loadB oi && !waitsB ops oc i | _, _ => false
noncomputable def chkN (E : Env) (ops : Array Oper) (U : List Nat) (S : St) (h' : Hp) : Bool := U.all fun u => match ops[u]? with
  | some o => (match o.dst with
    | some d => !Nat.ble S.N d && (match opA E { S with h := h' } o.op with | .val v _ => loadB o && sameV 5 v (getE S.t d) | _ => false)
    | none => false)
  | none => true
theorem chkN_ok {E : Env} {ops : Array Oper} {U : List Nat} {S : St} {h' : Hp} (h : chkN E ops U S h' = true) : Chk E ops U S h' := fun u hu o ho => by
  have := List.all_eq_true.1 h u hu
  rw [ho] at this
  simp only at this
  cases hd : o.dst with
  | none => rw [hd] at this; cases this
  | some d =>
    rw [hd] at this
    simp only [Bool.and_eq_true, Bool.not_eq_true'] at this
    obtain ⟨h1, h2⟩ := this
    refine ⟨d, rfl, ?_, ?_⟩
    · rcases Nat.lt_or_ge d S.N with k | k
      · exact k
      · rw [Nat.ble_eq_true_of_le k] at h1; cases h1
    · cases hop : opA E { S with h := h' } o.op with
      | val v g =>
        rw [hop] at h2
        simp only [Bool.and_eq_true] at h2
        have hv := sameV_eq 5 _ _ h2.2
        rw [getE_eq] at hv
        have hg : g = h' := by
          have hl := h2.1
          unfold loadB at hl
          simp only [Bool.and_eq_true] at hl
          cases ho : o.op with
          | load t a => rw [ho] at hop; exact (OR.of_val hop).2
          | _ => rw [ho] at hl; cases hl.2
        rw [hv, hg]
      | _ => rw [hop] at h2; cases h2
end Go.Proofs.YtkokongbnemkhaaGreatDoorA
