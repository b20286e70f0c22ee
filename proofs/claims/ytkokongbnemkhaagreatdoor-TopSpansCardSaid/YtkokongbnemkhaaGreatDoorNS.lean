/- Later of any day; durations: plain laws. -/
import Derived.Test.YtkokongbnemkhaaGreatDoorPW22
import Derived.Test.YtkokongbnemkhaaGreatDoorNA
set_option linter.unusedVariables false
set_option linter.unusedSimpArgs false
namespace Go.Proofs.YtkokongbnemkhaaGreatDoorA
open Go Go.RowKit Go.Proofs.YtkokongbnemkhaaGreatDoorFx Go.Proofs
variable {m : Int} {c : Cal}
set_option maxRecDepth 100000 in
theorem later_far (hc : c.Good m) {day Y Mo : Int} (hf : MeetsP Tryz.prog (glT m) 27 [c.A, .i .i64 day] (resD (dateA 0 0 0) 3)) : MeetsP Tryz.prog (glT m) 59 [c.A, .i .i64 day, .i .i64 Y, .i .i64 Mo] (resD (.i .i64 0) 3) := by
  obtain ⟨y1, y2, y3, y4, y5, hy, ⟨o1, o2, o3, o4, o5⟩, n1, n2⟩ := c.A_parts
  rw [hy] at hf ⊢
  unfold resD dateA at *
  refine meetsP (E := (EW m)) 108 [.tmp 8, .tmp 9] (ew m) Tryz.func59 rfl (by decide) rfl rfl (by simp) ?_
  repeat' first
    | ((with_reducible refine wr_isCall ?_); refine wr_P hf (n2 _) ?_)
    | (with_reducible refine t_seq ?_)
    | (with_reducible refine t_skip ?_)
    | (with_reducible refine t_ret ?_)
    | (with_reducible refine t_end ?_)
    | (with_reducible refine t_cond ?_)
    | (with_reducible refine t_region ?_)
    | (with_reducible refine wr_done ?_)
    | ((with_reducible refine t_isDraw ?_); refine t_draw rfl (by kernel_rfl) ?_)
    | (with_reducible refine WD.done _ ?_)
    | (with_reducible refine wdp_done ?_)
    | (with_reducible refine tr_some ?_)
    | ((fail_if_success with_reducible refine t_bl ?_); (with_reducible refine t_block ?_))
    | (with_reducible refine t_inBlock ?_)
    | ((with_reducible refine t_isExit ?_); refine t_exit rfl ?_)
    | simp only [decide_eq_true_eq, decide_eq_false_iff_not, Bool.not_eq_true', Bool.not_eq_false'] at *
    | simp (disch := omega) only [go_sem, Nat.reduceLT, Nat.reduceEqDiff, Nat.reduceAdd, Nat.reduceLeDiff, Nat.reduceMul, Int.reduceLT, Int.reduceLE, Int.reduceAdd, Int.reduceSub, Int.reduceNeg, Int.reduceToNat, Int.reduceBEq, Int.reduceEq, reduceCtorEq, List.take_succ_cons, List.take_zero, List.take_nil, List.drop_succ_cons, List.drop_nil, List.cons_append, List.nil_append, List.set_cons_zero, List.set_cons_succ, ↓reduceIte, *]
    | (with_reducible refine tb_true ?_)
    | (with_reducible refine tb_false ?_)
    | (with_reducible refine tb_split (fun _ => ?_) (fun _ => ?_))
    | (with_reducible refine wg_f (fun _ => ?_) (fun _ => ?_))
    | (with_reducible refine wg_t (fun _ => ?_) (fun _ => ?_))
    | (with_reducible refine wd_f (fun _ => ?_) (fun _ => ?_))
    | (with_reducible refine wd_t (fun _ => ?_) (fun _ => ?_))
  exact ⟨rfl, rfl⟩
/-- The place at which a month begins. -/
def Cal.posM (c : Cal) (p : Int × Nat) : Int := c.first p.1 + c.bef p.1 (p.2 - 1)
theorem Cal.posM_turn (hc : c.Ok) {p : Int × Nat} (h1 : 1 ≤ p.2) (h2 : p.2 ≤ c.ms.length) : c.posM p + c.mlen p.1 p.2 ≤ c.posM (c.turn p) := by
  obtain ⟨y, k⟩ := p
  simp only at h1 h2
  have e1 : c.bef y k = c.bef y (k - 1) + c.mlen y k := by
    cases k with
    | zero => omega
    | succ j => rfl
  unfold Cal.posM Cal.turn
  split
  · rename_i h
    simp only at h ⊢
    rw [show k + 1 - 1 = k by omega]
    omega
  · rename_i h
    simp only at h ⊢
    have hk : k = c.ms.length := by omega
    have a5 := hc.first_succ y
    have a9 := c.bef_all y
    rw [← hk] at a9
    have e0 : c.bef (y + 1) (1 - 1) = 0 := rfl
    omega
theorem Cal.posM_skip (hc : c.Ok) (hl : 1 ≤ c.ms.length) : ∀ (p : Int × Nat), 1 ≤ p.2 → p.2 ≤ c.ms.length → c.posM p ≤ c.posM (c.skip p) := by
  intro p
  induction p using Cal.skip.induct (c := c) with
  | case1 p h => intro h1 h2; rw [Cal.skip_stop h]; exact Int.le_refl _
  | case2 p h ih =>
    intro h1 h2
    simp only [not_or, Bool.not_eq_true, ne_eq, Decidable.not_not] at h
    rw [Cal.skip_go h.1 h.2]
    have ht := Cal.turn_ok (c := c) (p := p) hl
    have i1 := ih ht.1 (ht.2 h2)
    have i2 := Cal.posM_turn hc h1 h2
    have i3 := (hc.mlen_bounds p.1 p.2).1
    omega
theorem Cal.posM_step (hc : c.Ok) (hl : 1 ≤ c.ms.length) {p : Int × Nat} (h1 : 1 ≤ p.2) (h2 : p.2 ≤ c.ms.length) : c.posM p ≤ c.posM (c.stepM p) ∧ (badY p.1 = false → c.posM p + c.mlen p.1 p.2 ≤ c.posM (c.stepM p)) := by
  have i3 := (hc.mlen_bounds p.1 p.2).1
  unfold Cal.stepM
  split
  · rename_i h; exact ⟨Int.le_refl _, fun q => by rw [h] at q; cases q⟩
  · have ht := Cal.turn_ok (c := c) (p := p) hl
    have i1 := Cal.posM_turn hc h1 h2
    have i2 := Cal.posM_skip hc hl _ ht.1 (ht.2 h2)
    exact ⟨by omega, fun _ => by omega⟩
theorem Cal.posM_walk (hc : c.Ok) (hl : 1 ≤ c.ms.length) {p : Int × Nat} (h1 : 1 ≤ p.2) (h2 : p.2 ≤ c.ms.length) (hb : badY p.1 = false) (h3 : c.mlen p.1 p.2 ≠ 0) : ∀ n, c.posM p + c.mlen p.1 p.2 ≤ c.posM (c.walkM p (n + 1))
  | 0 => (Cal.posM_step hc hl h1 h2).2 hb
  | n + 1 => by
    have hw := Cal.walkM_ok (c := c) hl h1 h2 (.inr h3) (n + 1)
    have h := (Cal.posM_step hc hl hw.1 hw.2.1).1
    have h' := Cal.posM_walk hc hl h1 h2 hb h3 n
    show _ ≤ c.posM (c.stepM (c.walkM p (n + 1)))
    omega
/-- What Later answers: nothing, or a day that is not ahead of the year. -/
theorem later_any (hc : c.Good m) (day : Int) {Y Mo : Int} (hY : 0 ≤ Y ∧ Y ≤ 10000) (hMo : 0 ≤ Mo ∧ Mo ≤ 10000) : ∃ n e, MeetsP Tryz.prog (glT m) 59 [c.A, .i .i64 day, .i .i64 Y, .i .i64 Mo] (resD (.i .i64 n) e) ∧ (e = 0 ∨ e = 3) ∧ (e = 0 → chkDay n = 0) ∧
    (∀ y (mo : Nat), c.At day y mo → e = 0 → c.first (y + Y) ≤ n) ∧ (∀ y (mo : Nat), c.At day y mo → e = 0 → Y = 0 → 1 ≤ Mo → c.first y + c.bef y (mo + 1) ≤ n) := by
  rcases fromDay_all hc day with hf | ⟨y, mo, hat⟩
  · refine ⟨0, 3, later_far hc hf, .inr rfl, (fun e => by cases e), (fun _ _ _ e => by cases e), (fun _ _ _ e => by cases e)⟩
  · have h := laterP hc hat hY hMo
    have hmo := hat.hmo
    have hend := Cal.skip_end (c := c) hc.len1 (y + Y, mo + 1) (by simp only; omega) (by simp only; omega)
    have hwalk := Cal.walkM_ok (c := c) hc.len1 (p := c.skip (y + Y, mo + 1)) hend.1.1 hend.1.2.1 hend.2 Mo.toNat
    have hps : Y = 0 → 1 ≤ Mo → c.first y + c.bef y (mo + 1) ≤ c.posM (c.walkM (c.skip (y + Y, mo + 1)) Mo.toNat) := fun h0 h1 => by
      subst h0
      have r1 := hat.r1
      have r2 := hat.r2
      have e2 : c.bef y (mo + 1) = c.bef y mo + c.mlen y (mo + 1) := rfl
      have hz : c.mlen y (mo + 1) ≠ 0 := by omega
      have hbd : badY y = false := badY_f.2 ⟨hat.y1, hat.y2⟩
      rw [Int.add_zero, Cal.skip_stop (.inr hz)]
      obtain ⟨k, hk⟩ : ∃ k, Mo.toNat = k + 1 := ⟨Mo.toNat - 1, by omega⟩
      rw [hk]
      have h := Cal.posM_walk hc.toOk hc.len1 (p := (y, mo + 1)) (by simp only; omega) (by simp only; omega) hbd hz k
      have e3 : c.posM (y, mo + 1) = c.first y + c.bef y mo := rfl
      simp only at h
      have e4 : c.mlen y ((mo + 1 : Nat) : Int) = c.mlen y ((mo : Int) + 1) := rfl
      omega
    have hyu2 : ∀ y' (mo' : Nat), c.At day y' mo' → y' = y → mo' = mo := fun y' mo' h' e => by
      subst e
      have a := hat.r1; have b := hat.r2; have a' := h'.r1; have b' := h'.r2
      rcases Nat.lt_trichotomy mo' mo with q | q | q
      · have := hc.toOk.bef_mono y' (show mo' + 1 ≤ mo from q); omega
      · exact q
      · have := hc.toOk.bef_mono y' (show mo + 1 ≤ mo' from q); omega
    have hd1 : 1 ≤ day - c.first y + 1 - c.bef y mo := by have := hat.r1; omega
    have hle := hend.1.2.2.1
    have hyu : ∀ y' (mo' : Nat), c.At day y' mo' → y' = y := fun y' mo' h' => by
      have a := hat.a; have b := hat.b; have a' := h'.a; have b' := h'.b
      rcases Int.lt_trichotomy y' y with q | q | q
      · have := hc.toOk.first_mono (show y' + 1 ≤ y from q); omega
      · exact q
      · have := hc.toOk.first_mono (show y + 1 ≤ y' from q); omega
    generalize day - c.first y + 1 - c.bef y mo = d at *
    generalize c.walkM (c.skip (y + Y, mo + 1)) Mo.toNat = p at *
    obtain ⟨w1, w2, w3, w4, w5⟩ := hwalk
    simp only at hle
    unfold Cal.laterR at h
    split at h
    · exact ⟨0, 3, h, .inr rfl, (fun e => by cases e), (fun _ _ _ e => by cases e), (fun _ _ _ e => by cases e)⟩
    rename_i hb
    split at h
    · rename_i hch
      refine ⟨_, 0, h, .inl rfl, fun _ => hch, fun y' mo' h' _ => ?_, fun y' mo' h' _ h0 h1 => ?_⟩
      rotate_left
      · have q1 := hyu y' mo' h'
        rw [hyu2 y' mo' h' q1, q1]
        have h2 := hps h0 h1
        have h3 := (hc.toOk.mlen_bounds p.1 p.2).1
        have h4 := w5.resolve_left hb
        unfold Cal.posM at h2
        omega
      rw [hyu y' mo' h']
      have h1 := hc.toOk.first_mono (show y + Y ≤ p.1 by omega)
      have h2 := (hc.toOk.bef_bounds p.1 (p.2 - 1)).1
      have h3 := (hc.toOk.mlen_bounds p.1 p.2).1
      have h4 := w5.resolve_left hb
      omega
    · exact ⟨0, 3, h, .inr rfl, (fun e => by cases e), (fun _ _ _ e => by cases e), (fun _ _ _ e => by cases e)⟩
end Go.Proofs.YtkokongbnemkhaaGreatDoorA
/- Durations: what Between looks for. -/
set_option linter.unusedVariables false
set_option linter.unusedSimpArgs false
namespace Go.Proofs.YtkokongbnemkhaaGreatDoorA
open Go Go.RowKit Go.Proofs
variable {m : Int} {c : Cal}
/-- Days of a day moved by years and months. -/
structure Moved (m : Int) (c : Cal) (q : Int) (N E : Nat → Nat → Int) : Prop where
  zero : N 0 0 = q ∧ E 0 0 = 0
  run : ∀ (Y M : Nat), Y ≤ 10000 → M ≤ 10000 → (Y ≠ 0 ∨ M ≠ 0) → MeetsP Tryz.prog (glT m) 59 [c.A, .i .i64 q, .i .i64 Y, .i .i64 M] (resD (.i .i64 (N Y M)) (E Y M))
  err : ∀ Y M, E Y M = 0 ∨ E Y M = 3
  far : ∀ Y M, E Y M = 0 → chkDay (N Y M) = 0
  late : ∀ (Y M : Nat), Y ≤ 10000 → M ≤ 10000 → (Y ≠ 0 ∨ M ≠ 0) → ∀ y (mo : Nat), c.At q y mo → E Y M = 0 → c.first (y + Y) ≤ N Y M
  mon : ∀ (M : Nat), M ≤ 10000 → M ≠ 0 → ∀ y (mo : Nat), c.At q y mo → E 0 M = 0 → c.first y + c.bef y (mo + 1) ≤ N 0 M
theorem moved (hc : c.Good m) {q : Int} (hq : chkDay q = 0) : ∃ N E, Moved m c q N E := by
  have key : ∀ Y : Nat, ∃ p : Nat → Int × Int, ∀ M : Nat, (Y = 0 ∧ M = 0 → p M = (q, 0)) ∧ (Y ≤ 10000 → M ≤ 10000 → (Y ≠ 0 ∨ M ≠ 0) → MeetsP Tryz.prog (glT m) 59 [c.A, .i .i64 q, .i .i64 Y, .i .i64 M] (resD (.i .i64 (p M).1) (p M).2)) ∧ ((p M).2 = 0 ∨ (p M).2 = 3) ∧ ((p M).2 = 0 → chkDay (p M).1 = 0) ∧
      (Y ≤ 10000 → M ≤ 10000 → (Y ≠ 0 ∨ M ≠ 0) → ∀ y (mo : Nat), c.At q y mo → (p M).2 = 0 → c.first (y + Y) ≤ (p M).1) ∧ (Y = 0 → M ≤ 10000 → M ≠ 0 → ∀ y (mo : Nat), c.At q y mo → (p M).2 = 0 → c.first y + c.bef y (mo + 1) ≤ (p M).1) := fun Y => by
    refine Classical.axiomOfChoice (r := fun (M : Nat) (p : Int × Int) => (Y = 0 ∧ M = 0 → p = (q, 0)) ∧ (Y ≤ 10000 → M ≤ 10000 → (Y ≠ 0 ∨ M ≠ 0) → MeetsP Tryz.prog (glT m) 59 [c.A, .i .i64 q, .i .i64 Y, .i .i64 M] (resD (.i .i64 p.1) p.2)) ∧ (p.2 = 0 ∨ p.2 = 3) ∧ (p.2 = 0 → chkDay p.1 = 0) ∧
      (Y ≤ 10000 → M ≤ 10000 → (Y ≠ 0 ∨ M ≠ 0) → ∀ y (mo : Nat), c.At q y mo → p.2 = 0 → c.first (y + Y) ≤ p.1) ∧ (Y = 0 → M ≤ 10000 → M ≠ 0 → ∀ y (mo : Nat), c.At q y mo → p.2 = 0 → c.first y + c.bef y (mo + 1) ≤ p.1)) fun M => ?_
    by_cases h0 : Y = 0 ∧ M = 0
    · exact ⟨(q, 0), fun _ => rfl, fun _ _ h => by omega, .inl rfl, fun _ => hq, (fun _ _ h => by omega), fun _ _ h => by omega⟩
    by_cases hb : Y ≤ 10000 ∧ M ≤ 10000
    · obtain ⟨n, e, h1, h2, h3, h4, h5⟩ := later_any hc q (Y := Y) (Mo := M) (by omega) (by omega)
      exact ⟨(n, e), fun q => absurd q h0, fun _ _ _ => h1, h2, h3, (fun _ _ _ y mo hat he => h4 y mo hat he), fun e0 _ hM y mo hat he => h5 y mo hat he (by omega) (by omega)⟩
    · exact ⟨(0, 3), fun q => absurd q h0, fun h1 h2 => absurd ⟨h1, h2⟩ hb, .inr rfl, (fun e => by cases e), (fun h1 h2 => absurd ⟨h1, h2⟩ hb), fun h1 h2 => absurd ⟨by omega, h2⟩ hb⟩
  obtain ⟨p, hp⟩ := Classical.axiomOfChoice key
  refine ⟨fun Y M => (p Y M).1, fun Y M => (p Y M).2, ?_, fun Y M => (hp Y M).2.1, fun Y M => (hp Y M).2.2.1, fun Y M => (hp Y M).2.2.2.1, fun Y M => (hp Y M).2.2.2.2.1, fun M => (hp 0 M).2.2.2.2.2 rfl⟩
  have := (hp 0 0).1 ⟨rfl, rfl⟩
  simp [this]
/-- What span.add answers. -/
def spR (N E : Nat → Nat → Int) (r : Int) (Y M : Nat) (D Ms : Int) : AV :=
  if E Y M ≠ 0 then resD (.i .i64 0) (E Y M) else if chkDay (N Y M + D) ≠ 0 then resD (.i .i64 0) 3 else
    if chkDay (((N Y M + D) * 86400000 + r + Ms) / 86400000) ≠ 0 then resD (.i .i64 0) 3 else resD (.i .i64 ((N Y M + D) * 86400000 + r + Ms)) 0
def fitS (N E : Nat → Nat → Int) (r b : Int) (Y M : Nat) : Bool := decide (E Y M = 0) && decide (N Y M * 86400000 + r ≤ b)
theorem spR_fit {q r : Int} {N E : Nat → Nat → Int} (h : Moved m c q N E) (h0 : 0 ≤ r) (h1 : r < 86400000) (Y M : Nat) :
    (E Y M = 0 ∧ spR N E r Y M 0 0 = resD (.i .i64 (N Y M * 86400000 + r)) 0) ∨ (E Y M = 3 ∧ spR N E r Y M 0 0 = resD (.i .i64 0) 3) := by
  unfold spR
  rcases h.err Y M with e | e
  · left
    have hf := h.far Y M e
    have ed : ((N Y M + 0) * 86400000 + r + 0) / 86400000 = N Y M := by omega
    rw [if_neg (by simp [e]), ed, Int.add_zero, Int.add_zero, if_neg (by simp [hf]), if_neg (by simp [hf])]
    exact ⟨e, rfl⟩
  · right
    rw [if_pos (by rw [e]; decide), e]
    exact ⟨rfl, rfl⟩
/-- The greatest number up to n that fits, or 0. -/
def downY (fit : Nat → Bool) : Nat → Nat
  | 0 => 0
  | n + 1 => if fit (n + 1) = true then n + 1 else downY fit n
theorem downY_spec (fit : Nat → Bool) : ∀ n, (downY fit n = 0 ∨ fit (downY fit n) = true) ∧ downY fit n ≤ n ∧ ∀ k, downY fit n < k → k ≤ n → fit k = false
  | 0 => ⟨.inl rfl, Nat.le_refl _, fun k h1 h2 => by simp only [downY] at h1; omega⟩
  | n + 1 => by
    obtain ⟨h1, h2, h3⟩ := downY_spec fit n
    unfold downY
    split
    · rename_i h; exact ⟨.inr h, Nat.le_refl _, fun k a b => by omega⟩
    · rename_i h
      refine ⟨h1, by omega, fun k a b => ?_⟩
      rcases Nat.lt_or_ge k (n + 1) with q | q
      · exact h3 k a (by omega)
      · have : k = n + 1 := by omega
        subst this; simpa using h
/-- Steps of powers of two. -/
def upM (fit : Nat → Bool) : Nat → Nat → Nat
  | 0, M => M
  | p + 1, M => upM fit p (if M + 2 ^ p ≤ 10000 ∧ fit (M + 2 ^ p) = true then M + 2 ^ p else M)
theorem upM_spec (fit : Nat → Bool) : ∀ p M, M ≤ 10000 → fit M = true → upM fit p M ≤ 10000 ∧ fit (upM fit p M) = true
  | 0, M, h1, h2 => ⟨h1, h2⟩
  | p + 1, M, h1, h2 => by
    unfold upM
    split
    · rename_i h; exact upM_spec fit p _ h.1 h.2
    · exact upM_spec fit p _ h1 h2
end Go.Proofs.YtkokongbnemkhaaGreatDoorA
