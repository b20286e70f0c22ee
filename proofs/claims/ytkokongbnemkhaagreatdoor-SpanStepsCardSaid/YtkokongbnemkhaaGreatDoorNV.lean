/- span.Read of what span.Text writes. -/
import Derived.Test.YtkokongbnemkhaaGreatDoorPW48
import Derived.Test.YtkokongbnemkhaaGreatDoorNA
import Derived.Test.YtkokongbnemkhaaGreatDoorPW15
import Derived.Test.YtkokongbnemkhaaGreatDoorNO
set_option linter.unusedVariables false
set_option linter.unusedSimpArgs false
namespace Go.Proofs.YtkokongbnemkhaaGreatDoorA
open Go Go.RowKit Go.Proofs.YtkokongbnemkhaaGreatDoorFx Go.Proofs
variable {m : Int}
/-- The first words of a duration, as numbers and units. -/
def durP (v : Nat → Int) : Nat → List (Int × Nat)
  | 0 => []
  | i + 1 => durP v i ++ (if v i = 0 then [] else [(v i, i)])
def wordP (p : Int × Nat) : List UInt8 := Lib.itoa p.1 ++ unitS p.2
theorem durL_P (v : Nat → Int) : ∀ i, durL v i = (durP v i).map wordP
  | 0 => rfl
  | i + 1 => by
    unfold durL durP
    rw [durL_P v i, List.map_append]
    split <;> rfl
def durQ (v : Nat → Int) : List (Int × Nat) := if durP v 4 = [] then [(0, 2)] else durP v 4
theorem durT_Q (v : Nat → Int) : durT v = jl 32 ((durQ v).map wordP) := by
  unfold durT durQ
  rw [durL_P]
  by_cases h : durP v 4 = []
  · rw [h]; simp [jl, wordP, unitS]; decide +kernel
  · rw [if_neg (by simpa using h), if_neg h]
/-- The fields after some words. -/
def fdAt (P : List (Int × Nat)) : Nat → Nat → Int
  | 0 => fun _ => 0
  | j + 1 => fun k => if k = (P.getD j (0, 0)).2 then (P.getD j (0, 0)).1 else fdAt P j k
theorem fdAt_app (P Q : List (Int × Nat)) : ∀ j, j ≤ P.length → fdAt (P ++ Q) j = fdAt P j
  | 0, _ => rfl
  | j + 1, h => by
    have e : (P ++ Q).getD j (0, 0) = P.getD j (0, 0) := by
      rw [List.getD_eq_getElem?_getD, List.getD_eq_getElem?_getD, List.getElem?_append_left (by omega)]
    unfold fdAt
    rw [fdAt_app P Q j (by omega), e]
theorem fdAt_P (v : Nat → Int) : ∀ i k, fdAt (durP v i) (durP v i).length k = if k < i then v k else 0
  | 0, k => by simp [durP, fdAt]
  | i + 1, k => by
    have ih := fdAt_P v i k
    unfold durP
    by_cases hz : v i = 0
    · rw [if_pos hz, List.append_nil, ih]
      by_cases h1 : k < i
      · rw [if_pos h1, if_pos (by omega)]
      · rw [if_neg h1]
        by_cases h2 : k = i
        · subst h2; rw [if_pos (by omega), hz]
        · rw [if_neg (by omega)]
    · rw [if_neg hz, List.length_append]
      show fdAt _ ((durP v i).length + 1) k = _
      have e : (durP v i ++ [(v i, i)]).getD (durP v i).length (0, 0) = (v i, i) := by
        rw [List.getD_eq_getElem?_getD, List.getElem?_append_right (Nat.le_refl _), Nat.sub_self]; rfl
      unfold fdAt
      simp only [e]
      rw [fdAt_app _ _ _ (Nat.le_refl _), ih]
      by_cases h2 : k = i
      · subst h2; rw [if_pos rfl, if_pos (by omega)]
      · rw [if_neg h2]
        by_cases h1 : k < i
        · rw [if_pos h1, if_pos (by omega)]
        · rw [if_neg h1, if_neg (by omega)]
theorem fdAt_Q (v : Nat → Int) (k : Nat) (hk : k < 4) : fdAt (durQ v) (durQ v).length k = v k := by
  have h := fdAt_P v 4 k
  unfold durQ
  rw [if_pos hk] at h
  split
  · rename_i h0
    rw [h0] at h
    have h' : (0 : Int) = v k := h
    show (if k = 2 then (0 : Int) else 0) = v k
    rw [← h']; split <;> rfl
  · exact h
theorem durP_mem {v : Nat → Int} : ∀ {i : Nat} {p : Int × Nat}, p ∈ durP v i → p.2 < i ∧ p.1 = v p.2
  | 0, p, h => by cases h
  | i + 1, p, h => by
    unfold durP at h
    rcases List.mem_append.1 h with q | q
    · have := durP_mem q; exact ⟨by omega, this.2⟩
    · split at q
      · cases q
      · have : p = (v i, i) := by simpa using q
        subst this; exact ⟨Nat.lt_succ_self _, rfl⟩
theorem durQ_mem {v : Nat → Int} (hv : ∀ i, (v i).natAbs < 10 ^ 16) {p : Int × Nat} (h : p ∈ durQ v) : p.2 < 4 ∧ p.1.natAbs < 10 ^ 16 := by
  unfold durQ at h
  split at h
  · have : p = (0, 2) := by simpa using h
    subst this; exact ⟨by decide, by decide⟩
  · have := durP_mem h
    exact ⟨this.1, by rw [this.2]; exact hv _⟩
theorem durP_len (v : Nat → Int) : ∀ i, (durP v i).length ≤ i
  | 0 => Nat.le_refl _
  | i + 1 => by
    have := durP_len v i
    unfold durP
    split <;> simp <;> omega
theorem durQ_len (v : Nat → Int) : 1 ≤ (durQ v).length ∧ (durQ v).length ≤ 4 := by
  unfold durQ
  split
  · simp
  · rename_i h
    have h1 := durP_len v 4
    have h2 := List.length_pos_iff.2 h
    omega
theorem word_no32 {p : Int × Nat} : (32 : UInt8) ∉ wordP p := fun h => by
  unfold wordP at h
  rcases List.mem_append.1 h with q | q
  · obtain ⟨a, D, e, _, hd, ha⟩ := itoa_form p.1
    rw [e] at q
    rcases List.mem_append.1 q with q | q
    · rcases ha with rfl | rfl
      · cases q
      · revert q; decide
    · exact absurd (hd _ q).1 (by decide)
  · unfold unitS at q
    revert q
    split <;> decide
end Go.Proofs.YtkokongbnemkhaaGreatDoorA
/- span.Read of what span.Text writes. -/
set_option linter.unusedVariables false
set_option linter.unusedSimpArgs false
namespace Go.Proofs.YtkokongbnemkhaaGreatDoorA
open Go Go.RowKit Go.Proofs.YtkokongbnemkhaaGreatDoorFx Go.Proofs
variable {m : Int}
theorem word_dig (n : Int) : ∃ b, (Lib.itoa n)[(Lib.itoa n).length - 1]? = some b ∧ b.toNat ≤ 57 ∧ 1 ≤ (Lib.itoa n).length := by
  obtain ⟨a, D, e, hne, hd, ha⟩ := itoa_form n
  have hl := List.length_pos_iff.2 hne
  rw [e]
  refine ⟨D[D.length - 1]'(by omega), ?_, (hd _ (List.getElem_mem _)).2, by rw [List.length_append]; omega⟩
  rw [List.length_append, List.getElem?_append_right (by omega), show a.length + D.length - 1 - a.length = D.length - 1 by omega]
  exact List.getElem?_eq_getElem _
theorem unit_let (k : Nat) : ∀ r, r < (unitS k).length → ∃ b, (unitS k)[r]? = some b ∧ 97 ≤ b.toNat ∧ b.toNat ≤ 122 := by
  intro r hr
  unfold unitS at *
  split at hr <;> simp only [List.length_cons, List.length_nil] at hr
  · obtain rfl : r = 0 := by omega
    exact ⟨_, rfl, by decide, by decide⟩
  · obtain rfl : r = 0 := by omega
    exact ⟨_, rfl, by decide, by decide⟩
  · obtain rfl : r = 0 := by omega
    exact ⟨_, rfl, by decide, by decide⟩
  · obtain rfl | rfl : r = 0 ∨ r = 1 := by omega
    · exact ⟨_, rfl, by decide, by decide⟩
    · exact ⟨_, rfl, by decide, by decide⟩
theorem unit_len (k : Nat) : 1 ≤ (unitS k).length ∧ (unitS k).length ≤ 2 := by unfold unitS; split <;> simp
@[go_sem] theorem u_self (l : List UInt8) : decide (l = l) = true := by simp
@[go_sem] theorem u_10 : decide (([109] : List UInt8) = [121]) = false := by decide
@[go_sem] theorem u_20 : decide (([100] : List UInt8) = [121]) = false := by decide
@[go_sem] theorem u_21 : decide (([100] : List UInt8) = [109]) = false := by decide
@[go_sem] theorem u_30 : decide (([109, 115] : List UInt8) = [121]) = false := by decide
@[go_sem] theorem u_31 : decide (([109, 115] : List UInt8) = [109]) = false := by decide
@[go_sem] theorem u_32 : decide (([109, 115] : List UInt8) = [100]) = false := by decide
set_option maxRecDepth 100000 in
set_option maxHeartbeats 8000000 in
theorem spanReadP {a b c d : Int} (hin : inLen a b c d) : MeetsP Tryz.prog (glT m) 23 [.s (durT (durV a b c d))] (.tup [durA a b c d, .i .i64 0]) := by
  have hT := spanTextP (m := m) hin
  have hvb : ∀ i, (durV a b c d i).natAbs < 10 ^ 16 := fun i => by obtain ⟨⟨i1, i2⟩, ⟨i3, i4⟩, ⟨i5, i6⟩, ⟨i7, i8⟩⟩ := hin; unfold durV; split <;> omega
  have hmem := fun p (h : p ∈ durQ (durV a b c d)) => durQ_mem hvb h
  have hlen := durQ_len (durV a b c d)
  have f0 : fdAt (durQ (durV a b c d)) (durQ (durV a b c d)).length 0 = a := fdAt_Q _ 0 (by omega)
  have f1 : fdAt (durQ (durV a b c d)) (durQ (durV a b c d)).length 1 = b := fdAt_Q _ 1 (by omega)
  have f2 : fdAt (durQ (durV a b c d)) (durQ (durV a b c d)).length 2 = c := fdAt_Q _ 2 (by omega)
  have f3 : fdAt (durQ (durV a b c d)) (durQ (durV a b c d)).length 3 = d := fdAt_Q _ 3 (by omega)
  rw [durT_Q] at hT ⊢
  generalize durQ (durV a b c d) = P at *
  have hwl : ∀ x ∈ P.map wordP, x.length ≤ 20 := fun x hx => by
    obtain ⟨p, hp, rfl⟩ := List.mem_map.1 hx
    have h1 := itoa_len (n := p.1) (k := 15) (hmem p hp).2
    have h2 := unit_len p.2
    unfold wordP; rw [List.length_append]; omega
  have hSp := strSplitP (m := m) (L := P.map wordP) (c := 32) (fun q => by rw [List.map_eq_nil_iff] at q; rw [q] at hlen; simp at hlen) (fun x hx => by obtain ⟨p, -, rfl⟩ := List.mem_map.1 hx; exact word_no32) (by
    have h1 := jn_len [32] (P.map wordP) ((P.map wordP).length - 1)
    rw [jn_jl 32 (fun q => by rw [List.map_eq_nil_iff] at q; rw [q] at hlen; simp at hlen)] at h1
    have h2 := sl_le hwl ((P.map wordP).length - 1 + 1)
    rw [List.length_map] at h1 h2
    simp only [List.length_cons, List.length_nil] at h1
    omega)
  have hRl : (strR (P.map wordP)).length = P.length := by rw [strR_len, List.length_map]
  have hget : ∀ j, j < P.length → (strR (P.map wordP))[j]? = some [.s (wordP (P.getD j (0, 0)))] := fun j hj => by
    rw [strR_get (by rw [List.length_map]; exact hj), List.getD_eq_getElem?_getD, List.getElem?_map, List.getD_eq_getElem?_getD, List.getElem?_eq_getElem hj]; rfl
  have hmem2 : ∀ j, j < P.length → (P.getD j (0, 0)).2 < 4 ∧ (P.getD j (0, 0)).1.natAbs < 10 ^ 16 := fun j hj => by
    rw [List.getD_eq_getElem?_getD, List.getElem?_eq_getElem hj]; exact hmem _ (List.getElem_mem hj)
  generalize strR (P.map wordP) = R at *
  generalize jl 32 (P.map wordP) = s at *
  clear hwl hmem hvb hin
  unfold durA at *
  refine meetsP (E := (EW m)) 83 [.cell 2 51, .tmp 3] (ew m) Tryz.func23 rfl (by decide) rfl rfl (by simp) ?_
  repeat' first
    | ((with_reducible refine wr_isCall ?_); refine wr_P hSp rfl ?_)
    | (with_reducible refine t_seq ?_)
    | (with_reducible refine t_skip ?_)
    | (with_reducible refine t_ret ?_)
    | (with_reducible refine t_end ?_)
    | (with_reducible refine t_cond ?_)
    | (with_reducible refine t_region ?_)
    | (with_reducible refine wr_done ?_)
    | ((with_reducible refine t_isDraw ?_); refine t_draw rfl (by kernel_rfl) ?_)
    | (with_reducible refine WD.done _ ?_)
    | (with_reducible refine wdp_done ?_)
    | (with_reducible refine tr_some ?_)
    | ((fail_if_success with_reducible refine t_bl ?_); (with_reducible refine t_block ?_))
    | (with_reducible refine t_inBlock ?_)
    | ((with_reducible refine t_isExit ?_); refine t_exit rfl ?_)
    | simp only [decide_eq_true_eq, decide_eq_false_iff_not, Bool.not_eq_true', Bool.not_eq_false'] at *
    | simp (disch := omega) only [go_sem, Nat.reduceLT, Nat.reduceEqDiff, Nat.reduceAdd, Nat.reduceLeDiff, Nat.reduceMul, Int.reduceLT, Int.reduceLE, Int.reduceAdd, Int.reduceSub, Int.reduceNeg, Int.reduceToNat, Int.reduceBEq, Int.reduceEq, reduceCtorEq, List.take_succ_cons, List.take_zero, List.take_nil, List.drop_succ_cons, List.drop_nil, List.cons_append, List.nil_append, List.set_cons_zero, List.set_cons_succ, ↓reduceIte, *]
    | (with_reducible refine tb_true ?_)
    | (with_reducible refine tb_false ?_)
    | (with_reducible refine tb_split (fun _ => ?_) (fun _ => ?_))
    | (with_reducible refine wg_f (fun _ => ?_) (fun _ => ?_))
    | (with_reducible refine wg_t (fun _ => ?_) (fun _ => ?_))
    | (with_reducible refine wd_f (fun _ => ?_) (fun _ => ?_))
    | (with_reducible refine wd_t (fun _ => ?_) (fun _ => ?_))
  refine t_while (I := fun (j : Nat) t h => j ≤ P.length ∧ h = ⟨[(1, .rows 4 [[.i .i64 (fdAt P j 0), .i .i64 (fdAt P j 1), .i .i64 (fdAt P j 2), .i .i64 (fdAt P j 3)]]), (0, .rows 4 [[.i .i64 0, .i .i64 0, .i .i64 0, .i .i64 0]])], 2⟩ ∧ get t 0 = .s s ∧ get t 2 = .ptr 0 0 0 ∧ get t 4 = .ptr 1 0 0 ∧ get t 13 = .isl true 1 R ∧ get t 14 = .i .i64 P.length ∧ get t 15 = .i .i64 j) (m := fun j => P.length - j)
    (J := fun t h => h = ⟨[(1, .rows 4 [[.i .i64 a, .i .i64 b, .i .i64 c, .i .i64 d]]), (0, .rows 4 [[.i .i64 0, .i .i64 0, .i .i64 0, .i .i64 0]])], 2⟩ ∧ get t 0 = .s s ∧ get t 2 = .ptr 0 0 0 ∧ get t 4 = .ptr 1 0 0) 0
    ⟨by omega, by simp [fdAt], by simp [get], by simp [get], by simp [get], by simp [get], by simp [get, hRl], by simp [get]⟩ ?_ ?_
  · rintro j t h ⟨hj, rfl, g0, g2, g4, g13, g14, g15⟩ hrec hex
    by_cases hjl : j = P.length
    · subst hjl
      rw [f0, f1, f2, f3]
      clear hT hSp hget hmem2 f0 f1 f2 f3
      repeat' first
        | refine hex _ _ ?_
        | (with_reducible refine t_seq ?_)
        | (with_reducible refine t_skip ?_)
        | (with_reducible refine t_ret ?_)
        | (with_reducible refine t_end ?_)
        | (with_reducible refine t_cond ?_)
        | (with_reducible refine t_region ?_)
        | (with_reducible refine wr_done ?_)
        | ((with_reducible refine t_isDraw ?_); refine t_draw rfl (by kernel_rfl) ?_)
        | (with_reducible refine WD.done _ ?_)
        | (with_reducible refine wdp_done ?_)
        | (with_reducible refine tr_some ?_)
        | ((fail_if_success with_reducible refine t_bl ?_); (with_reducible refine t_block ?_))
        | (with_reducible refine t_inBlock ?_)
        | ((with_reducible refine t_isExit ?_); refine t_exit rfl ?_)
        | simp only [decide_eq_true_eq, decide_eq_false_iff_not, Bool.not_eq_true', Bool.not_eq_false'] at *
        | simp (disch := omega) only [go_sem, Nat.reduceLT, Nat.reduceEqDiff, Nat.reduceAdd, Nat.reduceLeDiff, Nat.reduceMul, Int.reduceLT, Int.reduceLE, Int.reduceAdd, Int.reduceSub, Int.reduceNeg, Int.reduceToNat, Int.reduceBEq, Int.reduceEq, reduceCtorEq, List.take_succ_cons, List.take_zero, List.take_nil, List.drop_succ_cons, List.drop_nil, List.cons_append, List.nil_append, List.set_cons_zero, List.set_cons_succ, ↓reduceIte, *]
        | (with_reducible refine tb_true ?_)
        | (with_reducible refine tb_false ?_)
        | (with_reducible refine tb_split (fun _ => ?_) (fun _ => ?_))
        | (with_reducible refine wg_f (fun _ => ?_) (fun _ => ?_))
        | (with_reducible refine wg_t (fun _ => ?_) (fun _ => ?_))
        | (with_reducible refine wd_f (fun _ => ?_) (fun _ => ?_))
        | (with_reducible refine wd_t (fun _ => ?_) (fun _ => ?_))
      all_goals first | (exfalso; omega) | simp [get, g0, g2, g4]
    · have hg := hget j (by omega)
      have hm2 := hmem2 j (by omega)
      have e0 : ∀ k, fdAt P (j + 1) k = if k = (P.getD j (0, 0)).2 then (P.getD j (0, 0)).1 else fdAt P j k := fun k => rfl
      have hjP : j < P.length := by omega
      obtain ⟨p, hp⟩ : ∃ p, P.getD j (0, 0) = p := ⟨_, rfl⟩
      rw [hp] at hg hm2 e0
      obtain ⟨n, k⟩ := p
      simp only at hm2 e0
      unfold wordP at hg
      simp only at hg
      have hAt := atoiP (gl := glT m) (a := Lib.itoa n) (n := n) (by have := itoa_len (n := n) (k := 15) hm2.2; omega) (atoi_itoa n)
      obtain ⟨bd, d1, d2, d3⟩ := word_dig n
      have hul := unit_len k
      have hlt := unit_let k
      have hwd : (Lib.itoa n ++ unitS k)[(Lib.itoa n).length - 1]? = some bd := by rw [List.getElem?_append_left (by omega)]; exact d1
      have hwu : ∀ r, r < (unitS k).length → ∃ b, (Lib.itoa n ++ unitS k)[(Lib.itoa n).length + r]? = some b ∧ 97 ≤ b.toNat ∧ b.toNat ≤ 122 := fun r hr => by
        rw [List.getElem?_append_right (by omega), Nat.add_sub_cancel_left]; exact hlt r hr
      have htk : List.take (Lib.itoa n).length (Lib.itoa n ++ unitS k) = Lib.itoa n := List.take_left' rfl
      have hdr : List.drop (Lib.itoa n).length (Lib.itoa n ++ unitS k) = unitS k := List.drop_left' rfl
      have hwn : (Lib.itoa n ++ unitS k).length = (Lib.itoa n).length + (unitS k).length := List.length_append
      have hb64 : (Lib.itoa n).length ≤ 17 := by have := itoa_len (n := n) (k := 15) hm2.2; omega
      generalize Lib.itoa n ++ unitS k = w at *
      generalize Lib.itoa n = D at *
      generalize hU : unitS k = U at *
      clear hT hSp hget hmem2 f0 f1 f2 f3 d1 hlt
      have hR0 := fdAt P j 0
      repeat' first
        | (with_reducible refine t_seq ?_)
        | (with_reducible refine t_skip ?_)
        | (with_reducible refine t_ret ?_)
        | (with_reducible refine t_end ?_)
        | (with_reducible refine t_cond ?_)
        | (with_reducible refine t_region ?_)
        | (with_reducible refine wr_done ?_)
        | ((with_reducible refine t_isDraw ?_); refine t_draw rfl (by kernel_rfl) ?_)
        | (with_reducible refine WD.done _ ?_)
        | (with_reducible refine wdp_done ?_)
        | (with_reducible refine tr_some ?_)
        | ((fail_if_success with_reducible refine t_bl ?_); (with_reducible refine t_block ?_))
        | (with_reducible refine t_inBlock ?_)
        | ((with_reducible refine t_isExit ?_); refine t_exit rfl ?_)
        | simp only [decide_eq_true_eq, decide_eq_false_iff_not, Bool.not_eq_true', Bool.not_eq_false'] at *
        | simp (disch := omega) only [go_sem, Nat.reduceLT, Nat.reduceEqDiff, Nat.reduceAdd, Nat.reduceLeDiff, Nat.reduceMul, Int.reduceLT, Int.reduceLE, Int.reduceAdd, Int.reduceSub, Int.reduceNeg, Int.reduceToNat, Int.reduceBEq, Int.reduceEq, reduceCtorEq, List.take_succ_cons, List.take_zero, List.take_nil, List.drop_succ_cons, List.drop_nil, List.cons_append, List.nil_append, List.set_cons_zero, List.set_cons_succ, ↓reduceIte, *]
        | (with_reducible refine tb_true ?_)
        | (with_reducible refine tb_false ?_)
        | (with_reducible refine tb_split (fun _ => ?_) (fun _ => ?_))
        | (with_reducible refine wg_f (fun _ => ?_) (fun _ => ?_))
        | (with_reducible refine wg_t (fun _ => ?_) (fun _ => ?_))
        | (with_reducible refine wd_f (fun _ => ?_) (fun _ => ?_))
        | (with_reducible refine wd_t (fun _ => ?_) (fun _ => ?_))
      all_goals first | (exfalso; omega) | skip
      generalize hF0 : fdAt P j 0 = F0 at *
      generalize hF1 : fdAt P j 1 = F1 at *
      generalize hF2 : fdAt P j 2 = F2 at *
      generalize hF3 : fdAt P j 3 = F3 at *
      refine t_while (I := fun (r : Nat) t h => r ≤ U.length ∧ h = ⟨[(1, .rows 4 [[.i .i64 F0, .i .i64 F1, .i .i64 F2, .i .i64 F3]]), (0, .rows 4 [[.i .i64 0, .i .i64 0, .i .i64 0, .i .i64 0]])], 2⟩ ∧ get t 0 = .s s ∧ get t 2 = .ptr 0 0 0 ∧ get t 4 = .ptr 1 0 0 ∧ get t 6 = .s w ∧ get t 13 = .isl true 1 R ∧ get t 14 = .i .i64 P.length ∧ get t 15 = .i .i64 j ∧ get t 7 = .i .i64 ((D.length : Int) + r)) (m := fun r => r)
        (J := fun t h => h = ⟨[(1, .rows 4 [[.i .i64 F0, .i .i64 F1, .i .i64 F2, .i .i64 F3]]), (0, .rows 4 [[.i .i64 0, .i .i64 0, .i .i64 0, .i .i64 0]])], 2⟩ ∧ get t 0 = .s s ∧ get t 2 = .ptr 0 0 0 ∧ get t 4 = .ptr 1 0 0 ∧ get t 6 = .s w ∧ get t 13 = .isl true 1 R ∧ get t 14 = .i .i64 P.length ∧ get t 15 = .i .i64 j ∧ get t 7 = .i .i64 D.length) U.length
        ⟨by omega, rfl, by simp [get, g0], by simp [get, g2], by simp [get, g4], by simp [get], by simp [get, g13], by simp [get, g14], by simp [get, g15], by simp [get]⟩ ?_ ?_
      · rintro r t h ⟨hr, rfl, g0, g2, g4, g6, g13, g14, g15, g7⟩ hrec2 hex2
        cases r with
        | zero =>
          obtain ⟨q, hq⟩ : ∃ q, D.length = q + 1 := ⟨D.length - 1, by omega⟩
          have hq2 : (D.length : Int) = (q : Int) + 1 := by omega
          rw [show (D.length : Int) + ((0 : Nat) : Int) = (q : Int) + 1 by omega] at g7
          rw [show D.length - 1 = q by omega] at hwd
          have hbd : ¬ (97 : Int) ≤ bd.toNat := by omega
          have hpos : (0 : Int) < (q : Int) + 1 := by omega
          have eI : ((q : Int)).toNat = q := by omega
          have eS : (q : Int) + 1 - 1 = q := by omega
          have hge : (0 : Int) ≤ q := by omega
          clear hwu e0 hrec hex hdr htk hAt hg hq hwn d3
          repeat' first
            | refine hex2 _ _ ?_
            | (with_reducible refine t_seq ?_)
            | (with_reducible refine t_skip ?_)
            | (with_reducible refine t_ret ?_)
            | (with_reducible refine t_end ?_)
            | (with_reducible refine t_cond ?_)
            | (with_reducible refine t_region ?_)
            | (with_reducible refine wr_done ?_)
            | ((with_reducible refine t_isDraw ?_); refine t_draw rfl (by kernel_rfl) ?_)
            | (with_reducible refine WD.done _ ?_)
            | (with_reducible refine wdp_done ?_)
            | (with_reducible refine tr_some ?_)
            | ((fail_if_success with_reducible refine t_bl ?_); (with_reducible refine t_block ?_))
            | (with_reducible refine t_inBlock ?_)
            | ((with_reducible refine t_isExit ?_); refine t_exit rfl ?_)
            | simp only [decide_eq_true_eq, decide_eq_false_iff_not, Bool.not_eq_true', Bool.not_eq_false'] at *
            | simp (disch := omega) only [go_sem, Nat.reduceLT, Nat.reduceEqDiff, Nat.reduceAdd, Nat.reduceLeDiff, Nat.reduceMul, Int.reduceLT, Int.reduceLE, Int.reduceAdd, Int.reduceSub, Int.reduceNeg, Int.reduceToNat, Int.reduceBEq, Int.reduceEq, reduceCtorEq, List.take_succ_cons, List.take_zero, List.take_nil, List.drop_succ_cons, List.drop_nil, List.cons_append, List.nil_append, List.set_cons_zero, List.set_cons_succ, ↓reduceIte, *]
            | (with_reducible refine tb_true ?_)
            | (with_reducible refine tb_false ?_)
            | (with_reducible refine tb_split (fun _ => ?_) (fun _ => ?_))
            | (with_reducible refine wg_f (fun _ => ?_) (fun _ => ?_))
            | (with_reducible refine wg_t (fun _ => ?_) (fun _ => ?_))
            | (with_reducible refine wd_f (fun _ => ?_) (fun _ => ?_))
            | (with_reducible refine wd_t (fun _ => ?_) (fun _ => ?_))
          all_goals first | (exfalso; omega) | simp [get, g0, g2, g4, g6, g13, g14, g15, g7, hq2]
        | succ r =>
          obtain ⟨b', q1, q2, q3⟩ := hwu r (by omega)
          rw [show (D.length : Int) + ((r + 1 : Nat) : Int) = (D.length : Int) + r + 1 by omega] at g7
          have eI : ((D.length : Int) + r).toNat = D.length + r := by omega
          have hpos : (0 : Int) < (D.length : Int) + r + 1 := by omega
          have hb1 : (97 : Int) ≤ b'.toNat := by omega
          have hb2 : (b'.toNat : Int) ≤ 122 := by omega
          have hp1 : (1 : Int) ≤ (D.length : Int) + r + 1 := by omega
          have hge : (0 : Int) ≤ (D.length : Int) + r := by omega
          have eS : (D.length : Int) + r + 1 - 1 = (D.length : Int) + r := by omega
          clear hwu hwd e0 hrec hex hdr htk hAt hg
          repeat' first
            | (with_reducible refine t_seq ?_)
            | (with_reducible refine t_skip ?_)
            | (with_reducible refine t_ret ?_)
            | (with_reducible refine t_end ?_)
            | (with_reducible refine t_cond ?_)
            | (with_reducible refine t_region ?_)
            | (with_reducible refine wr_done ?_)
            | ((with_reducible refine t_isDraw ?_); refine t_draw rfl (by kernel_rfl) ?_)
            | (with_reducible refine WD.done _ ?_)
            | (with_reducible refine wdp_done ?_)
            | (with_reducible refine tr_some ?_)
            | ((fail_if_success with_reducible refine t_bl ?_); (with_reducible refine t_block ?_))
            | (with_reducible refine t_inBlock ?_)
            | ((with_reducible refine t_isExit ?_); refine t_exit rfl ?_)
            | simp only [decide_eq_true_eq, decide_eq_false_iff_not, Bool.not_eq_true', Bool.not_eq_false'] at *
            | simp (disch := omega) only [go_sem, Nat.reduceLT, Nat.reduceEqDiff, Nat.reduceAdd, Nat.reduceLeDiff, Nat.reduceMul, Int.reduceLT, Int.reduceLE, Int.reduceAdd, Int.reduceSub, Int.reduceNeg, Int.reduceToNat, Int.reduceBEq, Int.reduceEq, reduceCtorEq, List.take_succ_cons, List.take_zero, List.take_nil, List.drop_succ_cons, List.drop_nil, List.cons_append, List.nil_append, List.set_cons_zero, List.set_cons_succ, ↓reduceIte, *]
            | (with_reducible refine tb_true ?_)
            | (with_reducible refine tb_false ?_)
            | (with_reducible refine tb_split (fun _ => ?_) (fun _ => ?_))
            | (with_reducible refine wg_f (fun _ => ?_) (fun _ => ?_))
            | (with_reducible refine wg_t (fun _ => ?_) (fun _ => ?_))
            | (with_reducible refine wd_f (fun _ => ?_) (fun _ => ?_))
            | (with_reducible refine wd_t (fun _ => ?_) (fun _ => ?_))
          all_goals first | (exfalso; omega) | skip
          all_goals exact hrec2 r _ _ ⟨by omega, rfl, by simp [get, g0], by simp [get, g2], by simp [get, g4], by simp [get, g6], by simp [get, g13], by simp [get, g14], by simp [get, g15], by simp [get, eS]⟩ (by omega)
      rintro t h ⟨rfl, g0, g2, g4, g6, g13, g14, g15, g7⟩
      clear hwu hwd
      obtain rfl | rfl | rfl | rfl : k = 0 ∨ k = 1 ∨ k = 2 ∨ k = 3 := by omega
      all_goals unfold unitS at hU
      all_goals subst hU
      · have hdr2 : List.drop D.length (List.take (D.length + 1) w) = [121] := by rw [List.take_of_length_le (by simp at hwn; omega)]; exact hdr
        simp only [List.length_cons, List.length_nil, Nat.zero_add, Nat.reduceAdd] at hwn
        clear hdr
        have q0 := e0 0
        have q1 := e0 1
        have q2 := e0 2
        have q3 := e0 3
        rw [if_pos rfl] at q0
        rw [if_neg (by omega)] at q1
        rw [if_neg (by omega)] at q2
        rw [if_neg (by omega)] at q3
        clear e0
        repeat' first
          | ((with_reducible refine wr_isCall ?_); refine wr_P hAt rfl ?_)
          | (with_reducible refine t_seq ?_)
          | (with_reducible refine t_skip ?_)
          | (with_reducible refine t_ret ?_)
          | (with_reducible refine t_end ?_)
          | (with_reducible refine t_cond ?_)
          | (with_reducible refine t_region ?_)
          | (with_reducible refine wr_done ?_)
          | ((with_reducible refine t_isDraw ?_); refine t_draw rfl (by kernel_rfl) ?_)
          | (with_reducible refine WD.done _ ?_)
          | (with_reducible refine wdp_done ?_)
          | (with_reducible refine tr_some ?_)
          | ((fail_if_success with_reducible refine t_bl ?_); (with_reducible refine t_block ?_))
          | (with_reducible refine t_inBlock ?_)
          | ((with_reducible refine t_isExit ?_); refine t_exit rfl ?_)
          | simp only [decide_eq_true_eq, decide_eq_false_iff_not, Bool.not_eq_true', Bool.not_eq_false'] at *
          | simp (disch := omega) only [go_sem, Nat.reduceLT, Nat.reduceEqDiff, Nat.reduceAdd, Nat.reduceLeDiff, Nat.reduceMul, Int.reduceLT, Int.reduceLE, Int.reduceAdd, Int.reduceSub, Int.reduceNeg, Int.reduceToNat, Int.reduceBEq, Int.reduceEq, reduceCtorEq, List.take_succ_cons, List.take_zero, List.take_nil, List.drop_succ_cons, List.drop_nil, List.cons_append, List.nil_append, List.set_cons_zero, List.set_cons_succ, ↓reduceIte, *]
          | (with_reducible refine tb_true ?_)
          | (with_reducible refine tb_false ?_)
          | (with_reducible refine tb_split (fun _ => ?_) (fun _ => ?_))
          | (with_reducible refine wg_f (fun _ => ?_) (fun _ => ?_))
          | (with_reducible refine wg_t (fun _ => ?_) (fun _ => ?_))
          | (with_reducible refine wd_f (fun _ => ?_) (fun _ => ?_))
          | (with_reducible refine wd_t (fun _ => ?_) (fun _ => ?_))
        all_goals first | (exfalso; omega) | skip
        all_goals exact hrec (j + 1) _ _ ⟨by omega, by rw [q0, q1, q2, q3, hF1, hF2, hF3], by simp [get, g0], by simp [get, g2], by simp [get, g4], by simp [get, g13], by simp [get, g14], by simp [get]⟩ (by omega)
      · have hdr2 : List.drop D.length (List.take (D.length + 1) w) = [109] := by rw [List.take_of_length_le (by simp at hwn; omega)]; exact hdr
        simp only [List.length_cons, List.length_nil, Nat.zero_add, Nat.reduceAdd] at hwn
        clear hdr
        have q0 := e0 0
        have q1 := e0 1
        have q2 := e0 2
        have q3 := e0 3
        rw [if_neg (by omega)] at q0
        rw [if_pos rfl] at q1
        rw [if_neg (by omega)] at q2
        rw [if_neg (by omega)] at q3
        clear e0
        repeat' first
          | ((with_reducible refine wr_isCall ?_); refine wr_P hAt rfl ?_)
          | (with_reducible refine t_seq ?_)
          | (with_reducible refine t_skip ?_)
          | (with_reducible refine t_ret ?_)
          | (with_reducible refine t_end ?_)
          | (with_reducible refine t_cond ?_)
          | (with_reducible refine t_region ?_)
          | (with_reducible refine wr_done ?_)
          | ((with_reducible refine t_isDraw ?_); refine t_draw rfl (by kernel_rfl) ?_)
          | (with_reducible refine WD.done _ ?_)
          | (with_reducible refine wdp_done ?_)
          | (with_reducible refine tr_some ?_)
          | ((fail_if_success with_reducible refine t_bl ?_); (with_reducible refine t_block ?_))
          | (with_reducible refine t_inBlock ?_)
          | ((with_reducible refine t_isExit ?_); refine t_exit rfl ?_)
          | simp only [decide_eq_true_eq, decide_eq_false_iff_not, Bool.not_eq_true', Bool.not_eq_false'] at *
          | simp (disch := omega) only [go_sem, Nat.reduceLT, Nat.reduceEqDiff, Nat.reduceAdd, Nat.reduceLeDiff, Nat.reduceMul, Int.reduceLT, Int.reduceLE, Int.reduceAdd, Int.reduceSub, Int.reduceNeg, Int.reduceToNat, Int.reduceBEq, Int.reduceEq, reduceCtorEq, List.take_succ_cons, List.take_zero, List.take_nil, List.drop_succ_cons, List.drop_nil, List.cons_append, List.nil_append, List.set_cons_zero, List.set_cons_succ, ↓reduceIte, *]
          | (with_reducible refine tb_true ?_)
          | (with_reducible refine tb_false ?_)
          | (with_reducible refine tb_split (fun _ => ?_) (fun _ => ?_))
          | (with_reducible refine wg_f (fun _ => ?_) (fun _ => ?_))
          | (with_reducible refine wg_t (fun _ => ?_) (fun _ => ?_))
          | (with_reducible refine wd_f (fun _ => ?_) (fun _ => ?_))
          | (with_reducible refine wd_t (fun _ => ?_) (fun _ => ?_))
        all_goals first | (exfalso; omega) | skip
        all_goals exact hrec (j + 1) _ _ ⟨by omega, by rw [q0, q1, q2, q3, hF0, hF2, hF3], by simp [get, g0], by simp [get, g2], by simp [get, g4], by simp [get, g13], by simp [get, g14], by simp [get]⟩ (by omega)
      · have hdr2 : List.drop D.length (List.take (D.length + 1) w) = [100] := by rw [List.take_of_length_le (by simp at hwn; omega)]; exact hdr
        simp only [List.length_cons, List.length_nil, Nat.zero_add, Nat.reduceAdd] at hwn
        clear hdr
        have q0 := e0 0
        have q1 := e0 1
        have q2 := e0 2
        have q3 := e0 3
        rw [if_neg (by omega)] at q0
        rw [if_neg (by omega)] at q1
        rw [if_pos rfl] at q2
        rw [if_neg (by omega)] at q3
        clear e0
        repeat' first
          | ((with_reducible refine wr_isCall ?_); refine wr_P hAt rfl ?_)
          | (with_reducible refine t_seq ?_)
          | (with_reducible refine t_skip ?_)
          | (with_reducible refine t_ret ?_)
          | (with_reducible refine t_end ?_)
          | (with_reducible refine t_cond ?_)
          | (with_reducible refine t_region ?_)
          | (with_reducible refine wr_done ?_)
          | ((with_reducible refine t_isDraw ?_); refine t_draw rfl (by kernel_rfl) ?_)
          | (with_reducible refine WD.done _ ?_)
          | (with_reducible refine wdp_done ?_)
          | (with_reducible refine tr_some ?_)
          | ((fail_if_success with_reducible refine t_bl ?_); (with_reducible refine t_block ?_))
          | (with_reducible refine t_inBlock ?_)
          | ((with_reducible refine t_isExit ?_); refine t_exit rfl ?_)
          | simp only [decide_eq_true_eq, decide_eq_false_iff_not, Bool.not_eq_true', Bool.not_eq_false'] at *
          | simp (disch := omega) only [go_sem, Nat.reduceLT, Nat.reduceEqDiff, Nat.reduceAdd, Nat.reduceLeDiff, Nat.reduceMul, Int.reduceLT, Int.reduceLE, Int.reduceAdd, Int.reduceSub, Int.reduceNeg, Int.reduceToNat, Int.reduceBEq, Int.reduceEq, reduceCtorEq, List.take_succ_cons, List.take_zero, List.take_nil, List.drop_succ_cons, List.drop_nil, List.cons_append, List.nil_append, List.set_cons_zero, List.set_cons_succ, ↓reduceIte, *]
          | (with_reducible refine tb_true ?_)
          | (with_reducible refine tb_false ?_)
          | (with_reducible refine tb_split (fun _ => ?_) (fun _ => ?_))
          | (with_reducible refine wg_f (fun _ => ?_) (fun _ => ?_))
          | (with_reducible refine wg_t (fun _ => ?_) (fun _ => ?_))
          | (with_reducible refine wd_f (fun _ => ?_) (fun _ => ?_))
          | (with_reducible refine wd_t (fun _ => ?_) (fun _ => ?_))
        all_goals first | (exfalso; omega) | skip
        all_goals exact hrec (j + 1) _ _ ⟨by omega, by rw [q0, q1, q2, q3, hF0, hF1, hF3], by simp [get, g0], by simp [get, g2], by simp [get, g4], by simp [get, g13], by simp [get, g14], by simp [get]⟩ (by omega)
      · have hdr2 : List.drop D.length (List.take (D.length + 2) w) = [109, 115] := by rw [List.take_of_length_le (by simp at hwn; omega)]; exact hdr
        simp only [List.length_cons, List.length_nil, Nat.zero_add, Nat.reduceAdd] at hwn
        clear hdr
        have q0 := e0 0
        have q1 := e0 1
        have q2 := e0 2
        have q3 := e0 3
        rw [if_neg (by omega)] at q0
        rw [if_neg (by omega)] at q1
        rw [if_neg (by omega)] at q2
        rw [if_pos rfl] at q3
        clear e0
        repeat' first
          | ((with_reducible refine wr_isCall ?_); refine wr_P hAt rfl ?_)
          | (with_reducible refine t_seq ?_)
          | (with_reducible refine t_skip ?_)
          | (with_reducible refine t_ret ?_)
          | (with_reducible refine t_end ?_)
          | (with_reducible refine t_cond ?_)
          | (with_reducible refine t_region ?_)
          | (with_reducible refine wr_done ?_)
          | ((with_reducible refine t_isDraw ?_); refine t_draw rfl (by kernel_rfl) ?_)
          | (with_reducible refine WD.done _ ?_)
          | (with_reducible refine wdp_done ?_)
          | (with_reducible refine tr_some ?_)
          | ((fail_if_success with_reducible refine t_bl ?_); (with_reducible refine t_block ?_))
          | (with_reducible refine t_inBlock ?_)
          | ((with_reducible refine t_isExit ?_); refine t_exit rfl ?_)
          | simp only [decide_eq_true_eq, decide_eq_false_iff_not, Bool.not_eq_true', Bool.not_eq_false'] at *
          | simp (disch := omega) only [go_sem, Nat.reduceLT, Nat.reduceEqDiff, Nat.reduceAdd, Nat.reduceLeDiff, Nat.reduceMul, Int.reduceLT, Int.reduceLE, Int.reduceAdd, Int.reduceSub, Int.reduceNeg, Int.reduceToNat, Int.reduceBEq, Int.reduceEq, reduceCtorEq, List.take_succ_cons, List.take_zero, List.take_nil, List.drop_succ_cons, List.drop_nil, List.cons_append, List.nil_append, List.set_cons_zero, List.set_cons_succ, ↓reduceIte, *]
          | (with_reducible refine tb_true ?_)
          | (with_reducible refine tb_false ?_)
          | (with_reducible refine tb_split (fun _ => ?_) (fun _ => ?_))
          | (with_reducible refine wg_f (fun _ => ?_) (fun _ => ?_))
          | (with_reducible refine wg_t (fun _ => ?_) (fun _ => ?_))
          | (with_reducible refine wd_f (fun _ => ?_) (fun _ => ?_))
          | (with_reducible refine wd_t (fun _ => ?_) (fun _ => ?_))
        all_goals first | (exfalso; omega) | skip
        all_goals exact hrec (j + 1) _ _ ⟨by omega, by rw [q0, q1, q2, q3, hF0, hF1, hF2], by simp [get, g0], by simp [get, g2], by simp [get, g4], by simp [get, g13], by simp [get, g14], by simp [get]⟩ (by omega)
  rintro t h ⟨rfl, g0, g2, g4⟩
  clear hSp hget hmem2 f0 f1 f2 f3
  repeat' first
    | ((with_reducible refine wr_isCall ?_); refine wr_P hT rfl ?_)
    | (with_reducible refine t_seq ?_)
    | (with_reducible refine t_skip ?_)
    | (with_reducible refine t_ret ?_)
    | (with_reducible refine t_end ?_)
    | (with_reducible refine t_cond ?_)
    | (with_reducible refine t_region ?_)
    | (with_reducible refine wr_done ?_)
    | ((with_reducible refine t_isDraw ?_); refine t_draw rfl (by kernel_rfl) ?_)
    | (with_reducible refine WD.done _ ?_)
    | (with_reducible refine wdp_done ?_)
    | (with_reducible refine tr_some ?_)
    | ((fail_if_success with_reducible refine t_bl ?_); (with_reducible refine t_block ?_))
    | (with_reducible refine t_inBlock ?_)
    | ((with_reducible refine t_isExit ?_); refine t_exit rfl ?_)
    | simp only [decide_eq_true_eq, decide_eq_false_iff_not, Bool.not_eq_true', Bool.not_eq_false'] at *
    | simp (disch := omega) only [go_sem, Nat.reduceLT, Nat.reduceEqDiff, Nat.reduceAdd, Nat.reduceLeDiff, Nat.reduceMul, Int.reduceLT, Int.reduceLE, Int.reduceAdd, Int.reduceSub, Int.reduceNeg, Int.reduceToNat, Int.reduceBEq, Int.reduceEq, reduceCtorEq, List.take_succ_cons, List.take_zero, List.take_nil, List.drop_succ_cons, List.drop_nil, List.cons_append, List.nil_append, List.set_cons_zero, List.set_cons_succ, ↓reduceIte, *]
    | (with_reducible refine tb_true ?_)
    | (with_reducible refine tb_false ?_)
    | (with_reducible refine tb_split (fun _ => ?_) (fun _ => ?_))
    | (with_reducible refine wg_f (fun _ => ?_) (fun _ => ?_))
    | (with_reducible refine wg_t (fun _ => ?_) (fun _ => ?_))
    | (with_reducible refine wd_f (fun _ => ?_) (fun _ => ?_))
    | (with_reducible refine wd_t (fun _ => ?_) (fun _ => ?_))
  all_goals first | (exfalso; omega) | exact ⟨rfl, rfl⟩
end Go.Proofs.YtkokongbnemkhaaGreatDoorA
/- The calendars julian and gregorian by name. -/
set_option linter.unusedVariables false
set_option linter.unusedSimpArgs false
namespace Go.Proofs.YtkokongbnemkhaaGreatDoorA
open Go Go.RowKit Go.Proofs.YtkokongbnemkhaaGreatDoorFx Go.Proofs
variable {m : Int}
@[go_sem] theorem beq_int (x : Int) : (x == x) = true := by simp
theorem MeetsP.narrow1 {P : Program} {gl : Nat → Option (List AV)} {f : FuncId} {a a' : AV} {as' : List AV} {r : AV} (h : MeetsP P gl f (a :: as') r) (hw : Wk a' a) : MeetsP P gl f (a' :: as') r :=
  ⟨h.1, fun ok w vals q1 q2 q3 q4 => h.2 ok w vals q1 q2 q3 (fun j v b hv hb => by
    cases j with
    | zero => cases hb; exact hw ok w v (q4 0 v a' hv rfl)
    | succ j => exact q4 (j + 1) v b hv hb)⟩
def julS : List UInt8 := [106, 117, 108, 105, 97, 110]
def grgS : List UInt8 := [103, 114, 101, 103, 111, 114, 105, 97, 110]
def julR : CatRow := ⟨julS, -1, 4, [121, 32, 37, 32, 52, 32, 61, 32, 48], 65⟩
def grgR : CatRow := ⟨grgS, 1, 400, [121, 32, 37, 32, 52, 32, 61, 32, 48, 32, 97, 110, 100, 32, 40, 110, 111, 116, 32, 121, 32, 37, 32, 49, 48, 48, 32, 61, 32, 48, 32, 111, 114, 32, 121, 32, 37, 32, 52, 48, 48, 32, 61, 32, 48, 41], 65⟩
set_option maxRecDepth 10000000 in
theorem julIn : (julR, 1) ∈ catT.zipIdx := by rw [List.mem_zipIdx_iff_getElem?]; kernel_rfl
set_option maxRecDepth 10000000 in
theorem grgIn : (grgR, 0) ∈ catT.zipIdx := by rw [List.mem_zipIdx_iff_getElem?]; kernel_rfl
theorem jul_known : ¬ Unknown julS := fun h => h julR (row_mem julIn) rfl
theorem grg_known : ¬ Unknown grgS := fun h => h grgR (row_mem grgIn) rfl
end Go.Proofs.YtkokongbnemkhaaGreatDoorA
/- SpanSteps as a contract. -/
set_option linter.unusedVariables false
set_option linter.unusedSimpArgs false
namespace Go.Proofs.YtkokongbnemkhaaGreatDoorA
open Go Go.RowKit Go.Proofs.YtkokongbnemkhaaGreatDoorFx Go.Proofs
variable {m : Int}
open Classical in
@[go_sem] theorem el_hit2s (m : Int) (L : List (FuncId × List AV × AV)) (h : Hp) (f : FuncId) (args args0 : List AV) (r r0 : AV) : callA (EL m ((f, args0, r0) :: (f, args, r) :: L)) h f args = if args.all (noid 12) = true then (if args0 = args then .val r0 h else .val r h) else callZ (EL m ((f, args0, r0) :: (f, args, r) :: L)) h f args := by
  by_cases hn : args.all (noid 12) = true
  · rw [if_pos hn]
    unfold callA
    rw [if_pos hn]
    by_cases he : args0 = args
    · rw [if_pos he]; simp [EL, he]
    · rw [if_neg he]; simp [EL, he]
  · rw [if_neg hn]; rfl
theorem addDayP {k : Int} {t D Ms : Int} (ht : -100000000000000 ≤ t ∧ t ≤ 100000000000000) (hD : -1000000 ≤ D ∧ D ≤ 1000000) (hM : -1000000000000 ≤ Ms ∧ Ms ≤ 1000000000000) :
    MeetsP Tryz.prog (glT m) 21 [.s (rowAt k).name, .i .i64 t, durA 0 0 D Ms] (.tup [.i .i64 (t + D * 86400000 + Ms), .i .i64 0]) := by
  have hC := calAtP (m := m) k
  have hg := calAt_good (m := m) k
  have hq : chkDay (t / 86400000) = 0 := chkDay_ok (by omega) (by omega)
  obtain ⟨N, E, hm⟩ := moved hg hq
  have hz := hm.zero
  have h := addP hg hq hm (Y := 0) (M := 0) (by omega) (by omega) (D := D) (Ms := Ms) (by omega) (by omega)
  unfold spR at h
  rw [hz.1, hz.2, if_neg (by simp), if_neg (by rw [chkDay_ok (by omega) (by omega)]; simp), if_neg (by rw [chkDay_ok (by omega) (by omega)]; simp), show (t / 86400000 + D) * 86400000 + t % 86400000 + Ms = t + D * 86400000 + Ms by omega] at h
  exact spanAddP (m := m) (by unfold inLen; omega) hC h
set_option maxRecDepth 100000 in
set_option maxHeartbeats 8000000 in
theorem spanStepsP (k t x1 x2 x3 x4 y1 y2 y3 y4 : Int) : MeetsP Tryz.prog (glT m) 7 [.i .i64 k, .i .i64 t, lenA4 x1 x2 x3 x4, lenA4 y1 y2 y3 y4] (.b true) := by
  have hone := spanTextP (m := m) (a := 0) (b := 0) (c := 0) (d := 0) (by unfold inLen; omega)
  rw [show durT (durV 0 0 0 0) = [48, 100] from rfl] at hone
  have hn := nameP (m := m) k
  have c0 := kcutP (m := m) (a := t) (lo := -8640000000000) (n := 17280000000000) (by omega) (by omega) (by omega) (by omega)
  have c1 := kcutP (m := m) (a := x3) (lo := -5000) (n := 10001) (by omega) (by omega) (by omega) (by omega)
  have c2 := kcutP (m := m) (a := x4) (lo := -86400000) (n := 172800000) (by omega) (by omega) (by omega) (by omega)
  have c3 := kcutP (m := m) (a := y3) (lo := -5000) (n := 10001) (by omega) (by omega) (by omega) (by omega)
  have c4 := kcutP (m := m) (a := y4) (lo := -86400000) (n := 172800000) (by omega) (by omega) (by omega) (by omega)
  have b0 : -8640000000000 ≤ -8640000000000 + t % 17280000000000 ∧ -8640000000000 + t % 17280000000000 ≤ 8640000000000 := by omega
  have b1 : -5000 ≤ -5000 + x3 % 10001 ∧ -5000 + x3 % 10001 ≤ 5001 := by omega
  have b2 : -86400000 ≤ -86400000 + x4 % 172800000 ∧ -86400000 + x4 % 172800000 ≤ 86400000 := by omega
  have b3 : -5000 ≤ -5000 + y3 % 10001 ∧ -5000 + y3 % 10001 ≤ 5001 := by omega
  have b4 : -86400000 ≤ -86400000 + y4 % 172800000 ∧ -86400000 + y4 % 172800000 ≤ 86400000 := by omega
  generalize -8640000000000 + t % 17280000000000 = T at *
  generalize -5000 + x3 % 10001 = X at *
  generalize -86400000 + x4 % 172800000 = U at *
  generalize -5000 + y3 % 10001 = Y at *
  generalize -86400000 + y4 % 172800000 = V at *
  have a1 := addDayP (m := m) (k := k) (t := T) (D := X) (Ms := U) (by omega) (by omega) (by omega)
  have a2 := addDayP (m := m) (k := k) (t := T + X * 86400000 + U) (D := Y) (Ms := V) (by omega) (by omega) (by omega)
  have a3 := addDayP (m := m) (k := k) (t := T) (D := X + Y) (Ms := U + V) (by omega) (by omega) (by omega)
  rw [show T + (X + Y) * 86400000 + (U + V) = T + X * 86400000 + U + Y * 86400000 + V by omega] at a3
  have s1 := spanTextP (m := m) (a := 0) (b := 0) (c := X) (d := U) (by unfold inLen; omega)
  have s2 := spanReadP (m := m) (a := 0) (b := 0) (c := X) (d := U) (by unfold inLen; omega)
  generalize durT (durV 0 0 X U) = S at *
  generalize T + X * 86400000 + U = T1 at *
  generalize T1 + Y * 86400000 + V = T2 at *
  unfold durA at *
  unfold lenA4
  refine meetsP (E := (EW m)) 103 [.tmp 8] (ew m) Tryz.func7 rfl (by decide) rfl rfl (by simp) ?_
  have d1 : ¬ ([AV.i .i64 x3, .i .i64 (-5000), .i .i64 10001] = [.i .i64 x4, .i .i64 (-86400000), .i .i64 172800000]) := fun q => by simp at q
  have d2 : ¬ ([AV.i .i64 y3, .i .i64 (-5000), .i .i64 10001] = [.i .i64 y4, .i .i64 (-86400000), .i .i64 172800000]) := fun q => by simp at q
  repeat' first
    | ((with_reducible refine wr_isCall ?_); refine wr_P hone rfl ?_)
    | ((with_reducible refine wr_isCall ?_); refine wr_P c0 rfl ?_)
    | (with_reducible refine t_seq ?_)
    | (with_reducible refine t_skip ?_)
    | (with_reducible refine t_ret ?_)
    | (with_reducible refine t_end ?_)
    | (with_reducible refine t_cond ?_)
    | (with_reducible refine t_region ?_)
    | (with_reducible refine wr_done ?_)
    | fail
    | (with_reducible refine WD.done _ ?_)
    | (with_reducible refine wdp_done ?_)
    | (with_reducible refine tr_some ?_)
    | ((fail_if_success with_reducible refine t_bl ?_); (with_reducible refine t_block ?_))
    | (with_reducible refine t_inBlock ?_)
    | ((with_reducible refine t_isExit ?_); refine t_exit rfl ?_)
    | simp only [decide_eq_true_eq, decide_eq_false_iff_not, Bool.not_eq_true', Bool.not_eq_false'] at *
    | simp (disch := omega) only [go_sem, Nat.reduceLT, Nat.reduceEqDiff, Nat.reduceAdd, Nat.reduceLeDiff, Nat.reduceMul, Int.reduceLT, Int.reduceLE, Int.reduceAdd, Int.reduceSub, Int.reduceNeg, Int.reduceToNat, Int.reduceBEq, Int.reduceEq, reduceCtorEq, List.take_succ_cons, List.take_zero, List.take_nil, List.drop_succ_cons, List.drop_nil, List.cons_append, List.nil_append, List.set_cons_zero, List.set_cons_succ, ↓reduceIte, *]
    | (with_reducible refine tb_true ?_)
    | (with_reducible refine tb_false ?_)
    | (with_reducible refine tb_split (fun _ => ?_) (fun _ => ?_))
    | (with_reducible refine wg_f (fun _ => ?_) (fun _ => ?_))
    | (with_reducible refine wg_t (fun _ => ?_) (fun _ => ?_))
    | (with_reducible refine wd_f (fun _ => ?_) (fun _ => ?_))
    | (with_reducible refine wd_t (fun _ => ?_) (fun _ => ?_))
  refine t_draw2 c1 c2 (by kernel_rfl) ?_
  repeat' first
    | (with_reducible refine t_seq ?_)
    | (with_reducible refine t_skip ?_)
    | (with_reducible refine t_ret ?_)
    | (with_reducible refine t_end ?_)
    | (with_reducible refine t_cond ?_)
    | (with_reducible refine t_region ?_)
    | (with_reducible refine wr_done ?_)
    | fail
    | (with_reducible refine WD.done _ ?_)
    | (with_reducible refine wdp_done ?_)
    | (with_reducible refine tr_some ?_)
    | ((fail_if_success with_reducible refine t_bl ?_); (with_reducible refine t_block ?_))
    | (with_reducible refine t_inBlock ?_)
    | ((with_reducible refine t_isExit ?_); refine t_exit rfl ?_)
    | simp only [decide_eq_true_eq, decide_eq_false_iff_not, Bool.not_eq_true', Bool.not_eq_false'] at *
    | simp (disch := omega) only [go_sem, Nat.reduceLT, Nat.reduceEqDiff, Nat.reduceAdd, Nat.reduceLeDiff, Nat.reduceMul, Int.reduceLT, Int.reduceLE, Int.reduceAdd, Int.reduceSub, Int.reduceNeg, Int.reduceToNat, Int.reduceBEq, Int.reduceEq, reduceCtorEq, List.take_succ_cons, List.take_zero, List.take_nil, List.drop_succ_cons, List.drop_nil, List.cons_append, List.nil_append, List.set_cons_zero, List.set_cons_succ, ↓reduceIte, *]
    | (with_reducible refine tb_true ?_)
    | (with_reducible refine tb_false ?_)
    | (with_reducible refine tb_split (fun _ => ?_) (fun _ => ?_))
    | (with_reducible refine wg_f (fun _ => ?_) (fun _ => ?_))
    | (with_reducible refine wg_t (fun _ => ?_) (fun _ => ?_))
    | (with_reducible refine wd_f (fun _ => ?_) (fun _ => ?_))
    | (with_reducible refine wd_t (fun _ => ?_) (fun _ => ?_))
  refine t_draw2 c3 c4 (by kernel_rfl) ?_
  repeat' first
    | (with_reducible refine t_seq ?_)
    | (with_reducible refine t_skip ?_)
    | (with_reducible refine t_ret ?_)
    | (with_reducible refine t_end ?_)
    | (with_reducible refine t_cond ?_)
    | (with_reducible refine t_region ?_)
    | (with_reducible refine wr_done ?_)
    | fail
    | (with_reducible refine WD.done _ ?_)
    | (with_reducible refine wdp_done ?_)
    | (with_reducible refine tr_some ?_)
    | ((fail_if_success with_reducible refine t_bl ?_); (with_reducible refine t_block ?_))
    | (with_reducible refine t_inBlock ?_)
    | ((with_reducible refine t_isExit ?_); refine t_exit rfl ?_)
    | simp only [decide_eq_true_eq, decide_eq_false_iff_not, Bool.not_eq_true', Bool.not_eq_false'] at *
    | simp (disch := omega) only [go_sem, Nat.reduceLT, Nat.reduceEqDiff, Nat.reduceAdd, Nat.reduceLeDiff, Nat.reduceMul, Int.reduceLT, Int.reduceLE, Int.reduceAdd, Int.reduceSub, Int.reduceNeg, Int.reduceToNat, Int.reduceBEq, Int.reduceEq, reduceCtorEq, List.take_succ_cons, List.take_zero, List.take_nil, List.drop_succ_cons, List.drop_nil, List.cons_append, List.nil_append, List.set_cons_zero, List.set_cons_succ, ↓reduceIte, *]
    | (with_reducible refine tb_true ?_)
    | (with_reducible refine tb_false ?_)
    | (with_reducible refine tb_split (fun _ => ?_) (fun _ => ?_))
    | (with_reducible refine wg_f (fun _ => ?_) (fun _ => ?_))
    | (with_reducible refine wg_t (fun _ => ?_) (fun _ => ?_))
    | (with_reducible refine wd_f (fun _ => ?_) (fun _ => ?_))
    | (with_reducible refine wd_t (fun _ => ?_) (fun _ => ?_))
  refine t_draw2 hn a1 (by kernel_rfl) ?_
  repeat' first
    | (with_reducible refine t_seq ?_)
    | (with_reducible refine t_skip ?_)
    | (with_reducible refine t_ret ?_)
    | (with_reducible refine t_end ?_)
    | (with_reducible refine t_cond ?_)
    | (with_reducible refine t_region ?_)
    | (with_reducible refine wr_done ?_)
    | fail
    | (with_reducible refine WD.done _ ?_)
    | (with_reducible refine wdp_done ?_)
    | (with_reducible refine tr_some ?_)
    | ((fail_if_success with_reducible refine t_bl ?_); (with_reducible refine t_block ?_))
    | (with_reducible refine t_inBlock ?_)
    | ((with_reducible refine t_isExit ?_); refine t_exit rfl ?_)
    | simp only [decide_eq_true_eq, decide_eq_false_iff_not, Bool.not_eq_true', Bool.not_eq_false'] at *
    | simp (disch := omega) only [go_sem, Nat.reduceLT, Nat.reduceEqDiff, Nat.reduceAdd, Nat.reduceLeDiff, Nat.reduceMul, Int.reduceLT, Int.reduceLE, Int.reduceAdd, Int.reduceSub, Int.reduceNeg, Int.reduceToNat, Int.reduceBEq, Int.reduceEq, reduceCtorEq, List.take_succ_cons, List.take_zero, List.take_nil, List.drop_succ_cons, List.drop_nil, List.cons_append, List.nil_append, List.set_cons_zero, List.set_cons_succ, ↓reduceIte, *]
    | (with_reducible refine tb_true ?_)
    | (with_reducible refine tb_false ?_)
    | (with_reducible refine tb_split (fun _ => ?_) (fun _ => ?_))
    | (with_reducible refine wg_f (fun _ => ?_) (fun _ => ?_))
    | (with_reducible refine wg_t (fun _ => ?_) (fun _ => ?_))
    | (with_reducible refine wd_f (fun _ => ?_) (fun _ => ?_))
    | (with_reducible refine wd_t (fun _ => ?_) (fun _ => ?_))
  refine t_draw2 hn a2 (by kernel_rfl) ?_
  repeat' first
    | (with_reducible refine t_seq ?_)
    | (with_reducible refine t_skip ?_)
    | (with_reducible refine t_ret ?_)
    | (with_reducible refine t_end ?_)
    | (with_reducible refine t_cond ?_)
    | (with_reducible refine t_region ?_)
    | (with_reducible refine wr_done ?_)
    | fail
    | (with_reducible refine WD.done _ ?_)
    | (with_reducible refine wdp_done ?_)
    | (with_reducible refine tr_some ?_)
    | ((fail_if_success with_reducible refine t_bl ?_); (with_reducible refine t_block ?_))
    | (with_reducible refine t_inBlock ?_)
    | ((with_reducible refine t_isExit ?_); refine t_exit rfl ?_)
    | simp only [decide_eq_true_eq, decide_eq_false_iff_not, Bool.not_eq_true', Bool.not_eq_false'] at *
    | simp (disch := omega) only [go_sem, Nat.reduceLT, Nat.reduceEqDiff, Nat.reduceAdd, Nat.reduceLeDiff, Nat.reduceMul, Int.reduceLT, Int.reduceLE, Int.reduceAdd, Int.reduceSub, Int.reduceNeg, Int.reduceToNat, Int.reduceBEq, Int.reduceEq, reduceCtorEq, List.take_succ_cons, List.take_zero, List.take_nil, List.drop_succ_cons, List.drop_nil, List.cons_append, List.nil_append, List.set_cons_zero, List.set_cons_succ, ↓reduceIte, *]
    | (with_reducible refine tb_true ?_)
    | (with_reducible refine tb_false ?_)
    | (with_reducible refine tb_split (fun _ => ?_) (fun _ => ?_))
    | (with_reducible refine wg_f (fun _ => ?_) (fun _ => ?_))
    | (with_reducible refine wg_t (fun _ => ?_) (fun _ => ?_))
    | (with_reducible refine wd_f (fun _ => ?_) (fun _ => ?_))
    | (with_reducible refine wd_t (fun _ => ?_) (fun _ => ?_))
  refine t_draw2 hn a3 (by kernel_rfl) ?_
  repeat' first
    | ((with_reducible refine wr_isCall ?_); refine wr_P s1 rfl ?_)
    | ((with_reducible refine wr_isCall ?_); refine wr_P s2 rfl ?_)
    | (with_reducible refine t_seq ?_)
    | (with_reducible refine t_skip ?_)
    | (with_reducible refine t_ret ?_)
    | (with_reducible refine t_end ?_)
    | (with_reducible refine t_cond ?_)
    | (with_reducible refine t_region ?_)
    | (with_reducible refine wr_done ?_)
    | fail
    | (with_reducible refine WD.done _ ?_)
    | (with_reducible refine wdp_done ?_)
    | (with_reducible refine tr_some ?_)
    | ((fail_if_success with_reducible refine t_bl ?_); (with_reducible refine t_block ?_))
    | (with_reducible refine t_inBlock ?_)
    | ((with_reducible refine t_isExit ?_); refine t_exit rfl ?_)
    | simp only [decide_eq_true_eq, decide_eq_false_iff_not, Bool.not_eq_true', Bool.not_eq_false'] at *
    | simp (disch := omega) only [go_sem, Nat.reduceLT, Nat.reduceEqDiff, Nat.reduceAdd, Nat.reduceLeDiff, Nat.reduceMul, Int.reduceLT, Int.reduceLE, Int.reduceAdd, Int.reduceSub, Int.reduceNeg, Int.reduceToNat, Int.reduceBEq, Int.reduceEq, reduceCtorEq, List.take_succ_cons, List.take_zero, List.take_nil, List.drop_succ_cons, List.drop_nil, List.cons_append, List.nil_append, List.set_cons_zero, List.set_cons_succ, ↓reduceIte, *]
    | (with_reducible refine tb_true ?_)
    | (with_reducible refine tb_false ?_)
    | (with_reducible refine tb_split (fun _ => ?_) (fun _ => ?_))
    | (with_reducible refine wg_f (fun _ => ?_) (fun _ => ?_))
    | (with_reducible refine wg_t (fun _ => ?_) (fun _ => ?_))
    | (with_reducible refine wd_f (fun _ => ?_) (fun _ => ?_))
    | (with_reducible refine wd_t (fun _ => ?_) (fun _ => ?_))
  all_goals first | (exfalso; omega) | exact ⟨rfl, rfl⟩ | skip
end Go.Proofs.YtkokongbnemkhaaGreatDoorA
