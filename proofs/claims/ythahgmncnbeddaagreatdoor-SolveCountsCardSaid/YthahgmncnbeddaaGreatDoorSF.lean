/- feast.Check of whatever a feast is. -/
import Derived.Test.YthahgmncnbeddaaGreatDoorPS18
import Derived.Test.YthahgmncnbeddaaGreatDoorPS19
import Derived.Test.YthahgmncnbeddaaGreatDoorSE
set_option linter.unusedVariables false
set_option linter.unusedSimpArgs false
namespace Go.Proofs.YthahgmncnbeddaaGreatDoorA
open Go Go.RowKit Go.Proofs.YthahgmncnbeddaaGreatDoorFx Go.Proofs
attribute [local go_sem] List.take_succ_cons List.take_zero List.take_nil List.drop_succ_cons List.drop_nil List.cons_append List.nil_append List.set_cons_zero List.set_cons_succ
variable {m : Int}
/-- How many kids a kind has. -/
def kidN (k : Int) : Nat := if k = 7 ∨ k = 8 ∨ k = 12 then 1 else if k = 9 ∨ k = 10 ∨ k = 11 then 2 else 0
set_option maxRecDepth 100000 in
set_option maxHeartbeats 8000000 in
theorem ckLen {k a b d ab q : Int} {nm : List UInt8} {ks : List (List AV)} (h1 : 1 ≤ d) (h2 : d ≤ 10) (h3 : 0 ≤ q) (h4 : q ≤ 39) (hh : ¬ ((k = 8 ∨ k = 12) ∧ ab = 2)) (hk1 : 1 ≤ k) (hk2 : k ≤ 12) (hks : ¬ (ks.length : Int) = kidN k) (c : List (Nat × Ent)) (id n : Nat) (hl : look c id = some (.rows 1 [[.i .i64 q]])) (hid : id < n) :
    MeetsH (EG (glF m)) 34 [.ptr id 0 0, .agg [.i .i64 k, .i .i64 a, .i .i64 b, .s nm, .isl false 5 ks], .i .i64 d, .i .i64 ab] ⟨c, n⟩ (RetG (.i .i64 8) (upd c id (.rows 1 [[.i .i64 (q + 1)]])) n) := by
  refine grow_forget ?_
  have hu : ∀ k l, look (upd c id (.rows k l)) id = some (.rows k l) := fun k l => look_updR k l hl
  have hne : ¬ n = id := by omega
  have hv := heavyP (m := m) k
  have c1 : ¬ 40 < q + 1 := by omega
  have c2 : ¬ 10 < d := by omega
  have c4 : ¬ k < 1 := by omega
  have c5 : ¬ 12 < k := by omega
  have c6 : 0 ≤ k := by omega
  have c7 : k < 13 := by omega
  have hkid : fkT[k.toNat]? = some (.i .i64 (kidN k : Int)) := by
    have key : ∀ i : _root_.Fin 12, fkT[((i.val : Int) + 1).toNat]? = some (.i .i64 (kidN ((i.val : Int) + 1) : Int)) := by
      intro i
      match i with
      | ⟨0, _⟩ => rfl
      | ⟨1, _⟩ => rfl
      | ⟨2, _⟩ => rfl
      | ⟨3, _⟩ => rfl
      | ⟨4, _⟩ => rfl
      | ⟨5, _⟩ => rfl
      | ⟨6, _⟩ => rfl
      | ⟨7, _⟩ => rfl
      | ⟨8, _⟩ => rfl
      | ⟨9, _⟩ => rfl
      | ⟨10, _⟩ => rfl
      | ⟨11, _⟩ => rfl
    have := key ⟨(k - 1).toNat, by omega⟩
    have e : (((k - 1).toNat : Nat) : Int) + 1 = k := by omega
    simp only [e] at this
    exact this
  generalize (kidN k : Int) = kn at *
  by_cases hb : (decide (k = 8) || decide (k = 12)) = true
  · have c3 : ¬ ab = 2 := fun q => hh ⟨by simpa using hb, q⟩
    rw [hb] at hv
    clear hb hh hk1 hk2
    refine meetsH (E := (EG (glF m))) 280 [.tmp 8] Tryz.func34 rfl (by decide) rfl rfl (by simp) ?_
    repeat' first | ((with_reducible refine wr_isCall ?_); refine wr_P hv rfl ?_) | (with_reducible first | refine t_seq ?_ | refine t_skip ?_ | refine t_ret ?_ | refine t_end ?_ | refine t_cond ?_ | refine t_region ?_ | refine wr_done ?_ | refine WD.done _ ?_ | refine wdp_done ?_ | refine wdg_done ?_ | refine tr_some ?_ | refine t_inBlock ?_) | ((with_reducible refine t_isDraw ?_); refine t_draw rfl (by kernel_rfl) ?_) | ((fail_if_success with_reducible refine t_bl ?_); (with_reducible refine t_block ?_)) | ((with_reducible refine t_isExit ?_); refine t_exit rfl ?_) | simp only [decide_eq_true_eq, decide_eq_false_iff_not, Bool.not_eq_true', Bool.not_eq_false'] at * | simp (disch := omega) only [go_sem, Nat.reduceLT, Nat.reduceEqDiff, Nat.reduceAdd, Nat.reduceLeDiff, Nat.reduceMul, Int.reduceLT, Int.reduceLE, Int.reduceAdd, Int.reduceSub, Int.reduceNeg, Int.reduceToNat, Int.reduceBEq, Int.reduceEq, reduceCtorEq, ↓reduceIte, *] | (with_reducible first | refine tb_true ?_ | refine tb_false ?_) | ((with_reducible first | refine tb_split ?_ ?_ | refine wg_f ?_ ?_ | refine wg_t ?_ ?_ | refine wd_f ?_ ?_ | refine wd_t ?_ ?_) <;> intro _)
    all_goals first | (exfalso; omega) | skip
    all_goals exact ⟨1, rfl, by first | omega | (simp only; omega)⟩
  · rw [Bool.not_eq_true] at hb
    rw [hb] at hv
    clear hb hh hk1 hk2
    refine meetsH (E := (EG (glF m))) 280 [.tmp 8] Tryz.func34 rfl (by decide) rfl rfl (by simp) ?_
    repeat' first | ((with_reducible refine wr_isCall ?_); refine wr_P hv rfl ?_) | (with_reducible first | refine t_seq ?_ | refine t_skip ?_ | refine t_ret ?_ | refine t_end ?_ | refine t_cond ?_ | refine t_region ?_ | refine wr_done ?_ | refine WD.done _ ?_ | refine wdp_done ?_ | refine wdg_done ?_ | refine tr_some ?_ | refine t_inBlock ?_) | ((with_reducible refine t_isDraw ?_); refine t_draw rfl (by kernel_rfl) ?_) | ((fail_if_success with_reducible refine t_bl ?_); (with_reducible refine t_block ?_)) | ((with_reducible refine t_isExit ?_); refine t_exit rfl ?_) | simp only [decide_eq_true_eq, decide_eq_false_iff_not, Bool.not_eq_true', Bool.not_eq_false'] at * | simp (disch := omega) only [go_sem, Nat.reduceLT, Nat.reduceEqDiff, Nat.reduceAdd, Nat.reduceLeDiff, Nat.reduceMul, Int.reduceLT, Int.reduceLE, Int.reduceAdd, Int.reduceSub, Int.reduceNeg, Int.reduceToNat, Int.reduceBEq, Int.reduceEq, reduceCtorEq, ↓reduceIte, *] | (with_reducible first | refine tb_true ?_ | refine tb_false ?_) | ((with_reducible first | refine tb_split ?_ ?_ | refine wg_f ?_ ?_ | refine wg_t ?_ ?_ | refine wd_f ?_ ?_ | refine wd_t ?_ ?_) <;> intro _)
    all_goals first | (exfalso; omega) | skip
    all_goals exact ⟨1, rfl, by first | omega | (simp only; omega)⟩
theorem FeR.row {r : List AV} (h : FeR r) : ∃ k a b nm ks, r = [.i .i64 k, .i .i64 a, .i .i64 b, .s nm, .isl false 5 ks] := by
  cases h; exact ⟨_, _, _, _, _, rfl⟩
theorem ckLeafTo {k a b d ab q : Int} {nm : List UInt8} (h2 : d ≤ 10) (h3 : 0 ≤ q) (h4 : q ≤ 39) (h : ∃ e : Int, (e = 0 → (Fs.leaf k a b nm).st m ab) ∧ ((Fs.leaf k a b nm).st m ab → e = 0) ∧ ∀ (c : List (Nat × Ent)) (id n : Nat), look c id = some (.rows 1 [[.i .i64 q]]) → id < n →
    MeetsH (EG (glF m)) 34 [.ptr id 0 0, .agg [.i .i64 k, .i .i64 a, .i .i64 b, .s nm, .isl false 5 []], .i .i64 d, .i .i64 ab] ⟨c, n⟩ (RetG (.i .i64 e) (upd c id (.rows 1 [[.i .i64 (q + 1)]])) n)) :
    ∃ e q' : Int, 0 ≤ q' ∧ q' ≤ 41 ∧ (e = 0 → q' ≤ 40 ∧ ∃ t : Fs, t.row = [.i .i64 k, .i .i64 a, .i .i64 b, .s nm, .isl false 5 []] ∧ t.st m ab ∧ q' = q + t.size ∧ d + t.depth ≤ 11) ∧ CkUp m [.i .i64 k, .i .i64 a, .i .i64 b, .s nm, .isl false 5 []] d ab q e ∧
      ∀ (c : List (Nat × Ent)) (id n : Nat), look c id = some (.rows 1 [[.i .i64 q]]) → id < n → MeetsH (EG (glF m)) 34 [.ptr id 0 0, .agg [.i .i64 k, .i .i64 a, .i .i64 b, .s nm, .isl false 5 []], .i .i64 d, .i .i64 ab] ⟨c, n⟩ (RetG (.i .i64 e) (upd c id (.rows 1 [[.i .i64 q']])) n) := by
  obtain ⟨e, h5, h7, h6⟩ := h
  exact ⟨e, q + 1, by omega, by omega, fun he => ⟨by omega, .leaf k a b nm, rfl, h5 he, by simp only [Fs.size]; omega, by simp only [Fs.depth]; omega⟩, (fun ⟨t, ht, hs, _, _⟩ => h7 (row_leaf ht ▸ hs)), h6⟩
theorem st_kid {t : Fs} {k a b ab : Int} {nm : List UInt8} {ks : List (List AV)} (h : t.st m ab) (hr : t.row = [.i .i64 k, .i .i64 a, .i .i64 b, .s nm, .isl false 5 ks]) : 1 ≤ k ∧ k ≤ 12 ∧ (ks.length : Int) = kidN k := by
  cases t with
  | leaf k' a' b' nm' =>
    simp only [Fs.row, List.cons.injEq, AV.i.injEq, AV.s.injEq, AV.isl.injEq, true_and, and_true] at hr
    obtain ⟨rfl, rfl, rfl, rfl, rfl⟩ := hr
    simp only [Fs.st] at h
    rcases h with h | h | h | h | h | h
    all_goals (obtain ⟨rfl, -⟩ := h; exact ⟨by omega, by omega, rfl⟩)
  | one k' a' b' nm' x =>
    simp only [Fs.row, List.cons.injEq, AV.i.injEq, AV.s.injEq, AV.isl.injEq, true_and, and_true] at hr
    obtain ⟨rfl, rfl, rfl, rfl, rfl⟩ := hr
    simp only [Fs.st] at h
    rcases h with h | h | h
    all_goals (obtain ⟨rfl, -⟩ := h; exact ⟨by omega, by omega, rfl⟩)
  | two k' a' b' nm' x y =>
    simp only [Fs.row, List.cons.injEq, AV.i.injEq, AV.s.injEq, AV.isl.injEq, true_and, and_true] at hr
    obtain ⟨rfl, rfl, rfl, rfl, rfl⟩ := hr
    simp only [Fs.st] at h
    obtain ⟨h, -⟩ := h
    rcases h with rfl | rfl | rfl
    all_goals exact ⟨by omega, by omega, rfl⟩
theorem st_big {t : Fs} {k a b ab d q : Int} {nm : List UInt8} (h : t.st m ab) (h1 : q + t.size ≤ 40) (h2 : d + t.depth ≤ 11) (hb : 40 < q + 1 ∨ 10 < d ∨ ((k = 8 ∨ k = 12) ∧ ab = 2)) (ks : List (List AV)) : ¬ t.row = [.i .i64 k, .i .i64 a, .i .i64 b, .s nm, .isl false 5 ks] := by
  intro hr
  have := t.pos
  rcases hb with hb | hb | ⟨hb, rfl⟩
  · omega
  · omega
  cases t with
  | leaf k' a' b' nm' =>
    simp only [Fs.row, List.cons.injEq, AV.i.injEq, AV.s.injEq, AV.isl.injEq, true_and, and_true] at hr
    obtain ⟨rfl, rfl, rfl, rfl, rfl⟩ := hr
    simp only [Fs.st] at h
    omega
  | one k' a' b' nm' x =>
    simp only [Fs.row, List.cons.injEq, AV.i.injEq, AV.s.injEq, AV.isl.injEq, true_and, and_true] at hr
    obtain ⟨rfl, rfl, rfl, rfl, rfl⟩ := hr
    simp only [Fs.st] at h
    rcases h with h | h | h
    · omega
    · omega
    · omega
  | two k' a' b' nm' x y =>
    simp only [Fs.row, List.cons.injEq, AV.i.injEq, AV.s.injEq, AV.isl.injEq, true_and, and_true] at hr
    obtain ⟨rfl, rfl, rfl, rfl, rfl⟩ := hr
    simp only [Fs.st] at h
    omega
theorem ckAll {r : List AV} (h : FeR r) : CkOk m r := by
  induction h with
  | mk k a b nm ks hk ha hb hr hl ih =>
  intro d ab q h1 h2 h3 h4 h5 h6
  by_cases hbig : 40 < q + 1 ∨ 10 < d ∨ ((k = 8 ∨ k = 12) ∧ ab = 2)
  · exact ⟨2, q + 1, by omega, by omega, (fun h => absurd h (by decide)), (fun ⟨t, ht, hs, p1, p2⟩ => absurd ht (st_big hs p1 p2 hbig ks)), fun c id n hl hid => ckBig h1 h2 h5 h6 hbig c id n hl hid⟩
  have g1 : q ≤ 39 := by omega
  have g2 : d ≤ 10 := by omega
  have g3 : ¬ ((k = 8 ∨ k = 12) ∧ ab = 2) := by omega
  clear hbig
  by_cases hout : k < 1 ∨ 12 < k
  · exact ⟨8, q + 1, by omega, by omega, (fun h => absurd h (by decide)), (fun ⟨t, ht, hs, _, _⟩ => absurd (st_kid hs ht) (by omega)), fun c id n hl hid => ckOut h1 g2 h5 g1 hout c id n hl hid⟩
  by_cases hlen : (ks.length : Int) = kidN k
  case neg => exact ⟨8, q + 1, by omega, by omega, (fun h => absurd h (by decide)), (fun ⟨t, ht, hs, _, _⟩ => absurd (st_kid hs ht).2.2 hlen), fun c id n hl hid => ckLen h1 g2 h5 g1 g3 (by omega) (by omega) hlen c id n hl hid⟩
  have hcase : k = 1 ∨ k = 2 ∨ k = 3 ∨ k = 4 ∨ k = 5 ∨ k = 6 ∨ k = 7 ∨ k = 8 ∨ k = 9 ∨ k = 10 ∨ k = 11 ∨ k = 12 := by omega
  have zero : kidN k = 0 → ks = [] := fun e => List.length_eq_zero_iff.1 (by omega)
  have one1 : kidN k = 1 → ∃ xk xa xb xn xs, ks = [[.i .i64 xk, .i .i64 xa, .i .i64 xb, .s xn, .isl false 5 xs]] := fun e => by
    obtain ⟨x, hx⟩ := List.length_eq_one_iff.1 (show ks.length = 1 by omega)
    obtain ⟨xk, xa, xb, xn, xs, e⟩ := (hr x (by rw [hx]; simp)).row
    exact ⟨xk, xa, xb, xn, xs, by rw [hx, e]⟩
  have two2 : kidN k = 2 → ∃ xk xa xb xn xs yk ya yb yn ys, ks = [[.i .i64 xk, .i .i64 xa, .i .i64 xb, .s xn, .isl false 5 xs], [.i .i64 yk, .i .i64 ya, .i .i64 yb, .s yn, .isl false 5 ys]] := fun e => by
    match ks, (show ks.length = 2 by omega) with
    | [x, y], _ =>
      obtain ⟨xk, xa, xb, xn, xs, e1⟩ := (hr x (by simp)).row
      obtain ⟨yk, ya, yb, yn, ys, e2⟩ := (hr y (by simp)).row
      exact ⟨xk, xa, xb, xn, xs, yk, ya, yb, yn, ys, by rw [e1, e2]⟩
  rcases hcase with rfl | rfl | rfl | rfl | rfl | rfl | rfl | rfl | rfl | rfl | rfl | rfl
  · rw [zero rfl]; exact ckLeafTo g2 h5 g1 (ckL1 h1 g2 h5 g1)
  · rw [zero rfl]; exact ckLeafTo g2 h5 g1 (ckL2 h1 g2 h5 g1)
  · rw [zero rfl]; exact ckLeafTo g2 h5 g1 (ckL3 h1 g2 h5 g1)
  · rw [zero rfl]; exact ckLeafTo g2 h5 g1 (ckL4 h1 g2 h5 g1)
  · rw [zero rfl]; exact ckLeafTo g2 h5 g1 (ckL5 h1 g2 h5 g1)
  · rw [zero rfl]; exact ckLeafTo g2 h5 g1 (ckL6 h1 g2 h5 g1)
  · obtain ⟨xk, xa, xb, xn, xs, rfl⟩ := one1 rfl
    exact ckN7 (ih _ (by simp)) h1 g2 h5 g1 h3 h4
  · obtain ⟨xk, xa, xb, xn, xs, rfl⟩ := one1 rfl
    exact ckN8 (ih _ (by simp)) h1 g2 h5 g1 h3 (by omega)
  · obtain ⟨xk, xa, xb, xn, xs, yk, ya, yb, yn, ys, rfl⟩ := two2 rfl
    exact ckN9 (ih _ (by simp)) (ih _ (by simp)) h1 g2 h5 g1 h3 h4
  · obtain ⟨xk, xa, xb, xn, xs, yk, ya, yb, yn, ys, rfl⟩ := two2 rfl
    exact ckN10 (ih _ (by simp)) (ih _ (by simp)) h1 g2 h5 g1 h3 h4
  · obtain ⟨xk, xa, xb, xn, xs, yk, ya, yb, yn, ys, rfl⟩ := two2 rfl
    exact ckN11 (ih _ (by simp)) (ih _ (by simp)) h1 g2 h5 g1 h3 h4
  · obtain ⟨xk, xa, xb, xn, xs, rfl⟩ := one1 rfl
    exact ckN12 (ih _ (by simp)) h1 g2 h5 g1 h3 (by omega)
set_option maxRecDepth 100000 in
/-- What feast.Check answers; where it is OK, the set is well formed. -/
theorem checkF {r : List AV} (h : FeR r) : ∃ e : Int, MeetsP Tryz.prog (glF m) 15 [.agg r] (.i .i64 e) ∧ (e = 0 → ∃ t : Fs, t.row = r ∧ t.st m 0 ∧ t.depth ≤ 10 ∧ t.size ≤ 40) ∧ (∀ t : Fs, t.row = r → t.st m 0 → t.depth ≤ 10 → t.size ≤ 40 → e = 0) := by
  obtain ⟨e, q', p1, p2, p3, p5, p4⟩ := ckAll (m := m) h 1 0 0 (by omega) (by omega) (by omega) (by omega) (by omega) (by omega)
  refine ⟨e, ?_, fun he => ?_, fun t h1 h2 h3 h4 => p5 ⟨t, h1, h2, by omega, by omega⟩⟩
  · obtain ⟨k, a, b, nm, ks, rfl⟩ := h.row
    clear p1 p2 p3 p5 h
    refine meetsP (E := (EG (glF m))) 6 [.tmp 2] (eg (glF m)) Tryz.func15 rfl (by decide) rfl rfl (by simp) ?_
    repeat' first | ((with_reducible refine wr_isCall ?_); refine wr_grow (p4 _ _ _ (by simp (disch := omega) only [go_sem, ↓reduceIte]) (by omega)) (fun n' hn' => ?_)) | (with_reducible first | refine t_seq ?_ | refine t_skip ?_ | refine t_ret ?_ | refine t_end ?_ | refine t_cond ?_ | refine t_region ?_ | refine wr_done ?_ | refine WD.done _ ?_ | refine wdp_done ?_ | refine wdg_done ?_ | refine tr_some ?_ | refine t_inBlock ?_) | ((with_reducible refine t_isDraw ?_); refine t_draw rfl (by kernel_rfl) ?_) | ((fail_if_success with_reducible refine t_bl ?_); (with_reducible refine t_block ?_)) | ((with_reducible refine t_isExit ?_); refine t_exit rfl ?_) | simp only [decide_eq_true_eq, decide_eq_false_iff_not, Bool.not_eq_true', Bool.not_eq_false'] at * | simp (disch := omega) only [go_sem, Nat.reduceLT, Nat.reduceEqDiff, Nat.reduceAdd, Nat.reduceLeDiff, Nat.reduceMul, Int.reduceLT, Int.reduceLE, Int.reduceAdd, Int.reduceSub, Int.reduceNeg, Int.reduceToNat, Int.reduceBEq, Int.reduceEq, reduceCtorEq, ↓reduceIte, *] | (with_reducible first | refine tb_true ?_ | refine tb_false ?_) | ((with_reducible first | refine tb_split ?_ ?_ | refine wg_f ?_ ?_ | refine wg_t ?_ ?_ | refine wd_f ?_ ?_ | refine wd_t ?_ ?_) <;> intro _)
    exact ⟨rfl, rfl⟩
  · obtain ⟨q1, t, e1, e2, e3, e4⟩ := p3 he
    exact ⟨t, e1, e2, by omega, by omega⟩
end Go.Proofs.YthahgmncnbeddaaGreatDoorA
/- solve.Has of whatever a feast is. -/
set_option linter.unusedVariables false
set_option linter.unusedSimpArgs false
namespace Go.Proofs.YthahgmncnbeddaaGreatDoorA
open Go Go.RowKit Go.Proofs.YthahgmncnbeddaaGreatDoorFx Go.Proofs
variable {m : Int}
end Go.Proofs.YthahgmncnbeddaaGreatDoorA
/- Sets that a law builds itself. -/
set_option linter.unusedVariables false
set_option linter.unusedSimpArgs false
namespace Go.Proofs.YthahgmncnbeddaaGreatDoorA
open Go Go.RowKit Go.Proofs.YthahgmncnbeddaaGreatDoorFx Go.Proofs
variable {m : Int}
theorem MeetsP.nar1 {P : Program} {gl : Nat → Option (List AV)} {f : FuncId} {a a' : AV} {as' : List AV} {r : AV} (h : MeetsP P gl f (a :: as') r) (hw : Wk a' a) : MeetsP P gl f (a' :: as') r :=
  ⟨h.1, fun ok w vals q1 q2 q3 q4 => h.2 ok w vals q1 q2 q3 (fun j v b hv hb => by
    cases j with
    | zero => cases hb; exact hw ok w v (q4 0 v a' hv rfl)
    | succ j => exact q4 (j + 1) v b hv hb)⟩
/-- A fact that walks are not to look at. -/
def Hid (p : Prop) : Prop := p
theorem hid {p : Prop} (h : p) : Hid p := h
/-- Rows that read alike. -/
def WkR (r r' : List AV) : Prop := r.length = r'.length ∧ ∀ (j : Nat) a b, r[j]? = some a → r'[j]? = some b → Wk a b
theorem WkR.refl (r : List AV) : WkR r r := ⟨rfl, fun j a b h1 h2 => by rw [h1] at h2; cases h2; exact Wk.refl _⟩
theorem WkR.agg {r r' : List AV} (h : WkR r r') : Wk (.agg r) (.agg r') := Wk.agg h.1 h.2
theorem Wk.rows {nn : Bool} {k : Nat} {rows rows' : List (List AV)} (hl : rows.length = rows'.length) (h : ∀ (i : Nat) r r', rows[i]? = some r → rows'[i]? = some r' → WkR r r') : Wk (.isl nn k rows) (.isl false k rows') := fun ok w v rp => by
  have key : ∀ (i : Nat) (r' : List AV), rows'[i]? = some r' → ∃ r, rows[i]? = some r ∧ WkR r r' := fun i r' hi => by
    have q := (List.getElem?_eq_some_iff.1 hi).1
    exact ⟨rows[i], List.getElem?_eq_getElem (by omega), h i _ _ (List.getElem?_eq_getElem (by omega)) hi⟩
  cases rp with
  | isln _ k => have : rows' = [] := List.length_eq_zero_iff.1 hl.symm; subst this; exact .isln _ k
  | isle _ k A cap => have : rows' = [] := List.length_eq_zero_iff.1 hl.symm; subst this; exact .isle _ k A cap
  | isl _ nn k rows n bb o cap vs q1 q2 q3 q4 q5 =>
    refine .isl _ false k rows' n bb o cap vs (q1.trans hl) (hl ▸ q2) (fun row hr => ?_) (fun i row hr j hj => ?_) (fun i row hr j a ha => ?_)
    · obtain ⟨i, hi⟩ := List.mem_iff_getElem?.1 hr
      obtain ⟨r, hr, hw⟩ := key i row hi
      rw [← hw.1]
      exact q3 r (List.mem_of_getElem? hr)
    · obtain ⟨r, hr, hw⟩ := key i row hr
      exact q4 i r hr j (by rw [hw.1]; exact hj)
    · obtain ⟨r, hr, hw⟩ := key i row hr
      have hj := (List.getElem?_eq_some_iff.1 ha).1
      have hj2 : j < r.length := by rw [hw.1]; exact hj
      exact hw.2 j (r[j]'hj2) a (List.getElem?_eq_getElem hj2) ha ok w _ (q5 i r hr j _ (List.getElem?_eq_getElem hj2))
theorem WkR.feast {k a b : Int} {nm : List UInt8} {x y : AV} (h : Wk x y) : WkR [.i .i64 k, .i .i64 a, .i .i64 b, .s nm, x] [.i .i64 k, .i .i64 a, .i .i64 b, .s nm, y] := ⟨rfl, fun j p q h1 h2 => by
  match j, h1, h2 with
  | 0, h1, h2 => cases h1; cases h2; exact .refl _
  | 1, h1, h2 => cases h1; cases h2; exact .refl _
  | 2, h1, h2 => cases h1; cases h2; exact .refl _
  | 3, h1, h2 => cases h1; cases h2; exact .refl _
  | 4, h1, h2 => cases h1; cases h2; exact h
  | n + 5, h1, h2 => simp at h1⟩
end Go.Proofs.YthahgmncnbeddaaGreatDoorA
