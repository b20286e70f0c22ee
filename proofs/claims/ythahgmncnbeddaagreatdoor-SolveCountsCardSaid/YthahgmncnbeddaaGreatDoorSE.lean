/- The finder's days, whatever the set is. -/
import Derived.Test.YthahgmncnbeddaaGreatDoorPS12
import Derived.Test.YthahgmncnbeddaaGreatDoorPS13
import Derived.Test.YthahgmncnbeddaaGreatDoorNA
set_option linter.unusedVariables false
set_option linter.unusedSimpArgs false
namespace Go.Proofs.YthahgmncnbeddaaGreatDoorA
open Go Go.RowKit Go.Proofs.YthahgmncnbeddaaGreatDoorFx Go.Proofs
attribute [local go_sem] List.take_succ_cons List.take_zero List.take_nil List.drop_succ_cons List.drop_nil List.cons_append List.nil_append List.set_cons_zero List.set_cons_succ
variable {m : Int}
set_option maxRecDepth 100000 in
set_option maxHeartbeats 4000000 in
theorem days12 {a b : Int} {nm : List UInt8} {x : Fs} (hnm : ¬ Unknown nm) (ha1 : -50 ≤ a) (ha2 : a ≤ 50) (ha0 : a ≠ 0) (ih : DaysOk m x) : DaysOk m (.one 12 a b nm x) := by
  intro lo hi N hN b1 b2 b3 b4 L hL fid bb n hb hn
  simp only [Fs.depth, Fs.size] at b1 b2 b3 hL
  obtain ⟨c1, n1, p1, p2, p3, p4, p5, p6, h1⟩ := nthP (m := m) (a := a) (b := b) hnm ha1 ha2 ha0 ih lo hi N hN (by omega) (by omega) (by omega) b4 L (by omega) fid bb (n + 1 + 1) (n + 1 + 1 + 1 + 1) hb (by omega) (by omega) (by omega) (by omega) (by omega)
  refine ⟨n + 2, c1, n1, by omega, by omega, by omega, by omega, by omega, by omega, by omega, by omega, MeetsH.subI ?_⟩
  rw [show Fs.add (.one 12 a b nm x) L = x.add (addN L nm) from if_pos rfl]
  have k1 := h1.frameI [(n + 1 + 1 + 1, .rows 1 [[.osl (n + 1 + 1) 0 N]])]
  simp only [List.cons_append, List.nil_append] at k1
  generalize boL (Fs.on dN (.one 12 a b nm x)) lo N N = BL at *
  obtain ⟨xk, xa, xb, xn, xs, hx⟩ := x.row5
  simp only [Fs.row] at k1 ⊢
  rw [hx] at k1 ⊢
  generalize finI fid L bb (bb + 1) = FI at *
  generalize finI fid (x.add (addN L nm)) c1 (c1 + 1) = F1 at *
  obtain ⟨i1, hi1, hb1⟩ := Option.map_eq_some_iff.1 (show (Tryz.prog.info? 4).map (·.bytes) = some 1 by kernel_rfl)
  have w1 : (1 : Int) * N ≤ 70368744177664 := by omega
  have w2 : (N : Int) ≤ 9223372036854775807 := by omega
  have w0 : hi - lo + 1 = (N : Int) := hN
  have v1 : -90000000 ≤ lo := by omega
  have v2 : lo ≤ 90000000 := by omega
  have v3 : N ≤ 90000 := by omega
  clear h1 ih p1 p2 p3 p4 p5 p6 b1 b2 b3 hL hn hb hN hx
  refine meetsH (E := (EW m)) 211 [.tmp 8] Tryz.func33 rfl (by decide) rfl rfl (by simp) ?_
  repeat' first | (with_reducible refine t_boxes (t := _) rfl rfl rfl rfl ?_) | ((with_reducible refine wr_isCall ?_); refine wr_ret k1 ?_) | (with_reducible first | refine t_seq ?_ | refine t_skip ?_ | refine t_ret ?_ | refine t_end ?_ | refine t_cond ?_ | refine t_region ?_ | refine wr_done ?_ | refine WD.done _ ?_ | refine wdp_done ?_ | refine tr_some ?_ | refine t_inBlock ?_) | ((with_reducible refine t_isDraw ?_); refine t_draw rfl (by kernel_rfl) ?_) | ((fail_if_success with_reducible refine t_bl ?_); (with_reducible refine t_block ?_)) | ((with_reducible refine t_isExit ?_); refine t_exit rfl ?_) | simp only [decide_eq_true_eq, decide_eq_false_iff_not, Bool.not_eq_true', Bool.not_eq_false'] at * | simp (disch := omega) only [go_sem, Nat.reduceLT, Nat.reduceEqDiff, Nat.reduceAdd, Nat.reduceLeDiff, Nat.reduceMul, Int.reduceLT, Int.reduceLE, Int.reduceAdd, Int.reduceSub, Int.reduceNeg, Int.reduceToNat, Int.reduceBEq, Int.reduceEq, reduceCtorEq, ↓reduceIte, *] | (with_reducible first | refine tb_true ?_ | refine tb_false ?_) | ((with_reducible first | refine tb_split ?_ ?_ | refine wg_f ?_ ?_ | refine wg_t ?_ ?_ | refine wd_f ?_ ?_ | refine wd_t ?_ ?_) <;> intro _)
  exact Sub.of (.cons _ (List.Sublist.refl _)) (Nat.le_refl _)
theorem daysAll (m : Int) : ∀ t : Fs, t.wf Known → DaysOk m t
  | .leaf k a b nm, h => by
    simp only [Fs.wf] at h
    rcases h with ⟨h1, h2⟩ | h | ⟨h, q⟩ | h | h
    · exact days1 h1 h2
    · exact days3 (.inl h) (fun e => by omega)
    · exact days3 (.inr (.inl h)) (fun _ => q)
    · exact days3 (.inr (.inr (.inl h))) (fun e => by omega)
    · exact days3 (.inr (.inr (.inr h))) (fun e => by omega)
  | .one k a b nm x, h => by
    simp only [Fs.wf] at h
    obtain ⟨h, hx⟩ := h
    have ih := daysAll m x hx
    rcases h with ⟨rfl, h1, h2⟩ | rfl | ⟨rfl, h1, h2, h3, h4⟩
    · exact days7 h1 h2 ih
    · exact days8 ih
    · exact days12 h1 h2 h3 h4 ih
  | .two k a b nm x y, h => by
    simp only [Fs.wf] at h
    exact days9 h.1 (daysAll m x h.2.1) (daysAll m y h.2.2)
end Go.Proofs.YthahgmncnbeddaaGreatDoorA
/- solve.Has of a set that is checked. -/
set_option linter.unusedVariables false
set_option linter.unusedSimpArgs false
namespace Go.Proofs.YthahgmncnbeddaaGreatDoorA
open Go Go.RowKit Go.Proofs.YthahgmncnbeddaaGreatDoorFx Go.Proofs
attribute [local go_sem] List.take_succ_cons List.take_zero List.take_nil List.drop_succ_cons List.drop_nil List.cons_append List.nil_append List.set_cons_zero List.set_cons_succ
variable {m : Int}
set_option maxRecDepth 100000 in
set_option maxHeartbeats 4000000 in
theorem hasP {t : Fs} (hw : t.wf Known) (hd : t.depth ≤ 10) (hs : t.size ≤ 40) (hc : MeetsP Tryz.prog (glF m) 15 [.agg t.row] (.i .i64 0)) {day : Int} (hday : chkDay day = 0) :
    MeetsP Tryz.prog (glF m) 13 [.agg t.row, .i .i64 day] (.tup [.b (t.on dN day), .i .i64 0]) := by
  have bd := chkDay_bb hday
  obtain ⟨id, b', n', p1, p2, p3, p4, p0, p5, p6, p7, h1⟩ := daysAll m t hw day day 1 (by omega) (by omega) (by omega) (by omega) (by omega) [] (by simp; omega) 1 2 4 (by omega) (by omega)
  have h2 := MeetsH.pre (h1 := ⟨finI 1 [] 2 3, 4⟩) (h := ⟨[(1, .rows 2 [[.nils, .nils]])], 2⟩) ⟨fun _ q => q, fun q => q, show (2 : Nat) ≤ 4 by omega⟩ (h1.to (ew m) (glF_of m) (M' := fun _ _ => none))
  have eb : boL (t.on dN) day 1 1 = [[.b (t.on dN day)]] := by
    simp [boL]
  rw [eb] at h2
  have hck := weakP (glF_of m) (lineCheck (m := m) day)
  rw [hday] at hck
  generalize t.on dN day = v at *
  obtain ⟨xk, xa, xb, xn, xs, hx⟩ := t.row5
  rw [hx] at h2 hc ⊢
  generalize finI 1 (t.add []) b' (b' + 1) = F1 at *
  clear h1 p1 p2 p3 p4 p0 p5 p6 p7 bd hw hd hs eb hx
  refine meetsP (E := (EG (glF m))) 22 [.tmp 4, .tmp 5] (eg (glF m)) Tryz.func13 rfl (by decide) rfl rfl (by simp) ?_
  repeat' first | (with_reducible refine t_bx 2 (id := 0) (kk := 5) (row := [.i .i64 xk, .i .i64 xa, .i .i64 xb, .s xn, .isl false 5 xs]) (C := [(0, .rows 5 [_])]) (C' := []) rfl rfl rfl rfl ?_) | ((with_reducible refine wr_isCall ?_); first | refine wr_P hc rfl ?_ | refine wr_P hck rfl ?_ | refine wr_ret h2 ?_) | (with_reducible first | refine t_seq ?_ | refine t_skip ?_ | refine t_ret ?_ | refine t_end ?_ | refine t_cond ?_ | refine t_region ?_ | refine wr_done ?_ | refine WD.done _ ?_ | refine wdp_done ?_ | refine wdg_done ?_ | refine tr_some ?_ | refine t_inBlock ?_) | ((with_reducible refine t_isDraw ?_); refine t_draw rfl (by kernel_rfl) ?_) | ((fail_if_success with_reducible refine t_bl ?_); (with_reducible refine t_block ?_)) | ((with_reducible refine t_isExit ?_); refine t_exit rfl ?_) | simp only [decide_eq_true_eq, decide_eq_false_iff_not, Bool.not_eq_true', Bool.not_eq_false'] at * | simp (disch := omega) only [go_sem, Nat.reduceLT, Nat.reduceEqDiff, Nat.reduceAdd, Nat.reduceLeDiff, Nat.reduceMul, Int.reduceLT, Int.reduceLE, Int.reduceAdd, Int.reduceSub, Int.reduceNeg, Int.reduceToNat, Int.reduceBEq, Int.reduceEq, reduceCtorEq, ↓reduceIte, *] | (with_reducible first | refine tb_true ?_ | refine tb_false ?_) | ((with_reducible first | refine tb_split ?_ ?_ | refine wg_f ?_ ?_ | refine wg_t ?_ ?_ | refine wd_f ?_ ?_ | refine wd_t ?_ ?_) <;> intro _)
  exact ⟨rfl, rfl⟩
end Go.Proofs.YthahgmncnbeddaaGreatDoorA
