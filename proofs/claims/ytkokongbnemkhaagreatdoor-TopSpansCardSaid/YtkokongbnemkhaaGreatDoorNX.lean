/- span.Between. -/
import Derived.Test.YtkokongbnemkhaaGreatDoorNT
import Derived.Test.YtkokongbnemkhaaGreatDoorNV
import Derived.Test.YtkokongbnemkhaaGreatDoorPW15
set_option linter.unusedVariables false
set_option linter.unusedSimpArgs false
namespace Go.Proofs.YtkokongbnemkhaaGreatDoorA
open Go Go.RowKit Go.Proofs.YtkokongbnemkhaaGreatDoorFx Go.Proofs
variable {m : Int} {c : Cal}
def stp (p : Nat) : Int := if p = 0 then 0 else ((2 ^ (p - 1) : Nat) : Int)
theorem stp_succ (k : Nat) : stp (k + 1) = ((2 ^ k : Nat) : Int) := rfl
theorem stp_half {k : Nat} (h : k < 14) : (stp (k + 1)).tdiv 2 = stp k ∧ 1 ≤ 2 ^ k ∧ 2 ^ k ≤ 8192 ∧ 0 ≤ stp k ∧ stp k ≤ 8192 := by
  have key : ∀ k : _root_.Fin 14, (stp (k.val + 1)).tdiv 2 = stp k.val ∧ 1 ≤ 2 ^ k.val ∧ 2 ^ k.val ≤ 8192 ∧ 0 ≤ stp k.val ∧ stp k.val ≤ 8192 := by decide +kernel
  exact key ⟨k, h⟩
set_option maxRecDepth 100000 in
set_option maxHeartbeats 4000000 in
theorem betweenBad (hc : c.Good m) {s : List UInt8} {a b : Int} (hC : MeetsP Tryz.prog (glT m) 26 [.s s] (.tup [c.A, .i .i64 0])) (ha : chkDay (a / 86400000) = 0) (hb : chkDay (b / 86400000) = 0) (hab : a ≤ b)
    (hbad : MeetsP Tryz.prog (glT m) 27 [c.A, .i .i64 (a / 86400000)] (resD (dateA 0 0 0) 3) ∨ (∃ y mo d, MeetsP Tryz.prog (glT m) 27 [c.A, .i .i64 (a / 86400000)] (resD (dateA y mo d) 0)) ∧ MeetsP Tryz.prog (glT m) 27 [c.A, .i .i64 (b / 86400000)] (resD (dateA 0 0 0) 3)) :
    MeetsP Tryz.prog (glT m) 20 [.s s, .i .i64 a, .i .i64 b] (.tup [durA 0 0 0 0, .i .i64 3]) := by
  have ba := chkDay_b ha
  have bb := chkDay_b hb
  have hsa := splitP (m := m) (t := a) (by omega) (by omega)
  have hsb := splitP (m := m) (t := b) (by omega) (by omega)
  unfold splitR at hsa hsb
  rw [if_pos ha] at hsa
  rw [if_pos hb] at hsb
  obtain ⟨y1, y2, y3, y4, y5, hy, ⟨o1, o2, o3, o4, o5⟩, n3, n5⟩ := cal_no3 c
  have n2 : ∀ a, [AV.agg [y1, y2, y3, y4, y5], .i .i64 a].all (noid 12) = true := fun a => by
    simp only [List.all_cons, List.all_nil, Bool.and_true] at n3 ⊢
    have := n3 (.b true) (.b true)
    simp only [noid_b, Bool.and_true] at this
    rw [this]; rfl
  rw [hy] at hC hbad
  generalize a / 86400000 = qa at *
  generalize b / 86400000 = qb at *
  generalize a % 86400000 = ra at *
  generalize b % 86400000 = rb at *
  unfold resD dateA durA at *
  rcases hbad with hF | ⟨⟨y, mo, d, hF⟩, hF2⟩
  · refine meetsP (E := (EW m)) 136 [.cell 6 51, .tmp 7] (ew m) Tryz.func20 rfl (by decide) rfl rfl (by simp) ?_
    repeat' first
      | ((with_reducible refine wr_isCall ?_); refine wr_P hC rfl ?_)
      | ((with_reducible refine wr_isCall ?_); refine wr_P hsa rfl ?_)
      | ((with_reducible refine wr_isCall ?_); refine wr_P hsb rfl ?_)
      | ((with_reducible refine wr_isCall ?_); refine wr_P hF (n2 _) ?_)
      | (with_reducible refine t_seq ?_)
      | (with_reducible refine t_skip ?_)
      | (with_reducible refine t_ret ?_)
      | (with_reducible refine t_end ?_)
      | (with_reducible refine t_cond ?_)
      | (with_reducible refine t_region ?_)
      | (with_reducible refine wr_done ?_)
      | ((with_reducible refine t_isDraw ?_); refine t_draw rfl (by kernel_rfl) ?_)
      | (with_reducible refine WD.done _ ?_)
      | (with_reducible refine wdp_done ?_)
      | (with_reducible refine tr_some ?_)
      | ((fail_if_success with_reducible refine t_bl ?_); (with_reducible refine t_block ?_))
      | (with_reducible refine t_inBlock ?_)
      | ((with_reducible refine t_isExit ?_); refine t_exit rfl ?_)
      | simp only [decide_eq_true_eq, decide_eq_false_iff_not, Bool.not_eq_true', Bool.not_eq_false'] at *
      | simp (disch := omega) only [go_sem, Nat.reduceLT, Nat.reduceEqDiff, Nat.reduceAdd, Nat.reduceLeDiff, Nat.reduceMul, Int.reduceLT, Int.reduceLE, Int.reduceAdd, Int.reduceSub, Int.reduceNeg, Int.reduceToNat, Int.reduceBEq, Int.reduceEq, reduceCtorEq, List.take_succ_cons, List.take_zero, List.take_nil, List.drop_succ_cons, List.drop_nil, List.cons_append, List.nil_append, List.set_cons_zero, List.set_cons_succ, ↓reduceIte, *]
      | (with_reducible refine tb_true ?_)
      | (with_reducible refine tb_false ?_)
      | (with_reducible refine tb_split (fun _ => ?_) (fun _ => ?_))
      | (with_reducible refine wg_f (fun _ => ?_) (fun _ => ?_))
      | (with_reducible refine wg_t (fun _ => ?_) (fun _ => ?_))
      | (with_reducible refine wd_f (fun _ => ?_) (fun _ => ?_))
      | (with_reducible refine wd_t (fun _ => ?_) (fun _ => ?_))
    all_goals first | (exfalso; omega) | exact ⟨rfl, rfl⟩
  · refine meetsP (E := (EW m)) 136 [.cell 6 51, .tmp 7] (ew m) Tryz.func20 rfl (by decide) rfl rfl (by simp) ?_
    repeat' first
      | ((with_reducible refine wr_isCall ?_); refine wr_P hC rfl ?_)
      | ((with_reducible refine wr_isCall ?_); refine wr_P hsa rfl ?_)
      | ((with_reducible refine wr_isCall ?_); refine wr_P hsb rfl ?_)
      | ((with_reducible refine wr_isCall ?_); refine wr_P hF (n2 _) ?_)
      | ((with_reducible refine wr_isCall ?_); refine wr_P hF2 (n2 _) ?_)
      | (with_reducible refine t_seq ?_)
      | (with_reducible refine t_skip ?_)
      | (with_reducible refine t_ret ?_)
      | (with_reducible refine t_end ?_)
      | (with_reducible refine t_cond ?_)
      | (with_reducible refine t_region ?_)
      | (with_reducible refine wr_done ?_)
      | ((with_reducible refine t_isDraw ?_); refine t_draw rfl (by kernel_rfl) ?_)
      | (with_reducible refine WD.done _ ?_)
      | (with_reducible refine wdp_done ?_)
      | (with_reducible refine tr_some ?_)
      | ((fail_if_success with_reducible refine t_bl ?_); (with_reducible refine t_block ?_))
      | (with_reducible refine t_inBlock ?_)
      | ((with_reducible refine t_isExit ?_); refine t_exit rfl ?_)
      | simp only [decide_eq_true_eq, decide_eq_false_iff_not, Bool.not_eq_true', Bool.not_eq_false'] at *
      | simp (disch := omega) only [go_sem, Nat.reduceLT, Nat.reduceEqDiff, Nat.reduceAdd, Nat.reduceLeDiff, Nat.reduceMul, Int.reduceLT, Int.reduceLE, Int.reduceAdd, Int.reduceSub, Int.reduceNeg, Int.reduceToNat, Int.reduceBEq, Int.reduceEq, reduceCtorEq, List.take_succ_cons, List.take_zero, List.take_nil, List.drop_succ_cons, List.drop_nil, List.cons_append, List.nil_append, List.set_cons_zero, List.set_cons_succ, ↓reduceIte, *]
      | (with_reducible refine tb_true ?_)
      | (with_reducible refine tb_false ?_)
      | (with_reducible refine tb_split (fun _ => ?_) (fun _ => ?_))
      | (with_reducible refine wg_f (fun _ => ?_) (fun _ => ?_))
      | (with_reducible refine wg_t (fun _ => ?_) (fun _ => ?_))
      | (with_reducible refine wd_f (fun _ => ?_) (fun _ => ?_))
      | (with_reducible refine wd_t (fun _ => ?_) (fun _ => ?_))
    all_goals first | (exfalso; omega) | exact ⟨rfl, rfl⟩
set_option maxRecDepth 100000 in
set_option maxHeartbeats 8000000 in
theorem betweenP (hc : c.Good m) {s : List UInt8} {a b : Int} (hC : MeetsP Tryz.prog (glT m) 26 [.s s] (.tup [c.A, .i .i64 0])) (ha : chkDay (a / 86400000) = 0) (hb : chkDay (b / 86400000) = 0) (hab : a ≤ b)
    {ya yb : Int} {moa mob : Nat} (hata : c.At (a / 86400000) ya moa) (hatb : c.At (b / 86400000) yb mob) {N E : Nat → Nat → Int} (hm : Moved m c (a / 86400000) N E) {Y0 : Nat} (hY0 : min (10000 : Int) (max 0 (yb - ya)) = Y0)
    {Ys Ms : Nat} (hYs : downY (fun Y => fitS N E (a % 86400000) b Y 0) Y0 = Ys) (hMs : upM (fitS N E (a % 86400000) b Ys) 14 0 = Ms) (hfit : fitS N E (a % 86400000) b Ys Ms = true) (hMb : Ms ≤ 10000) :
    MeetsP Tryz.prog (glT m) 20 [.s s, .i .i64 a, .i .i64 b] (.tup [durA Ys Ms ((b - (N Ys Ms * 86400000 + a % 86400000)) / 86400000) ((b - (N Ys Ms * 86400000 + a % 86400000)) % 86400000), .i .i64 0]) := by
  have ba := chkDay_b ha
  have bb := chkDay_b hb
  have hsa := splitP (m := m) (t := a) (by omega) (by omega)
  have hsb := splitP (m := m) (t := b) (by omega) (by omega)
  unfold splitR at hsa hsb
  rw [if_pos ha] at hsa
  rw [if_pos hb] at hsb
  have hFa := hata.run hc
  have hFb := hatb.run hc
  have y1b := hata.y1; have y2b := hata.y2; have y3b := hatb.y1; have y4b := hatb.y2
  have hYsb : Ys ≤ Y0 := by rw [← hYs]; exact (downY_spec _ _).2.1
  have hY0b : Y0 ≤ 10000 := by omega
  have r0 : 0 ≤ a % 86400000 ∧ a % 86400000 < 86400000 := by omega
  have hadd : ∀ (Y M : Nat), Y ≤ 10000 → M ≤ 10000 → ∃ x e : Int, MeetsP Tryz.prog (glT m) 40 [c.A, .i .i64 a, .agg [.i .i64 Y, .i .i64 M, .i .i64 0, .i .i64 0]] (.tup [.i .i64 x, .i .i64 e]) ∧ fitS N E (a % 86400000) b Y M = (decide (e = 0) && decide (x ≤ b)) := fun Y M h1 h2 => by
    have h := addP hc ha hm h1 h2 (D := 0) (Ms := 0) (by omega) (by omega)
    rcases spR_fit hm r0.1 r0.2 Y M with ⟨e1, e2⟩ | ⟨e1, e2⟩
    · rw [e2] at h
      refine ⟨_, _, h, ?_⟩
      unfold fitS
      rw [e1]
    · rw [e2] at h
      refine ⟨_, _, h, ?_⟩
      unfold fitS
      rw [e1]; rfl
  have hE : E Ys Ms = 0 ∧ N Ys Ms * 86400000 + a % 86400000 ≤ b := by
    unfold fitS at hfit
    simpa only [Bool.and_eq_true, decide_eq_true_eq] using hfit
  have hR : MeetsP Tryz.prog (glT m) 40 [c.A, .i .i64 a, .agg [.i .i64 Ys, .i .i64 Ms, .i .i64 0, .i .i64 0]] (.tup [.i .i64 (N Ys Ms * 86400000 + a % 86400000), .i .i64 0]) := by
    have h := addP hc ha hm (show Ys ≤ 10000 by omega) hMb (D := 0) (Ms := 0) (by omega) (by omega)
    rcases spR_fit hm r0.1 r0.2 Ys Ms with ⟨e1, e2⟩ | ⟨e1, e2⟩
    · rw [e2] at h; exact h
    · rw [hE.1] at e1; cases e1
  have hNb := chkDay_b (hm.far Ys Ms hE.1)
  have hE2 := hE.2
  have hD1 : (b - (N Ys Ms * 86400000 + a % 86400000)).tdiv 86400000 = (b - (N Ys Ms * 86400000 + a % 86400000)) / 86400000 := Int.tdiv_eq_ediv_of_nonneg (by omega)
  have hD2 : (b - (N Ys Ms * 86400000 + a % 86400000)).tmod 86400000 = (b - (N Ys Ms * 86400000 + a % 86400000)) % 86400000 := Int.tmod_eq_emod_of_nonneg (by omega)
  have t0b : -400000000000000 ≤ N Ys Ms * 86400000 + a % 86400000 ∧ N Ys Ms * 86400000 + a % 86400000 ≤ 400000000000000 := by omega
  have bbb : -400000000000000 ≤ b ∧ b ≤ 400000000000000 := by omega
  generalize N Ys Ms * 86400000 + a % 86400000 = t0 at *
  have hDb : 0 ≤ (b - t0) / 86400000 ∧ (b - t0) / 86400000 ≤ 10000000 := by omega
  generalize (b - t0) / 86400000 = DD at *
  generalize (b - t0) % 86400000 = RR at *
  generalize hfn : fitS N E (a % 86400000) b = fit at *
  obtain ⟨nm, ep, cy, ML, LL, hy⟩ : ∃ nm ep cy ML LL, c.A = .agg [.s nm, .i .i64 ep, .i .i64 cy, .isl false 3 ML, .isl false 1 LL] := ⟨_, _, _, _, _, rfl⟩
  have n3 : ∀ a b, [AV.agg [.s nm, .i .i64 ep, .i .i64 cy, .isl false 3 ML, .isl false 1 LL], a, b].all (noid 12) = (noid 12 a && noid 12 b) := fun a b => by
    simp only [List.all_cons, List.all_nil, Bool.and_true]; exact Bool.true_and _
  have n2 : ∀ a, [AV.agg [.s nm, .i .i64 ep, .i .i64 cy, .isl false 3 ML, .isl false 1 LL], .i .i64 a].all (noid 12) = true := fun a => rfl
  have nfit : ∀ Y M : Int, [AV.agg [.i .i64 Y, .i .i64 M, .i .i64 0, .i .i64 0], .ip [.s nm, .i .i64 ep, .i .i64 cy, .isl false 3 ML, .isl false 1 LL] 0, .ip [.i .i64 a] 0, .ip [.i .i64 b] 0].all (noid 12) = true := fun Y M => rfl
  rw [hy] at hC hFa hFb hR
  simp only [hy] at hadd
  have hF := fun (Y M : Nat) (h1 : Y ≤ 10000) (h2 : M ≤ 10000) => (by
    obtain ⟨x, e, h3, h4⟩ := hadd Y M h1 h2
    exact fitsP n3 (b := b) h3 h4 : MeetsP Tryz.prog (glT m) 39 [.agg [.i .i64 Y, .i .i64 M, .i .i64 0, .i .i64 0], .ip [.s nm, .i .i64 ep, .i .i64 cy, .isl false 3 ML, .isl false 1 LL] 0, .ip [.i .i64 a] 0, .ip [.i .i64 b] 0] (.b (fit Y M)))
  clear hadd hfn hE hm hata hatb
  generalize a / 86400000 = qa at *
  generalize b / 86400000 = qb at *
  generalize a % 86400000 = ra at *
  generalize b % 86400000 = rb at *
  generalize (qa - c.first ya + 1 - c.bef ya moa) = da at *
  generalize (qb - c.first yb + 1 - c.bef yb mob) = db at *
  generalize ((moa : Int) + 1) = Ma at *
  generalize ((mob : Int) + 1) = Mb at *
  unfold resD dateA durA at *
  refine meetsP (E := (EW m)) 136 [.cell 6 51, .tmp 7] (ew m) Tryz.func20 rfl (by decide) rfl rfl (by simp) ?_
  repeat' first
    | (with_reducible refine t_freezeH (S := ⟨_, _, ⟨[(2, _), (1, .rows 1 _), (0, .rows 1 _)], 3⟩⟩) 0 rfl rfl ?_)
    | (with_reducible refine t_freezeH (S := ⟨_, _, ⟨[(3, .rows 5 _), (2, _), (1, .rows 1 _)], 4⟩⟩) 1 rfl rfl ?_)
    | (with_reducible refine t_freezeH (S := ⟨_, _, ⟨[(3, .rows 5 _), (2, _)], 4⟩⟩) 3 rfl rfl ?_)
    | ((with_reducible refine wr_isCall ?_); refine wr_P hC rfl ?_)
    | ((with_reducible refine wr_isCall ?_); refine wr_P hsa rfl ?_)
    | ((with_reducible refine wr_isCall ?_); refine wr_P hsb rfl ?_)
    | ((with_reducible refine wr_isCall ?_); refine wr_P hFa (n2 _) ?_)
    | ((with_reducible refine wr_isCall ?_); refine wr_P hFb (n2 _) ?_)
    | (with_reducible refine t_seq ?_)
    | (with_reducible refine t_skip ?_)
    | (with_reducible refine t_ret ?_)
    | (with_reducible refine t_end ?_)
    | (with_reducible refine t_cond ?_)
    | (with_reducible refine t_region ?_)
    | (with_reducible refine wr_done ?_)
    | ((with_reducible refine t_isDraw ?_); refine t_draw rfl (by kernel_rfl) ?_)
    | (with_reducible refine WD.done _ ?_)
    | (with_reducible refine wdp_done ?_)
    | (with_reducible refine tr_some ?_)
    | ((fail_if_success with_reducible refine t_bl ?_); (with_reducible refine t_block ?_))
    | (with_reducible refine t_inBlock ?_)
    | ((with_reducible refine t_isExit ?_); refine t_exit rfl ?_)
    | simp only [decide_eq_true_eq, decide_eq_false_iff_not, Bool.not_eq_true', Bool.not_eq_false'] at *
    | simp (disch := omega) only [go_sem, Nat.reduceLT, Nat.reduceEqDiff, Nat.reduceAdd, Nat.reduceLeDiff, Nat.reduceMul, Int.reduceLT, Int.reduceLE, Int.reduceAdd, Int.reduceSub, Int.reduceNeg, Int.reduceToNat, Int.reduceBEq, Int.reduceEq, reduceCtorEq, List.take_succ_cons, List.take_zero, List.take_nil, List.drop_succ_cons, List.drop_nil, List.cons_append, List.nil_append, List.set_cons_zero, List.set_cons_succ, ↓reduceIte, *]
    | (with_reducible refine tb_true ?_)
    | (with_reducible refine tb_false ?_)
    | (with_reducible refine tb_split (fun _ => ?_) (fun _ => ?_))
    | (with_reducible refine wg_f (fun _ => ?_) (fun _ => ?_))
    | (with_reducible refine wg_t (fun _ => ?_) (fun _ => ?_))
    | (with_reducible refine wd_f (fun _ => ?_) (fun _ => ?_))
    | (with_reducible refine wd_t (fun _ => ?_) (fun _ => ?_))
  all_goals first | (exfalso; omega) | skip
  refine t_while (I := fun (Y : Nat) t h => Y ≤ Y0 ∧ downY (fun Y => fit Y 0) Y = Ys ∧ h = ⟨[(6, .rows 4 [[.i .i64 Y, .i .i64 0, .i .i64 0, .i .i64 0]]), (5, .rows 3 [[.i .i64 yb, .i .i64 Mb, .i .i64 db]]), (4, .rows 3 [[.i .i64 ya, .i .i64 Ma, .i .i64 da]]), (2, .rows 4 [[.i .i64 0, .i .i64 0, .i .i64 0, .i .i64 0]])], 7⟩ ∧ get t 4 = .ip [.i .i64 a] 0 ∧ get t 5 = .ip [.i .i64 b] 0 ∧ get t 6 = .ptr 2 0 0 ∧ get t 8 = .ip [.s nm, .i .i64 ep, .i .i64 cy, .isl false 3 ML, .isl false 1 LL] 0 ∧ get t 18 = .fn 39 [] [.ip [.s nm, .i .i64 ep, .i .i64 cy, .isl false 3 ML, .isl false 1 LL] 0, .ip [.i .i64 a] 0, .ip [.i .i64 b] 0] ∧ get t 19 = .ptr 6 0 0) (m := fun Y => Y)
    (J := fun t h => h = ⟨[(6, .rows 4 [[.i .i64 Ys, .i .i64 0, .i .i64 0, .i .i64 0]]), (5, .rows 3 [[.i .i64 yb, .i .i64 Mb, .i .i64 db]]), (4, .rows 3 [[.i .i64 ya, .i .i64 Ma, .i .i64 da]]), (2, .rows 4 [[.i .i64 0, .i .i64 0, .i .i64 0, .i .i64 0]])], 7⟩ ∧ get t 4 = .ip [.i .i64 a] 0 ∧ get t 5 = .ip [.i .i64 b] 0 ∧ get t 6 = .ptr 2 0 0 ∧ get t 8 = .ip [.s nm, .i .i64 ep, .i .i64 cy, .isl false 3 ML, .isl false 1 LL] 0 ∧ get t 18 = .fn 39 [] [.ip [.s nm, .i .i64 ep, .i .i64 cy, .isl false 3 ML, .isl false 1 LL] 0, .ip [.i .i64 a] 0, .ip [.i .i64 b] 0] ∧ get t 19 = .ptr 6 0 0) Y0 ⟨by omega, hYs, rfl, by simp [get], by simp [get], by simp [get], by simp [get], by simp [get], by simp [get]⟩ ?_ ?_
  · rintro Y t h ⟨hY, hd, rfl, g4, g5, g6, g8, g18, g19⟩ hrec hex
    cases Y with
    | zero =>
      have hz : Ys = 0 := hd.symm
      subst hz
      clear hF hR
      repeat' first
        | refine hex _ _ ?_
        | (with_reducible refine t_seq ?_)
        | (with_reducible refine t_skip ?_)
        | (with_reducible refine t_ret ?_)
        | (with_reducible refine t_end ?_)
        | (with_reducible refine t_cond ?_)
        | (with_reducible refine t_region ?_)
        | (with_reducible refine wr_done ?_)
        | ((with_reducible refine t_isDraw ?_); refine t_draw rfl (by kernel_rfl) ?_)
        | (with_reducible refine WD.done _ ?_)
        | (with_reducible refine wdp_done ?_)
        | (with_reducible refine tr_some ?_)
        | ((fail_if_success with_reducible refine t_bl ?_); (with_reducible refine t_block ?_))
        | (with_reducible refine t_inBlock ?_)
        | ((with_reducible refine t_isExit ?_); refine t_exit rfl ?_)
        | simp only [decide_eq_true_eq, decide_eq_false_iff_not, Bool.not_eq_true', Bool.not_eq_false'] at *
        | simp (disch := omega) only [go_sem, Nat.reduceLT, Nat.reduceEqDiff, Nat.reduceAdd, Nat.reduceLeDiff, Nat.reduceMul, Int.reduceLT, Int.reduceLE, Int.reduceAdd, Int.reduceSub, Int.reduceNeg, Int.reduceToNat, Int.reduceBEq, Int.reduceEq, reduceCtorEq, List.take_succ_cons, List.take_zero, List.take_nil, List.drop_succ_cons, List.drop_nil, List.cons_append, List.nil_append, List.set_cons_zero, List.set_cons_succ, ↓reduceIte, *]
        | (with_reducible refine tb_true ?_)
        | (with_reducible refine tb_false ?_)
        | (with_reducible refine tb_split (fun _ => ?_) (fun _ => ?_))
        | (with_reducible refine wg_f (fun _ => ?_) (fun _ => ?_))
        | (with_reducible refine wg_t (fun _ => ?_) (fun _ => ?_))
        | (with_reducible refine wd_f (fun _ => ?_) (fun _ => ?_))
        | (with_reducible refine wd_t (fun _ => ?_) (fun _ => ?_))
      all_goals first | (exfalso; omega) | simp [get, g4, g5, g6, g8, g18, g19]
    | succ k =>
      have hf := hF (k + 1) 0 (by omega) (by omega)
      unfold downY at hd
      have e1 : ((k + 1 : Nat) : Int) = (k : Int) + 1 := by omega
      cases hB : fit (k + 1) 0
      · rw [hB] at hf
        rw [if_neg (by simp [hB])] at hd
        rw [e1] at hf ⊢
        clear hF hR
        repeat' first
          | ((with_reducible refine wr_isCall ?_); refine wr_P hf rfl ?_)
          | (with_reducible refine t_seq ?_)
          | (with_reducible refine t_skip ?_)
          | (with_reducible refine t_ret ?_)
          | (with_reducible refine t_end ?_)
          | (with_reducible refine t_cond ?_)
          | (with_reducible refine t_region ?_)
          | (with_reducible refine wr_done ?_)
          | ((with_reducible refine t_isDraw ?_); refine t_draw rfl (by kernel_rfl) ?_)
          | (with_reducible refine WD.done _ ?_)
          | (with_reducible refine wdp_done ?_)
          | (with_reducible refine tr_some ?_)
          | ((fail_if_success with_reducible refine t_bl ?_); (with_reducible refine t_block ?_))
          | (with_reducible refine t_inBlock ?_)
          | ((with_reducible refine t_isExit ?_); refine t_exit rfl ?_)
          | simp only [decide_eq_true_eq, decide_eq_false_iff_not, Bool.not_eq_true', Bool.not_eq_false'] at *
          | simp (disch := omega) only [go_sem, Nat.reduceLT, Nat.reduceEqDiff, Nat.reduceAdd, Nat.reduceLeDiff, Nat.reduceMul, Int.reduceLT, Int.reduceLE, Int.reduceAdd, Int.reduceSub, Int.reduceNeg, Int.reduceToNat, Int.reduceBEq, Int.reduceEq, reduceCtorEq, List.take_succ_cons, List.take_zero, List.take_nil, List.drop_succ_cons, List.drop_nil, List.cons_append, List.nil_append, List.set_cons_zero, List.set_cons_succ, ↓reduceIte, *]
          | (with_reducible refine tb_true ?_)
          | (with_reducible refine tb_false ?_)
          | (with_reducible refine tb_split (fun _ => ?_) (fun _ => ?_))
          | (with_reducible refine wg_f (fun _ => ?_) (fun _ => ?_))
          | (with_reducible refine wg_t (fun _ => ?_) (fun _ => ?_))
          | (with_reducible refine wd_f (fun _ => ?_) (fun _ => ?_))
          | (with_reducible refine wd_t (fun _ => ?_) (fun _ => ?_))
        all_goals first | (exfalso; omega) | skip
        all_goals exact hrec k _ _ ⟨by omega, hd, by simp, by simp [get, g4], by simp [get, g5], by simp [get, g6], by simp [get, g8], by simp [get, g18], by simp [get, g19]⟩ (by omega)
      · rw [hB] at hf
        rw [if_pos (by simp [hB])] at hd
        subst hd
        clear hF hR
        repeat' first
          | ((with_reducible refine wr_isCall ?_); refine wr_P hf rfl ?_)
          | refine hex _ _ ?_
          | (with_reducible refine t_seq ?_)
          | (with_reducible refine t_skip ?_)
          | (with_reducible refine t_ret ?_)
          | (with_reducible refine t_end ?_)
          | (with_reducible refine t_cond ?_)
          | (with_reducible refine t_region ?_)
          | (with_reducible refine wr_done ?_)
          | ((with_reducible refine t_isDraw ?_); refine t_draw rfl (by kernel_rfl) ?_)
          | (with_reducible refine WD.done _ ?_)
          | (with_reducible refine wdp_done ?_)
          | (with_reducible refine tr_some ?_)
          | ((fail_if_success with_reducible refine t_bl ?_); (with_reducible refine t_block ?_))
          | (with_reducible refine t_inBlock ?_)
          | ((with_reducible refine t_isExit ?_); refine t_exit rfl ?_)
          | simp only [decide_eq_true_eq, decide_eq_false_iff_not, Bool.not_eq_true', Bool.not_eq_false'] at *
          | simp (disch := omega) only [go_sem, Nat.reduceLT, Nat.reduceEqDiff, Nat.reduceAdd, Nat.reduceLeDiff, Nat.reduceMul, Int.reduceLT, Int.reduceLE, Int.reduceAdd, Int.reduceSub, Int.reduceNeg, Int.reduceToNat, Int.reduceBEq, Int.reduceEq, reduceCtorEq, List.take_succ_cons, List.take_zero, List.take_nil, List.drop_succ_cons, List.drop_nil, List.cons_append, List.nil_append, List.set_cons_zero, List.set_cons_succ, ↓reduceIte, *]
          | (with_reducible refine tb_true ?_)
          | (with_reducible refine tb_false ?_)
          | (with_reducible refine tb_split (fun _ => ?_) (fun _ => ?_))
          | (with_reducible refine wg_f (fun _ => ?_) (fun _ => ?_))
          | (with_reducible refine wg_t (fun _ => ?_) (fun _ => ?_))
          | (with_reducible refine wd_f (fun _ => ?_) (fun _ => ?_))
          | (with_reducible refine wd_t (fun _ => ?_) (fun _ => ?_))
        all_goals first | (exfalso; omega) | simp [get, g4, g5, g6, g8, g18, g19]
  rintro t h ⟨rfl, g4, g5, g6, g8, g18, g19⟩
  repeat' first
    | (with_reducible refine t_seq ?_)
    | (with_reducible refine t_skip ?_)
    | (with_reducible refine t_ret ?_)
    | (with_reducible refine t_end ?_)
    | (with_reducible refine t_cond ?_)
    | (with_reducible refine t_region ?_)
    | (with_reducible refine wr_done ?_)
    | ((with_reducible refine t_isDraw ?_); refine t_draw rfl (by kernel_rfl) ?_)
    | (with_reducible refine WD.done _ ?_)
    | (with_reducible refine wdp_done ?_)
    | (with_reducible refine tr_some ?_)
    | ((fail_if_success with_reducible refine t_bl ?_); (with_reducible refine t_block ?_))
    | (with_reducible refine t_inBlock ?_)
    | ((with_reducible refine t_isExit ?_); refine t_exit rfl ?_)
    | simp only [decide_eq_true_eq, decide_eq_false_iff_not, Bool.not_eq_true', Bool.not_eq_false'] at *
    | simp (disch := omega) only [go_sem, Nat.reduceLT, Nat.reduceEqDiff, Nat.reduceAdd, Nat.reduceLeDiff, Nat.reduceMul, Int.reduceLT, Int.reduceLE, Int.reduceAdd, Int.reduceSub, Int.reduceNeg, Int.reduceToNat, Int.reduceBEq, Int.reduceEq, reduceCtorEq, List.take_succ_cons, List.take_zero, List.take_nil, List.drop_succ_cons, List.drop_nil, List.cons_append, List.nil_append, List.set_cons_zero, List.set_cons_succ, ↓reduceIte, *]
    | (with_reducible refine tb_true ?_)
    | (with_reducible refine tb_false ?_)
    | (with_reducible refine tb_split (fun _ => ?_) (fun _ => ?_))
    | (with_reducible refine wg_f (fun _ => ?_) (fun _ => ?_))
    | (with_reducible refine wg_t (fun _ => ?_) (fun _ => ?_))
    | (with_reducible refine wd_f (fun _ => ?_) (fun _ => ?_))
    | (with_reducible refine wd_t (fun _ => ?_) (fun _ => ?_))
  have h14 : stp 14 = 8192 := by decide +kernel
  refine t_while (α := Nat × Nat) (I := fun q t h => q.1 ≤ 14 ∧ q.2 ≤ 10000 ∧ upM (fit Ys) q.1 q.2 = Ms ∧ (∃ n, 7 ≤ n ∧ h = ⟨[(6, .rows 4 [[.i .i64 Ys, .i .i64 q.2, .i .i64 0, .i .i64 0]]), (5, .rows 3 [[.i .i64 yb, .i .i64 Mb, .i .i64 db]]), (4, .rows 3 [[.i .i64 ya, .i .i64 Ma, .i .i64 da]]), (2, .rows 4 [[.i .i64 0, .i .i64 0, .i .i64 0, .i .i64 0]])], n⟩) ∧ get t 20 = .i .i64 (stp q.1) ∧ get t 4 = .ip [.i .i64 a] 0 ∧ get t 5 = .ip [.i .i64 b] 0 ∧ get t 6 = .ptr 2 0 0 ∧ get t 8 = .ip [.s nm, .i .i64 ep, .i .i64 cy, .isl false 3 ML, .isl false 1 LL] 0 ∧ get t 18 = .fn 39 [] [.ip [.s nm, .i .i64 ep, .i .i64 cy, .isl false 3 ML, .isl false 1 LL] 0, .ip [.i .i64 a] 0, .ip [.i .i64 b] 0] ∧ get t 19 = .ptr 6 0 0) (m := fun q => q.1)
    (J := fun t h => (∃ n, 7 ≤ n ∧ h = ⟨[(6, .rows 4 [[.i .i64 Ys, .i .i64 Ms, .i .i64 0, .i .i64 0]]), (5, .rows 3 [[.i .i64 yb, .i .i64 Mb, .i .i64 db]]), (4, .rows 3 [[.i .i64 ya, .i .i64 Ma, .i .i64 da]]), (2, .rows 4 [[.i .i64 0, .i .i64 0, .i .i64 0, .i .i64 0]])], n⟩) ∧ get t 4 = .ip [.i .i64 a] 0 ∧ get t 5 = .ip [.i .i64 b] 0 ∧ get t 6 = .ptr 2 0 0 ∧ get t 8 = .ip [.s nm, .i .i64 ep, .i .i64 cy, .isl false 3 ML, .isl false 1 LL] 0 ∧ get t 18 = .fn 39 [] [.ip [.s nm, .i .i64 ep, .i .i64 cy, .isl false 3 ML, .isl false 1 LL] 0, .ip [.i .i64 a] 0, .ip [.i .i64 b] 0] ∧ get t 19 = .ptr 6 0 0) (14, 0) ⟨by omega, by omega, hMs, ⟨7, by omega, by simp⟩, by simp [get, h14], by simp [get, g4], by simp [get, g5], by simp [get, g6], by simp [get, g8], by simp [get, g18], by simp [get, g19]⟩ ?_ ?_
  · rintro ⟨p, M⟩ t h ⟨hp, hM, hu, ⟨n, hn, rfl⟩, g20, g4, g5, g6, g8, g18, g19⟩ hrec hex
    simp only at hp hM hu g20
    have hn0 : ¬ n = 2 := by omega
    have hn1 : ¬ n = 4 := by omega
    have hn2 : ¬ n = 5 := by omega
    have hn3 : ¬ n = 6 := by omega
    cases p with
    | zero =>
      have hz : M = Ms := hu
      subst hz
      rw [show stp 0 = 0 from rfl] at g20
      clear hF hR
      repeat' first
        | refine hex _ _ ?_
        | (with_reducible refine t_seq ?_)
        | (with_reducible refine t_skip ?_)
        | (with_reducible refine t_ret ?_)
        | (with_reducible refine t_end ?_)
        | (with_reducible refine t_cond ?_)
        | (with_reducible refine t_region ?_)
        | (with_reducible refine wr_done ?_)
        | ((with_reducible refine t_isDraw ?_); refine t_draw rfl (by kernel_rfl) ?_)
        | (with_reducible refine WD.done _ ?_)
        | (with_reducible refine wdp_done ?_)
        | (with_reducible refine tr_some ?_)
        | ((fail_if_success with_reducible refine t_bl ?_); (with_reducible refine t_block ?_))
        | (with_reducible refine t_inBlock ?_)
        | ((with_reducible refine t_isExit ?_); refine t_exit rfl ?_)
        | simp only [decide_eq_true_eq, decide_eq_false_iff_not, Bool.not_eq_true', Bool.not_eq_false'] at *
        | simp (disch := omega) only [go_sem, Nat.reduceLT, Nat.reduceEqDiff, Nat.reduceAdd, Nat.reduceLeDiff, Nat.reduceMul, Int.reduceLT, Int.reduceLE, Int.reduceAdd, Int.reduceSub, Int.reduceNeg, Int.reduceToNat, Int.reduceBEq, Int.reduceEq, reduceCtorEq, List.take_succ_cons, List.take_zero, List.take_nil, List.drop_succ_cons, List.drop_nil, List.cons_append, List.nil_append, List.set_cons_zero, List.set_cons_succ, ↓reduceIte, *]
        | (with_reducible refine tb_true ?_)
        | (with_reducible refine tb_false ?_)
        | (with_reducible refine tb_split (fun _ => ?_) (fun _ => ?_))
        | (with_reducible refine wg_f (fun _ => ?_) (fun _ => ?_))
        | (with_reducible refine wg_t (fun _ => ?_) (fun _ => ?_))
        | (with_reducible refine wd_f (fun _ => ?_) (fun _ => ?_))
        | (with_reducible refine wd_t (fun _ => ?_) (fun _ => ?_))
      all_goals first | (exfalso; omega) | skip
      all_goals first | exact ⟨n, hn, rfl⟩ | exact ⟨⟨n, hn, rfl⟩, by simp [get, g4], by simp [get, g5], by simp [get, g6], by simp [get, g8], by simp [get, g18], by simp [get, g19]⟩
    | succ k =>
      obtain ⟨k1, k2, k3, k4, k5⟩ := stp_half (show k < 14 by omega)
      unfold upM at hu
      rw [stp_succ] at g20 k1
      have hfk := fun h => hF Ys (M + 2 ^ k) (by omega) h
      have kw := w64 (show -9223372036854775808 ≤ stp k by omega) (by omega)
      generalize 2 ^ k = K at *
      have e1 : ((M + K : Nat) : Int) = (M : Int) + K := by omega
      rw [e1] at hfk
      by_cases hle : M + K ≤ 10000
      · have hf := hfk hle
        have c1 : (M : Int) + K ≤ 10000 := by omega
        have c2 : (0 : Int) < K := by omega
        cases hB : fit Ys (M + K)
        · rw [hB] at hf
          rw [if_neg (by simp [hB])] at hu
          clear hF hR hfk
          repeat' first
            | ((with_reducible refine wr_isCall ?_); refine wr_P hf rfl ?_)
            | (with_reducible refine t_seq ?_)
            | (with_reducible refine t_skip ?_)
            | (with_reducible refine t_ret ?_)
            | (with_reducible refine t_end ?_)
            | (with_reducible refine t_cond ?_)
            | (with_reducible refine t_region ?_)
            | (with_reducible refine wr_done ?_)
            | ((with_reducible refine t_isDraw ?_); refine t_draw rfl (by kernel_rfl) ?_)
            | (with_reducible refine WD.done _ ?_)
            | (with_reducible refine wdp_done ?_)
            | (with_reducible refine tr_some ?_)
            | ((fail_if_success with_reducible refine t_bl ?_); (with_reducible refine t_block ?_))
            | (with_reducible refine t_inBlock ?_)
            | ((with_reducible refine t_isExit ?_); refine t_exit rfl ?_)
            | simp only [decide_eq_true_eq, decide_eq_false_iff_not, Bool.not_eq_true', Bool.not_eq_false'] at *
            | simp (disch := omega) only [go_sem, Nat.reduceLT, Nat.reduceEqDiff, Nat.reduceAdd, Nat.reduceLeDiff, Nat.reduceMul, Int.reduceLT, Int.reduceLE, Int.reduceAdd, Int.reduceSub, Int.reduceNeg, Int.reduceToNat, Int.reduceBEq, Int.reduceEq, reduceCtorEq, List.take_succ_cons, List.take_zero, List.take_nil, List.drop_succ_cons, List.drop_nil, List.cons_append, List.nil_append, List.set_cons_zero, List.set_cons_succ, ↓reduceIte, *]
            | (with_reducible refine tb_true ?_)
            | (with_reducible refine tb_false ?_)
            | (with_reducible refine tb_split (fun _ => ?_) (fun _ => ?_))
            | (with_reducible refine wg_f (fun _ => ?_) (fun _ => ?_))
            | (with_reducible refine wg_t (fun _ => ?_) (fun _ => ?_))
            | (with_reducible refine wd_f (fun _ => ?_) (fun _ => ?_))
            | (with_reducible refine wd_t (fun _ => ?_) (fun _ => ?_))
          all_goals first | (exfalso; omega) | skip
          all_goals refine t_pop ?_
          all_goals exact hrec (k, M) _ _ ⟨by simp only; omega, hM, hu, ⟨n + 1, by omega, rfl⟩, by simp [get, k1, kw], by simp [get, g4], by simp [get, g5], by simp [get, g6], by simp [get, g8], by simp [get, g18], by simp [get, g19]⟩ (by simp only; omega)
        · rw [hB] at hf
          rw [if_pos ⟨hle, hB⟩] at hu
          clear hF hR hfk
          repeat' first
            | ((with_reducible refine wr_isCall ?_); refine wr_P hf rfl ?_)
            | (with_reducible refine t_seq ?_)
            | (with_reducible refine t_skip ?_)
            | (with_reducible refine t_ret ?_)
            | (with_reducible refine t_end ?_)
            | (with_reducible refine t_cond ?_)
            | (with_reducible refine t_region ?_)
            | (with_reducible refine wr_done ?_)
            | ((with_reducible refine t_isDraw ?_); refine t_draw rfl (by kernel_rfl) ?_)
            | (with_reducible refine WD.done _ ?_)
            | (with_reducible refine wdp_done ?_)
            | (with_reducible refine tr_some ?_)
            | ((fail_if_success with_reducible refine t_bl ?_); (with_reducible refine t_block ?_))
            | (with_reducible refine t_inBlock ?_)
            | ((with_reducible refine t_isExit ?_); refine t_exit rfl ?_)
            | simp only [decide_eq_true_eq, decide_eq_false_iff_not, Bool.not_eq_true', Bool.not_eq_false'] at *
            | simp (disch := omega) only [go_sem, Nat.reduceLT, Nat.reduceEqDiff, Nat.reduceAdd, Nat.reduceLeDiff, Nat.reduceMul, Int.reduceLT, Int.reduceLE, Int.reduceAdd, Int.reduceSub, Int.reduceNeg, Int.reduceToNat, Int.reduceBEq, Int.reduceEq, reduceCtorEq, List.take_succ_cons, List.take_zero, List.take_nil, List.drop_succ_cons, List.drop_nil, List.cons_append, List.nil_append, List.set_cons_zero, List.set_cons_succ, ↓reduceIte, *]
            | (with_reducible refine tb_true ?_)
            | (with_reducible refine tb_false ?_)
            | (with_reducible refine tb_split (fun _ => ?_) (fun _ => ?_))
            | (with_reducible refine wg_f (fun _ => ?_) (fun _ => ?_))
            | (with_reducible refine wg_t (fun _ => ?_) (fun _ => ?_))
            | (with_reducible refine wd_f (fun _ => ?_) (fun _ => ?_))
            | (with_reducible refine wd_t (fun _ => ?_) (fun _ => ?_))
          all_goals first | (exfalso; omega) | skip
          all_goals refine t_pop ?_
          all_goals exact hrec (k, M + K) _ _ ⟨by simp only; omega, hle, hu, ⟨n + 1, by omega, by simp [e1]⟩, by simp [get, k1, kw], by simp [get, g4], by simp [get, g5], by simp [get, g6], by simp [get, g8], by simp [get, g18], by simp [get, g19]⟩ (by simp only; omega)
      · rw [if_neg (fun h => hle h.1)] at hu
        have c1 : ¬ (M : Int) + K ≤ 10000 := by omega
        have c2 : (0 : Int) < K := by omega
        clear hF hR hfk
        repeat' first
          | (with_reducible refine t_seq ?_)
          | (with_reducible refine t_skip ?_)
          | (with_reducible refine t_ret ?_)
          | (with_reducible refine t_end ?_)
          | (with_reducible refine t_cond ?_)
          | (with_reducible refine t_region ?_)
          | (with_reducible refine wr_done ?_)
          | ((with_reducible refine t_isDraw ?_); refine t_draw rfl (by kernel_rfl) ?_)
          | (with_reducible refine WD.done _ ?_)
          | (with_reducible refine wdp_done ?_)
          | (with_reducible refine tr_some ?_)
          | ((fail_if_success with_reducible refine t_bl ?_); (with_reducible refine t_block ?_))
          | (with_reducible refine t_inBlock ?_)
          | ((with_reducible refine t_isExit ?_); refine t_exit rfl ?_)
          | simp only [decide_eq_true_eq, decide_eq_false_iff_not, Bool.not_eq_true', Bool.not_eq_false'] at *
          | simp (disch := omega) only [go_sem, Nat.reduceLT, Nat.reduceEqDiff, Nat.reduceAdd, Nat.reduceLeDiff, Nat.reduceMul, Int.reduceLT, Int.reduceLE, Int.reduceAdd, Int.reduceSub, Int.reduceNeg, Int.reduceToNat, Int.reduceBEq, Int.reduceEq, reduceCtorEq, List.take_succ_cons, List.take_zero, List.take_nil, List.drop_succ_cons, List.drop_nil, List.cons_append, List.nil_append, List.set_cons_zero, List.set_cons_succ, ↓reduceIte, *]
          | (with_reducible refine tb_true ?_)
          | (with_reducible refine tb_false ?_)
          | (with_reducible refine tb_split (fun _ => ?_) (fun _ => ?_))
          | (with_reducible refine wg_f (fun _ => ?_) (fun _ => ?_))
          | (with_reducible refine wg_t (fun _ => ?_) (fun _ => ?_))
          | (with_reducible refine wd_f (fun _ => ?_) (fun _ => ?_))
          | (with_reducible refine wd_t (fun _ => ?_) (fun _ => ?_))
        all_goals first | (exfalso; omega) | skip
        all_goals refine t_pop ?_
        all_goals exact hrec (k, M) _ _ ⟨by simp only; omega, hM, hu, ⟨n + 1, by omega, rfl⟩, by simp [get, k1, kw], by simp [get, g4], by simp [get, g5], by simp [get, g6], by simp [get, g8], by simp [get, g18], by simp [get, g19]⟩ (by simp only; omega)
  rintro t h ⟨⟨n, hn, rfl⟩, g4, g5, g6, g8, g18, g19⟩
  have hn0 : ¬ n = 2 := by omega
  clear hF
  repeat' first
    | ((with_reducible refine wr_isCall ?_); refine wr_P hR (n3 _ _) ?_)
    | (with_reducible refine t_seq ?_)
    | (with_reducible refine t_skip ?_)
    | (with_reducible refine t_ret ?_)
    | (with_reducible refine t_end ?_)
    | (with_reducible refine t_cond ?_)
    | (with_reducible refine t_region ?_)
    | (with_reducible refine wr_done ?_)
    | ((with_reducible refine t_isDraw ?_); refine t_draw rfl (by kernel_rfl) ?_)
    | (with_reducible refine WD.done _ ?_)
    | (with_reducible refine wdp_done ?_)
    | (with_reducible refine tr_some ?_)
    | ((fail_if_success with_reducible refine t_bl ?_); (with_reducible refine t_block ?_))
    | (with_reducible refine t_inBlock ?_)
    | ((with_reducible refine t_isExit ?_); refine t_exit rfl ?_)
    | simp only [decide_eq_true_eq, decide_eq_false_iff_not, Bool.not_eq_true', Bool.not_eq_false'] at *
    | simp (disch := omega) only [go_sem, Nat.reduceLT, Nat.reduceEqDiff, Nat.reduceAdd, Nat.reduceLeDiff, Nat.reduceMul, Int.reduceLT, Int.reduceLE, Int.reduceAdd, Int.reduceSub, Int.reduceNeg, Int.reduceToNat, Int.reduceBEq, Int.reduceEq, reduceCtorEq, List.take_succ_cons, List.take_zero, List.take_nil, List.drop_succ_cons, List.drop_nil, List.cons_append, List.nil_append, List.set_cons_zero, List.set_cons_succ, ↓reduceIte, *]
    | (with_reducible refine tb_true ?_)
    | (with_reducible refine tb_false ?_)
    | (with_reducible refine tb_split (fun _ => ?_) (fun _ => ?_))
    | (with_reducible refine wg_f (fun _ => ?_) (fun _ => ?_))
    | (with_reducible refine wg_t (fun _ => ?_) (fun _ => ?_))
    | (with_reducible refine wd_f (fun _ => ?_) (fun _ => ?_))
    | (with_reducible refine wd_t (fun _ => ?_) (fun _ => ?_))
  all_goals first | (exfalso; omega) | exact ⟨rfl, rfl⟩
end Go.Proofs.YtkokongbnemkhaaGreatDoorA
/- SpanBack as a contract. -/
set_option linter.unusedVariables false
set_option linter.unusedSimpArgs false
namespace Go.Proofs.YtkokongbnemkhaaGreatDoorA
open Go Go.RowKit Go.Proofs.YtkokongbnemkhaaGreatDoorFx Go.Proofs
variable {m : Int}
set_option maxRecDepth 10000000 in
theorem grgAtD {d : Int} (h : d = 1 ∨ d = 2) : (calOf 0 grgR).At d 1 0 := by
  have e1 : (calOf 0 grgR).first 1 = 1 := by kernel_rfl
  have e2 : (calOf 0 grgR).first (1 + 1) = 366 := by kernel_rfl
  have e3 : (calOf 0 grgR).bef 1 0 = 0 := rfl
  have e4 : (calOf 0 grgR).bef 1 (0 + 1) = 31 := by kernel_rfl
  exact ⟨chkDay_ok (by omega) (by omega), by omega, by omega, by omega, by omega, by decide +kernel, by omega, by omega⟩
theorem upM_none {fit : Nat → Bool} (h : ∀ M, M ≤ 10000 → M ≠ 0 → fit M = false) : ∀ p, upM fit p 0 = 0
  | 0 => rfl
  | p + 1 => by
    unfold upM
    have hp : 0 < 2 ^ p := Nat.two_pow_pos p
    rw [if_neg (fun q => by rw [h _ q.1 (by omega)] at q; cases q.2)]
    exact upM_none h p
set_option maxRecDepth 10000000 in
theorem grgBetween : MeetsP Tryz.prog (glT m) 20 [.s grgS, .i .i64 86400000, .i .i64 172800005] (.tup [durA 0 0 1 5, .i .i64 0]) := by
  have hg := calGood (m := m) grgIn
  have e1 : (calOf 0 grgR).first 1 = 1 := by kernel_rfl
  have e4 : (calOf 0 grgR).bef 1 (0 + 1) = 31 := by kernel_rfl
  obtain ⟨N, E, hm⟩ := moved hg (q := 1) (by kernel_rfl)
  have hz := hm.zero
  have hmon := hm.mon
  have h := betweenP hg (calP (m := m) grgIn) (a := 86400000) (b := 172800005) (by kernel_rfl) (by kernel_rfl) (by omega) (ya := 1) (yb := 1) (moa := 0) (mob := 0) (grgAtD (.inl rfl)) (grgAtD (.inr rfl)) (N := N) (E := E) hm (Y0 := 0) (by decide) (Ys := 0) (Ms := 0) rfl
    (upM_none (fun M h1 h2 => by
      unfold fitS
      by_cases h0 : E 0 M = 0
      · have := hmon M h1 h2 1 0 (grgAtD (.inl rfl)) h0
        rw [e1, e4] at this
        rw [decide_eq_false (p := N 0 M * 86400000 + 86400000 % 86400000 ≤ 172800005) (by omega)]
        simp
      · simp [h0]) 14)
    (by unfold fitS; rw [hz.1, hz.2]; decide) (by omega)
  rw [hz.1] at h
  exact h
set_option maxRecDepth 100000 in
set_option maxHeartbeats 8000000 in
theorem spanBackP (k a b : Int) : MeetsP Tryz.prog (glT m) 6 [.i .i64 k, .i .i64 a, .i .i64 b] (.b true) := by
  have hone := grgBetween (m := m)
  have hn := nameP (m := m) k
  have hC := calAtP (m := m) k
  have hg := calAt_good (m := m) k
  have hct := kcutP (m := m) (a := a) (lo := 0) (n := 60480000000000) (by omega) (by omega) (by omega) (by omega)
  have hct2 := kcutP (m := m) (a := b) (lo := 0) (n := 259200000000) (by omega) (by omega) (by omega) (by omega)
  rw [Int.zero_add] at hct hct2
  have hm1 := Int.emod_nonneg a (show (60480000000000 : Int) ≠ 0 by omega)
  have hm2 := Int.emod_lt_of_pos a (show (0 : Int) < 60480000000000 by omega)
  have hm3 := Int.emod_nonneg b (show (259200000000 : Int) ≠ 0 by omega)
  have hm4 := Int.emod_lt_of_pos b (show (0 : Int) < 259200000000 by omega)
  generalize a % 60480000000000 = A at *
  generalize b % 259200000000 = B at *
  have ha : chkDay (A / 86400000) = 0 := chkDay_ok (by omega) (by omega)
  have hb : chkDay ((A + B) / 86400000) = 0 := chkDay_ok (by omega) (by omega)
  have hbad : MeetsP Tryz.prog (glT m) 20 [.s (rowAt k).name, .i .i64 A, .i .i64 (A + B)] (.tup [durA 0 0 0 0, .i .i64 3]) → MeetsP Tryz.prog (glT m) 6 [.i .i64 k, .i .i64 a, .i .i64 b] (.b true) := fun hS => by
    clear ha hb hC hg
    unfold durA grgS at *
    refine meetsP (E := (EW m)) 73 [.tmp 6] (ew m) Tryz.func6 rfl (by decide) rfl rfl (by simp) ?_
    repeat' first
      | ((with_reducible refine wr_isCall ?_); refine wr_P hone rfl ?_)
      | ((with_reducible refine wr_isCall ?_); refine wr_P hct rfl ?_)
      | ((with_reducible refine wr_isCall ?_); refine wr_P hct2 rfl ?_)
      | ((with_reducible refine wr_isCall ?_); refine wr_P hn rfl ?_)
      | ((with_reducible refine wr_isCall ?_); refine wr_P hS rfl ?_)
      | (with_reducible refine t_seq ?_)
      | (with_reducible refine t_skip ?_)
      | (with_reducible refine t_ret ?_)
      | (with_reducible refine t_end ?_)
      | (with_reducible refine t_cond ?_)
      | (with_reducible refine t_region ?_)
      | (with_reducible refine wr_done ?_)
      | ((with_reducible refine t_isDraw ?_); refine t_draw rfl (by kernel_rfl) ?_)
      | (with_reducible refine WD.done _ ?_)
      | (with_reducible refine wdp_done ?_)
      | (with_reducible refine tr_some ?_)
      | ((fail_if_success with_reducible refine t_bl ?_); (with_reducible refine t_block ?_))
      | (with_reducible refine t_inBlock ?_)
      | ((with_reducible refine t_isExit ?_); refine t_exit rfl ?_)
      | simp only [decide_eq_true_eq, decide_eq_false_iff_not, Bool.not_eq_true', Bool.not_eq_false'] at *
      | simp (disch := omega) only [go_sem, Nat.reduceLT, Nat.reduceEqDiff, Nat.reduceAdd, Nat.reduceLeDiff, Nat.reduceMul, Int.reduceLT, Int.reduceLE, Int.reduceAdd, Int.reduceSub, Int.reduceNeg, Int.reduceToNat, Int.reduceBEq, Int.reduceEq, reduceCtorEq, List.take_succ_cons, List.take_zero, List.take_nil, List.drop_succ_cons, List.drop_nil, List.cons_append, List.nil_append, List.set_cons_zero, List.set_cons_succ, ↓reduceIte, *]
      | (with_reducible refine tb_true ?_)
      | (with_reducible refine tb_false ?_)
      | (with_reducible refine tb_split (fun _ => ?_) (fun _ => ?_))
      | (with_reducible refine wg_f (fun _ => ?_) (fun _ => ?_))
      | (with_reducible refine wg_t (fun _ => ?_) (fun _ => ?_))
      | (with_reducible refine wd_f (fun _ => ?_) (fun _ => ?_))
      | (with_reducible refine wd_t (fun _ => ?_) (fun _ => ?_))
    all_goals first | (exfalso; omega) | exact ⟨rfl, rfl⟩
  rcases fromDay_all hg (A / 86400000) with hf | ⟨ya, moa, hata⟩
  · exact hbad (betweenBad hg hC ha hb (by omega) (.inl hf))
  rcases fromDay_all hg ((A + B) / 86400000) with hf | ⟨yb, mob, hatb⟩
  · exact hbad (betweenBad hg hC ha hb (by omega) (.inr ⟨⟨_, _, _, hata.run hg⟩, hf⟩))
  clear hbad
  obtain ⟨N, E, hm⟩ := moved hg ha
  have hz := hm.zero
  have hY0 : min (10000 : Int) (max 0 (yb - ya)) = ((min (10000 : Int) (max 0 (yb - ya))).toNat : Int) := by omega
  generalize hY0e : (min (10000 : Int) (max 0 (yb - ya))).toNat = Y0 at hY0
  have hY0b : Y0 ≤ 10000 := by omega
  obtain ⟨y1, y2, -⟩ := downY_spec (fun Y => fitS N E (A % 86400000) (A + B) Y 0) Y0
  generalize hYs : downY (fun Y => fitS N E (A % 86400000) (A + B) Y 0) Y0 = Ys at *
  have hf0 : fitS N E (A % 86400000) (A + B) Ys 0 = true := by
    rcases y1 with h | h
    · rw [h]; unfold fitS; rw [hz.1, hz.2]; simp; omega
    · exact h
  obtain ⟨u1, u2⟩ := upM_spec (fitS N E (A % 86400000) (A + B) Ys) 14 0 (by omega) hf0
  generalize hMs : upM (fitS N E (A % 86400000) (A + B) Ys) 14 0 = Ms at *
  have hS := betweenP hg hC ha hb (by omega) hata hatb hm hY0 hYs hMs u2 u1
  obtain ⟨v1, v2⟩ : E Ys Ms = 0 ∧ N Ys Ms * 86400000 + A % 86400000 ≤ A + B := by unfold fitS at u2; simpa using u2
  have v3 := chkDay_b (hm.far Ys Ms v1)
  have hD := addP hg ha hm (Y := Ys) (M := Ms) (by omega) u1 (D := (A + B - (N Ys Ms * 86400000 + A % 86400000)) / 86400000) (Ms := (A + B - (N Ys Ms * 86400000 + A % 86400000)) % 86400000) (by omega) (by omega)
  have he : (N Ys Ms + (A + B - (N Ys Ms * 86400000 + A % 86400000)) / 86400000) * 86400000 + A % 86400000 + (A + B - (N Ys Ms * 86400000 + A % 86400000)) % 86400000 = A + B := by omega
  unfold spR at hD
  rw [if_neg (by simp [v1]), he, if_neg (by rw [chkDay_ok (by omega) (by omega)]; simp), if_neg (by rw [hb]; simp)] at hD
  have hA := spanAddP (m := m) (by unfold inLen; omega) hC hD
  have w1 : 0 ≤ (A + B - (N Ys Ms * 86400000 + A % 86400000)) / 86400000 := by omega
  have w2 : 0 ≤ (A + B - (N Ys Ms * 86400000 + A % 86400000)) % 86400000 ∧ (A + B - (N Ys Ms * 86400000 + A % 86400000)) % 86400000 < 86400000 := by omega
  generalize (A + B - (N Ys Ms * 86400000 + A % 86400000)) / 86400000 = DD at *
  generalize (A + B - (N Ys Ms * 86400000 + A % 86400000)) % 86400000 = RR at *
  clear ha hb hC hg hata hatb hm hz hY0 hY0e y1 y2 hYs hf0 u1 u2 hMs v1 v2 v3 hD he
  unfold durA grgS at *
  refine meetsP (E := (EW m)) 73 [.tmp 6] (ew m) Tryz.func6 rfl (by decide) rfl rfl (by simp) ?_
  repeat' first
    | ((with_reducible refine wr_isCall ?_); refine wr_P hone rfl ?_)
    | ((with_reducible refine wr_isCall ?_); refine wr_P hct rfl ?_)
    | ((with_reducible refine wr_isCall ?_); refine wr_P hct2 rfl ?_)
    | ((with_reducible refine wr_isCall ?_); refine wr_P hn rfl ?_)
    | ((with_reducible refine wr_isCall ?_); refine wr_P hS rfl ?_)
    | ((with_reducible refine t_isDraw ?_); refine t_draw2 hn hA (by kernel_rfl) ?_)
    | (with_reducible refine t_seq ?_)
    | (with_reducible refine t_skip ?_)
    | (with_reducible refine t_ret ?_)
    | (with_reducible refine t_end ?_)
    | (with_reducible refine t_cond ?_)
    | (with_reducible refine t_region ?_)
    | (with_reducible refine wr_done ?_)
    | ((with_reducible refine t_isDraw ?_); refine t_draw rfl (by kernel_rfl) ?_)
    | (with_reducible refine WD.done _ ?_)
    | (with_reducible refine wdp_done ?_)
    | (with_reducible refine tr_some ?_)
    | ((fail_if_success with_reducible refine t_bl ?_); (with_reducible refine t_block ?_))
    | (with_reducible refine t_inBlock ?_)
    | ((with_reducible refine t_isExit ?_); refine t_exit rfl ?_)
    | simp only [decide_eq_true_eq, decide_eq_false_iff_not, Bool.not_eq_true', Bool.not_eq_false'] at *
    | simp (disch := omega) only [go_sem, Nat.reduceLT, Nat.reduceEqDiff, Nat.reduceAdd, Nat.reduceLeDiff, Nat.reduceMul, Int.reduceLT, Int.reduceLE, Int.reduceAdd, Int.reduceSub, Int.reduceNeg, Int.reduceToNat, Int.reduceBEq, Int.reduceEq, reduceCtorEq, List.take_succ_cons, List.take_zero, List.take_nil, List.drop_succ_cons, List.drop_nil, List.cons_append, List.nil_append, List.set_cons_zero, List.set_cons_succ, ↓reduceIte, *]
    | (with_reducible refine tb_true ?_)
    | (with_reducible refine tb_false ?_)
    | (with_reducible refine tb_split (fun _ => ?_) (fun _ => ?_))
    | (with_reducible refine wg_f (fun _ => ?_) (fun _ => ?_))
    | (with_reducible refine wg_t (fun _ => ?_) (fun _ => ?_))
    | (with_reducible refine wd_f (fun _ => ?_) (fun _ => ?_))
    | (with_reducible refine wd_t (fun _ => ?_) (fun _ => ?_))
  all_goals first | (exfalso; omega) | exact ⟨rfl, rfl⟩
end Go.Proofs.YtkokongbnemkhaaGreatDoorA
/- The helpers of package ephemeristop. -/
set_option linter.unusedVariables false
set_option linter.unusedSimpArgs false
namespace Go.Proofs.YtkokongbnemkhaaGreatDoorA
open Go Go.RowKit Go.Proofs.YtkokongbnemkhaaGreatDoorFx Go.Proofs
variable {m : Int}
theorem tmodP {a b : Int} (hb : 0 < b) (hb2 : b ≤ 1000000000000000) : MeetsP Tryz.prog (glT m) 46 [.i .i64 a, .i .i64 b] (.i .i64 (a % b)) := by
  have hm1 := Int.emod_nonneg a (show b ≠ 0 by omega)
  have hm2 := Int.emod_lt_of_pos a hb
  have hc := tmod_cases (a := a) hb
  have hz : ¬ b = 0 := by omega
  refine meetsP (E := (EW m)) 12 [.tmp 4] (ew m) Tryz.func46 rfl (by decide) rfl rfl (by simp) ?_
  repeat' first
    | (with_reducible refine t_seq ?_)
    | (with_reducible refine t_skip ?_)
    | (with_reducible refine t_ret ?_)
    | (with_reducible refine t_end ?_)
    | (with_reducible refine t_cond ?_)
    | (with_reducible refine t_region ?_)
    | (with_reducible refine wr_done ?_)
    | ((with_reducible refine t_isDraw ?_); refine t_draw rfl (by kernel_rfl) ?_)
    | (with_reducible refine WD.done _ ?_)
    | (with_reducible refine wdp_done ?_)
    | (with_reducible refine tr_some ?_)
    | ((fail_if_success with_reducible refine t_bl ?_); (with_reducible refine t_block ?_))
    | (with_reducible refine t_inBlock ?_)
    | ((with_reducible refine t_isExit ?_); refine t_exit rfl ?_)
    | simp only [decide_eq_true_eq, decide_eq_false_iff_not, Bool.not_eq_true', Bool.not_eq_false'] at *
    | simp (disch := omega) only [go_sem, Nat.reduceLT, Nat.reduceEqDiff, Nat.reduceAdd, Nat.reduceLeDiff, Nat.reduceMul, Int.reduceLT, Int.reduceLE, Int.reduceAdd, Int.reduceSub, Int.reduceNeg, Int.reduceToNat, Int.reduceBEq, Int.reduceEq, reduceCtorEq, List.take_succ_cons, List.take_zero, List.take_nil, List.drop_succ_cons, List.drop_nil, List.cons_append, List.nil_append, List.set_cons_zero, List.set_cons_succ, ↓reduceIte, *]
    | (with_reducible refine tb_true ?_)
    | (with_reducible refine tb_false ?_)
    | (with_reducible refine tb_split (fun _ => ?_) (fun _ => ?_))
    | (with_reducible refine wg_f (fun _ => ?_) (fun _ => ?_))
    | (with_reducible refine wg_t (fun _ => ?_) (fun _ => ?_))
    | (with_reducible refine wd_f (fun _ => ?_) (fun _ => ?_))
    | (with_reducible refine wd_t (fun _ => ?_) (fun _ => ?_))
  refine ⟨?_, rfl⟩
  simp only [fz]
  congr 1
  rcases hc with ⟨e1, e2, e3⟩ | ⟨e1, e2, e3, e4⟩
  · rw [e1, Int.tmod_eq_emod_of_nonneg (by omega), Int.add_emod_right, Int.emod_emod]
  · rw [e3, Int.sub_add_cancel, Int.tmod_eq_emod_of_nonneg (by omega), Int.emod_emod]
theorem tcutP {a lo n : Int} (hn : 0 < n) (hn2 : n ≤ 1000000000000000) (h1 : -1000000000000000 ≤ lo) (h2 : lo ≤ 1000000000000000) : MeetsP Tryz.prog (glT m) 24 [.i .i64 a, .i .i64 lo, .i .i64 n] (.i .i64 (lo + a % n)) := by
  have hm1 := Int.emod_nonneg a (show n ≠ 0 by omega)
  have hm2 := Int.emod_lt_of_pos a hn
  have hp := tmodP (m := m) (a := a) (b := n) hn (by omega)
  refine meetsP (E := (EW m)) 12 [.tmp 6] (ew m) Tryz.func24 rfl (by decide) rfl rfl (by simp) ?_
  repeat' first
    | ((with_reducible refine wr_isCall ?_); refine wr_P hp rfl ?_)
    | (with_reducible refine t_seq ?_)
    | (with_reducible refine t_skip ?_)
    | (with_reducible refine t_ret ?_)
    | (with_reducible refine t_end ?_)
    | (with_reducible refine t_cond ?_)
    | (with_reducible refine t_region ?_)
    | (with_reducible refine wr_done ?_)
    | ((with_reducible refine t_isDraw ?_); refine t_draw rfl (by kernel_rfl) ?_)
    | (with_reducible refine WD.done _ ?_)
    | (with_reducible refine wdp_done ?_)
    | (with_reducible refine tr_some ?_)
    | ((fail_if_success with_reducible refine t_bl ?_); (with_reducible refine t_block ?_))
    | (with_reducible refine t_inBlock ?_)
    | ((with_reducible refine t_isExit ?_); refine t_exit rfl ?_)
    | simp only [decide_eq_true_eq, decide_eq_false_iff_not, Bool.not_eq_true', Bool.not_eq_false'] at *
    | simp (disch := omega) only [go_sem, Nat.reduceLT, Nat.reduceEqDiff, Nat.reduceAdd, Nat.reduceLeDiff, Nat.reduceMul, Int.reduceLT, Int.reduceLE, Int.reduceAdd, Int.reduceSub, Int.reduceNeg, Int.reduceToNat, Int.reduceBEq, Int.reduceEq, reduceCtorEq, List.take_succ_cons, List.take_zero, List.take_nil, List.drop_succ_cons, List.drop_nil, List.cons_append, List.nil_append, List.set_cons_zero, List.set_cons_succ, ↓reduceIte, *]
    | (with_reducible refine tb_true ?_)
    | (with_reducible refine tb_false ?_)
    | (with_reducible refine tb_split (fun _ => ?_) (fun _ => ?_))
    | (with_reducible refine wg_f (fun _ => ?_) (fun _ => ?_))
    | (with_reducible refine wg_t (fun _ => ?_) (fun _ => ?_))
    | (with_reducible refine wd_f (fun _ => ?_) (fun _ => ?_))
    | (with_reducible refine wd_t (fun _ => ?_) (fun _ => ?_))
  exact ⟨rfl, rfl⟩
set_option maxRecDepth 10000000 in
theorem tnameP (a : Int) : MeetsP Tryz.prog (glT m) 25 [.i .i64 a] (.s (rowAt a).name) := by
  have h1 := namesP m
  have h2 := tmodP (m := m) (a := a) (b := 40) (by omega) (by omega)
  have h3 := pick_lt a
  unfold namesA at h1
  have hl : (catT.map fun r => [AV.s r.name]).length = 40 := by kernel_rfl
  have hr : (catT.map fun r => [AV.s r.name])[(a % 40).toNat]? = some [.s (rowAt a).name] := by
    rw [List.getElem?_map]
    exact congrArg (Option.map _) (List.getElem?_eq_getElem h3)
  generalize (catT.map fun r => [AV.s r.name]) = L at *
  have hm1 := Int.emod_nonneg a (show (40 : Int) ≠ 0 by omega)
  have hm2 := Int.emod_lt_of_pos a (show (0 : Int) < 40 by omega)
  refine meetsP (E := (EW m)) 15 [.tmp 2] (ew m) Tryz.func25 rfl (by decide) rfl rfl (by simp) ?_
  repeat' first
    | ((with_reducible refine wr_isCall ?_); refine wr_P h1 rfl ?_)
    | ((with_reducible refine wr_isCall ?_); refine wr_P h2 rfl ?_)
    | (with_reducible refine t_seq ?_)
    | (with_reducible refine t_skip ?_)
    | (with_reducible refine t_ret ?_)
    | (with_reducible refine t_end ?_)
    | (with_reducible refine t_cond ?_)
    | (with_reducible refine t_region ?_)
    | (with_reducible refine wr_done ?_)
    | ((with_reducible refine t_isDraw ?_); refine t_draw rfl (by kernel_rfl) ?_)
    | (with_reducible refine WD.done _ ?_)
    | (with_reducible refine wdp_done ?_)
    | (with_reducible refine tr_some ?_)
    | ((fail_if_success with_reducible refine t_bl ?_); (with_reducible refine t_block ?_))
    | (with_reducible refine t_inBlock ?_)
    | ((with_reducible refine t_isExit ?_); refine t_exit rfl ?_)
    | simp only [decide_eq_true_eq, decide_eq_false_iff_not, Bool.not_eq_true', Bool.not_eq_false'] at *
    | simp (disch := omega) only [go_sem, Nat.reduceLT, Nat.reduceEqDiff, Nat.reduceAdd, Nat.reduceLeDiff, Nat.reduceMul, Int.reduceLT, Int.reduceLE, Int.reduceAdd, Int.reduceSub, Int.reduceNeg, Int.reduceToNat, Int.reduceBEq, Int.reduceEq, reduceCtorEq, List.take_succ_cons, List.take_zero, List.take_nil, List.drop_succ_cons, List.drop_nil, List.cons_append, List.nil_append, List.set_cons_zero, List.set_cons_succ, ↓reduceIte, *]
    | (with_reducible refine tb_true ?_)
    | (with_reducible refine tb_false ?_)
    | (with_reducible refine tb_split (fun _ => ?_) (fun _ => ?_))
    | (with_reducible refine wg_f (fun _ => ?_) (fun _ => ?_))
    | (with_reducible refine wg_t (fun _ => ?_) (fun _ => ?_))
    | (with_reducible refine wd_f (fun _ => ?_) (fun _ => ?_))
    | (with_reducible refine wd_t (fun _ => ?_) (fun _ => ?_))
  · exfalso; omega
  · exact ⟨rfl, rfl⟩
end Go.Proofs.YtkokongbnemkhaaGreatDoorA
/- TopSpans as a contract. -/
set_option linter.unusedVariables false
set_option linter.unusedSimpArgs false
namespace Go.Proofs.YtkokongbnemkhaaGreatDoorA
open Go Go.RowKit Go.Proofs.YtkokongbnemkhaaGreatDoorFx Go.Proofs
variable {m : Int} {c : Cal}
theorem addDayG (hg : c.Good m) {s : List UInt8} (hC : MeetsP Tryz.prog (glT m) 26 [.s s] (.tup [c.A, .i .i64 0])) {t D Ms : Int} (ht : -100000000000000 ≤ t ∧ t ≤ 100000000000000) (hD : -1000000 ≤ D ∧ D ≤ 1000000) (hM : -1000000000000 ≤ Ms ∧ Ms ≤ 1000000000000) :
    MeetsP Tryz.prog (glT m) 21 [.s s, .i .i64 t, durA 0 0 D Ms] (.tup [.i .i64 (t + D * 86400000 + Ms), .i .i64 0]) := by
  have hq : chkDay (t / 86400000) = 0 := chkDay_ok (by omega) (by omega)
  obtain ⟨N, E, hm⟩ := moved hg hq
  have hz := hm.zero
  have h := addP hg hq hm (Y := 0) (M := 0) (by omega) (by omega) (D := D) (Ms := Ms) (by omega) (by omega)
  unfold spR at h
  rw [hz.1, hz.2, if_neg (by simp), if_neg (by rw [chkDay_ok (by omega) (by omega)]; simp), if_neg (by rw [chkDay_ok (by omega) (by omega)]; simp), show (t / 86400000 + D) * 86400000 + t % 86400000 + Ms = t + D * 86400000 + Ms by omega] at h
  exact spanAddP (m := m) (by unfold inLen; omega) hC h
set_option maxRecDepth 100000 in
theorem spanAddBad {s : List UInt8} {t a b d e : Int} (hin : ¬ inLen a b d e) : MeetsP Tryz.prog (glT m) 21 [.s s, .i .i64 t, durA a b d e] (.tup [.i .i64 0, .i .i64 3]) := by
  have hk := spanCheckP (m := m) a b d e
  rw [if_neg hin] at hk
  unfold durA at *
  refine meetsP (E := (EW m)) 30 [.tmp 6, .tmp 7] (ew m) Tryz.func21 rfl (by decide) rfl rfl (by simp) ?_
  repeat' first
    | ((with_reducible refine wr_isCall ?_); refine wr_P hk rfl ?_)
    | (with_reducible refine t_seq ?_)
    | (with_reducible refine t_skip ?_)
    | (with_reducible refine t_ret ?_)
    | (with_reducible refine t_end ?_)
    | (with_reducible refine t_cond ?_)
    | (with_reducible refine t_region ?_)
    | (with_reducible refine wr_done ?_)
    | ((with_reducible refine t_isDraw ?_); refine t_draw rfl (by kernel_rfl) ?_)
    | (with_reducible refine WD.done _ ?_)
    | (with_reducible refine wdp_done ?_)
    | (with_reducible refine tr_some ?_)
    | ((fail_if_success with_reducible refine t_bl ?_); (with_reducible refine t_block ?_))
    | (with_reducible refine t_inBlock ?_)
    | ((with_reducible refine t_isExit ?_); refine t_exit rfl ?_)
    | simp only [decide_eq_true_eq, decide_eq_false_iff_not, Bool.not_eq_true', Bool.not_eq_false'] at *
    | simp (disch := omega) only [go_sem, Nat.reduceLT, Nat.reduceEqDiff, Nat.reduceAdd, Nat.reduceLeDiff, Nat.reduceMul, Int.reduceLT, Int.reduceLE, Int.reduceAdd, Int.reduceSub, Int.reduceNeg, Int.reduceToNat, Int.reduceBEq, Int.reduceEq, reduceCtorEq, List.take_succ_cons, List.take_zero, List.take_nil, List.drop_succ_cons, List.drop_nil, List.cons_append, List.nil_append, List.set_cons_zero, List.set_cons_succ, ↓reduceIte, *]
    | (with_reducible refine tb_true ?_)
    | (with_reducible refine tb_false ?_)
    | (with_reducible refine tb_split (fun _ => ?_) (fun _ => ?_))
    | (with_reducible refine wg_f (fun _ => ?_) (fun _ => ?_))
    | (with_reducible refine wg_t (fun _ => ?_) (fun _ => ?_))
    | (with_reducible refine wd_f (fun _ => ?_) (fun _ => ?_))
    | (with_reducible refine wd_t (fun _ => ?_) (fun _ => ?_))
  all_goals first | (exfalso; omega) | exact ⟨rfl, rfl⟩
set_option maxRecDepth 100000 in
set_option maxHeartbeats 8000000 in
theorem topSpansP (k a b : Int) : MeetsP Tryz.prog (glT m) 10 [.i .i64 k, .i .i64 a, .i .i64 b] (.b true) := by
  have hone := addDayG (m := m) (calGood julIn) (calP (m := m) julIn) (t := 86400000) (D := 2) (Ms := 0) (by omega) (by omega) (by omega)
  rw [show (86400000 : Int) + 2 * 86400000 + 0 = 259200000 from rfl] at hone
  have hn := tnameP (m := m) k
  have hC := calAtP (m := m) k
  have hg := calAt_good (m := m) k
  have hct := tcutP (m := m) (a := a) (lo := 0) (n := 51840000000000) (by omega) (by omega) (by omega) (by omega)
  have hct2 := tcutP (m := m) (a := b) (lo := 0) (n := 345600000000) (by omega) (by omega) (by omega) (by omega)
  rw [Int.zero_add] at hct hct2
  have hm1 := Int.emod_nonneg a (show (51840000000000 : Int) ≠ 0 by omega)
  have hm2 := Int.emod_lt_of_pos a (show (0 : Int) < 51840000000000 by omega)
  have hm3 := Int.emod_nonneg b (show (345600000000 : Int) ≠ 0 by omega)
  have hm4 := Int.emod_lt_of_pos b (show (0 : Int) < 345600000000 by omega)
  generalize a % 51840000000000 = A at *
  generalize b % 345600000000 = B at *
  have ha : chkDay (A / 86400000) = 0 := chkDay_ok (by omega) (by omega)
  have hb : chkDay ((A + B) / 86400000) = 0 := chkDay_ok (by omega) (by omega)
  have hbad : MeetsP Tryz.prog (glT m) 20 [.s (rowAt k).name, .i .i64 A, .i .i64 (A + B)] (.tup [durA 0 0 0 0, .i .i64 3]) → MeetsP Tryz.prog (glT m) 10 [.i .i64 k, .i .i64 a, .i .i64 b] (.b true) := fun hS => by
    clear ha hb hC hg
    unfold durA julR julS at *
    refine meetsP (E := (EW m)) 90 [.tmp 6] (ew m) Tryz.func10 rfl (by decide) rfl rfl (by simp) ?_
    repeat' first
      | ((with_reducible refine wr_isCall ?_); refine wr_P hone rfl ?_)
      | ((with_reducible refine wr_isCall ?_); refine wr_P hct rfl ?_)
      | ((with_reducible refine wr_isCall ?_); refine wr_P hct2 rfl ?_)
      | ((with_reducible refine wr_isCall ?_); refine wr_P hn rfl ?_)
      | ((with_reducible refine wr_isCall ?_); refine wr_P hS rfl ?_)
      | (with_reducible refine t_seq ?_)
      | (with_reducible refine t_skip ?_)
      | (with_reducible refine t_ret ?_)
      | (with_reducible refine t_end ?_)
      | (with_reducible refine t_cond ?_)
      | (with_reducible refine t_region ?_)
      | (with_reducible refine wr_done ?_)
      | fail
      | (with_reducible refine WD.done _ ?_)
      | (with_reducible refine wdp_done ?_)
      | (with_reducible refine tr_some ?_)
      | ((fail_if_success with_reducible refine t_bl ?_); (with_reducible refine t_block ?_))
      | (with_reducible refine t_inBlock ?_)
      | ((with_reducible refine t_isExit ?_); refine t_exit rfl ?_)
      | simp only [decide_eq_true_eq, decide_eq_false_iff_not, Bool.not_eq_true', Bool.not_eq_false'] at *
      | simp (disch := omega) only [go_sem, Nat.reduceLT, Nat.reduceEqDiff, Nat.reduceAdd, Nat.reduceLeDiff, Nat.reduceMul, Int.reduceLT, Int.reduceLE, Int.reduceAdd, Int.reduceSub, Int.reduceNeg, Int.reduceToNat, Int.reduceBEq, Int.reduceEq, reduceCtorEq, List.take_succ_cons, List.take_zero, List.take_nil, List.drop_succ_cons, List.drop_nil, List.cons_append, List.nil_append, List.set_cons_zero, List.set_cons_succ, ↓reduceIte, *]
      | (with_reducible refine tb_true ?_)
      | (with_reducible refine tb_false ?_)
      | (with_reducible refine tb_split (fun _ => ?_) (fun _ => ?_))
      | (with_reducible refine wg_f (fun _ => ?_) (fun _ => ?_))
      | (with_reducible refine wg_t (fun _ => ?_) (fun _ => ?_))
      | (with_reducible refine wd_f (fun _ => ?_) (fun _ => ?_))
      | (with_reducible refine wd_t (fun _ => ?_) (fun _ => ?_))
    all_goals first | (exfalso; omega) | exact ⟨rfl, rfl⟩
  rcases fromDay_all hg (A / 86400000) with hf | ⟨ya, moa, hata⟩
  · exact hbad (betweenBad hg hC ha hb (by omega) (.inl hf))
  rcases fromDay_all hg ((A + B) / 86400000) with hf | ⟨yb, mob, hatb⟩
  · exact hbad (betweenBad hg hC ha hb (by omega) (.inr ⟨⟨_, _, _, hata.run hg⟩, hf⟩))
  clear hbad
  obtain ⟨N, E, hm⟩ := moved hg ha
  have hz := hm.zero
  have hY0 : min (10000 : Int) (max 0 (yb - ya)) = ((min (10000 : Int) (max 0 (yb - ya))).toNat : Int) := by omega
  generalize hY0e : (min (10000 : Int) (max 0 (yb - ya))).toNat = Y0 at hY0
  have hY0b : Y0 ≤ 10000 := by omega
  obtain ⟨y1, y2, y3⟩ := downY_spec (fun Y => fitS N E (A % 86400000) (A + B) Y 0) Y0
  generalize hYs : downY (fun Y => fitS N E (A % 86400000) (A + B) Y 0) Y0 = Ys at *
  have hf0 : fitS N E (A % 86400000) (A + B) Ys 0 = true := by
    rcases y1 with h | h
    · rw [h]; unfold fitS; rw [hz.1, hz.2]; simp; omega
    · exact h
  obtain ⟨u1, u2⟩ := upM_spec (fitS N E (A % 86400000) (A + B) Ys) 14 0 (by omega) hf0
  generalize hMs : upM (fitS N E (A % 86400000) (A + B) Ys) 14 0 = Ms at *
  have hS := betweenP hg hC ha hb (by omega) hata hatb hm hY0 hYs hMs u2 u1
  obtain ⟨v1, v2⟩ : E Ys Ms = 0 ∧ N Ys Ms * 86400000 + A % 86400000 ≤ A + B := by unfold fitS at u2; simpa using u2
  have v3 := chkDay_b (hm.far Ys Ms v1)
  have hD := addP hg ha hm (Y := Ys) (M := Ms) (by omega) u1 (D := (A + B - (N Ys Ms * 86400000 + A % 86400000)) / 86400000) (Ms := (A + B - (N Ys Ms * 86400000 + A % 86400000)) % 86400000) (by omega) (by omega)
  have he : (N Ys Ms + (A + B - (N Ys Ms * 86400000 + A % 86400000)) / 86400000) * 86400000 + A % 86400000 + (A + B - (N Ys Ms * 86400000 + A % 86400000)) % 86400000 = A + B := by omega
  unfold spR at hD
  rw [if_neg (by simp [v1]), he, if_neg (by rw [chkDay_ok (by omega) (by omega)]; simp), if_neg (by rw [hb]; simp)] at hD
  have hin : inLen Ys Ms ((A + B - (N Ys Ms * 86400000 + A % 86400000)) / 86400000) ((A + B - (N Ys Ms * 86400000 + A % 86400000)) % 86400000) := by unfold inLen; omega
  have hA := spanAddP (m := m) hin hC hD
  have hT := spanTextP (m := m) hin
  have hR := spanReadP (m := m) hin
  have hL : ∃ x e : Int, MeetsP Tryz.prog (glT m) 21 [.s (rowAt k).name, .i .i64 A, durA ((Ys : Int) + 1) 0 0 0] (.tup [.i .i64 x, .i .i64 e]) ∧ (e = 3 ∨ (e = 0 ∧ A + B < x)) := by
    by_cases h1 : Ys + 1 ≤ 10000
    · have hX := addP hg ha hm (Y := Ys + 1) (M := 0) h1 (by omega) (D := 0) (Ms := 0) (by omega) (by omega)
      have hcast : ((Ys + 1 : Nat) : Int) = (Ys : Int) + 1 := by omega
      rw [hcast] at hX
      have hin2 : inLen ((Ys : Int) + 1) 0 0 0 := by unfold inLen; omega
      rcases spR_fit hm (r := A % 86400000) (by omega) (by omega) (Ys + 1) 0 with ⟨g1, g2⟩ | ⟨g1, g2⟩
      · rw [g2] at hX
        refine ⟨_, _, spanAddP (m := m) hin2 hC hX, .inr ⟨rfl, ?_⟩⟩
        rcases Nat.lt_or_ge Ys Y0 with q | q
        · have := y3 (Ys + 1) (by omega) (by omega)
          unfold fitS at this
          rw [g1] at this
          simp at this
          omega
        · have hl := hm.late (Ys + 1) 0 h1 (by omega) (.inl (by omega)) ya moa hata g1
          rw [hcast] at hl
          have hf := hg.toOk.first_mono (show yb + 1 ≤ ya + ((Ys : Int) + 1) by omega)
          have := hatb.b
          omega
      · rw [g2] at hX
        exact ⟨_, _, spanAddP (m := m) hin2 hC hX, .inl rfl⟩
    · exact ⟨_, _, spanAddBad (m := m) (by unfold inLen; omega), .inl rfl⟩
  obtain ⟨LX, LE, hL1, hL2⟩ := hL
  have w1 : (Ys : Int) ≤ 10000 := by omega
  generalize (A + B - (N Ys Ms * 86400000 + A % 86400000)) / 86400000 = DD at *
  generalize (A + B - (N Ys Ms * 86400000 + A % 86400000)) % 86400000 = RR at *
  generalize durT (durV Ys Ms DD RR) = S at *
  clear ha hb hC hg hata hatb hm hz hY0 hY0e y1 y2 y3 hYs hf0 u1 u2 hMs v1 v2 v3 hD he hin
  unfold durA julR julS at *
  refine meetsP (E := (EW m)) 90 [.tmp 6] (ew m) Tryz.func10 rfl (by decide) rfl rfl (by simp) ?_
  repeat' first
    | ((with_reducible refine wr_isCall ?_); refine wr_P hone rfl ?_)
    | ((with_reducible refine wr_isCall ?_); refine wr_P hct rfl ?_)
    | ((with_reducible refine wr_isCall ?_); refine wr_P hct2 rfl ?_)
    | ((with_reducible refine wr_isCall ?_); refine wr_P hn rfl ?_)
    | ((with_reducible refine wr_isCall ?_); refine wr_P hS rfl ?_)
    | ((with_reducible refine wr_isCall ?_); refine wr_P hT rfl ?_)
    | ((with_reducible refine wr_isCall ?_); refine wr_P hR rfl ?_)
    | (with_reducible refine t_seq ?_)
    | (with_reducible refine t_skip ?_)
    | (with_reducible refine t_ret ?_)
    | (with_reducible refine t_end ?_)
    | (with_reducible refine t_cond ?_)
    | (with_reducible refine t_region ?_)
    | (with_reducible refine wr_done ?_)
    | fail
    | (with_reducible refine WD.done _ ?_)
    | (with_reducible refine wdp_done ?_)
    | (with_reducible refine tr_some ?_)
    | ((fail_if_success with_reducible refine t_bl ?_); (with_reducible refine t_block ?_))
    | (with_reducible refine t_inBlock ?_)
    | ((with_reducible refine t_isExit ?_); refine t_exit rfl ?_)
    | simp only [decide_eq_true_eq, decide_eq_false_iff_not, Bool.not_eq_true', Bool.not_eq_false'] at *
    | simp (disch := omega) only [go_sem, Nat.reduceLT, Nat.reduceEqDiff, Nat.reduceAdd, Nat.reduceLeDiff, Nat.reduceMul, Int.reduceLT, Int.reduceLE, Int.reduceAdd, Int.reduceSub, Int.reduceNeg, Int.reduceToNat, Int.reduceBEq, Int.reduceEq, reduceCtorEq, List.take_succ_cons, List.take_zero, List.take_nil, List.drop_succ_cons, List.drop_nil, List.cons_append, List.nil_append, List.set_cons_zero, List.set_cons_succ, ↓reduceIte, *]
    | (with_reducible refine tb_true ?_)
    | (with_reducible refine tb_false ?_)
    | (with_reducible refine tb_split (fun _ => ?_) (fun _ => ?_))
    | (with_reducible refine wg_f (fun _ => ?_) (fun _ => ?_))
    | (with_reducible refine wg_t (fun _ => ?_) (fun _ => ?_))
    | (with_reducible refine wd_f (fun _ => ?_) (fun _ => ?_))
    | (with_reducible refine wd_t (fun _ => ?_) (fun _ => ?_))
  all_goals first | (exfalso; omega) | skip
  refine t_draw2 hn hA (by kernel_rfl) ?_
  repeat' first
    | (with_reducible refine t_seq ?_)
    | (with_reducible refine t_skip ?_)
    | (with_reducible refine t_ret ?_)
    | (with_reducible refine t_end ?_)
    | (with_reducible refine t_cond ?_)
    | (with_reducible refine t_region ?_)
    | (with_reducible refine wr_done ?_)
    | fail
    | (with_reducible refine WD.done _ ?_)
    | (with_reducible refine wdp_done ?_)
    | (with_reducible refine tr_some ?_)
    | ((fail_if_success with_reducible refine t_bl ?_); (with_reducible refine t_block ?_))
    | (with_reducible refine t_inBlock ?_)
    | ((with_reducible refine t_isExit ?_); refine t_exit rfl ?_)
    | simp only [decide_eq_true_eq, decide_eq_false_iff_not, Bool.not_eq_true', Bool.not_eq_false'] at *
    | simp (disch := omega) only [go_sem, Nat.reduceLT, Nat.reduceEqDiff, Nat.reduceAdd, Nat.reduceLeDiff, Nat.reduceMul, Int.reduceLT, Int.reduceLE, Int.reduceAdd, Int.reduceSub, Int.reduceNeg, Int.reduceToNat, Int.reduceBEq, Int.reduceEq, reduceCtorEq, List.take_succ_cons, List.take_zero, List.take_nil, List.drop_succ_cons, List.drop_nil, List.cons_append, List.nil_append, List.set_cons_zero, List.set_cons_succ, ↓reduceIte, *]
    | (with_reducible refine tb_true ?_)
    | (with_reducible refine tb_false ?_)
    | (with_reducible refine tb_split (fun _ => ?_) (fun _ => ?_))
    | (with_reducible refine wg_f (fun _ => ?_) (fun _ => ?_))
    | (with_reducible refine wg_t (fun _ => ?_) (fun _ => ?_))
    | (with_reducible refine wd_f (fun _ => ?_) (fun _ => ?_))
    | (with_reducible refine wd_t (fun _ => ?_) (fun _ => ?_))
  all_goals first | (exfalso; omega) | skip
  refine t_draw2 hn hL1 (by kernel_rfl) ?_
  rcases hL2 with rfl | ⟨rfl, hgt⟩
  · repeat' first
      | (with_reducible refine t_seq ?_)
      | (with_reducible refine t_skip ?_)
      | (with_reducible refine t_ret ?_)
      | (with_reducible refine t_end ?_)
      | (with_reducible refine t_cond ?_)
      | (with_reducible refine t_region ?_)
      | (with_reducible refine wr_done ?_)
      | fail
      | (with_reducible refine WD.done _ ?_)
      | (with_reducible refine wdp_done ?_)
      | (with_reducible refine tr_some ?_)
      | ((fail_if_success with_reducible refine t_bl ?_); (with_reducible refine t_block ?_))
      | (with_reducible refine t_inBlock ?_)
      | ((with_reducible refine t_isExit ?_); refine t_exit rfl ?_)
      | simp only [decide_eq_true_eq, decide_eq_false_iff_not, Bool.not_eq_true', Bool.not_eq_false'] at *
      | simp (disch := omega) only [go_sem, Nat.reduceLT, Nat.reduceEqDiff, Nat.reduceAdd, Nat.reduceLeDiff, Nat.reduceMul, Int.reduceLT, Int.reduceLE, Int.reduceAdd, Int.reduceSub, Int.reduceNeg, Int.reduceToNat, Int.reduceBEq, Int.reduceEq, reduceCtorEq, List.take_succ_cons, List.take_zero, List.take_nil, List.drop_succ_cons, List.drop_nil, List.cons_append, List.nil_append, List.set_cons_zero, List.set_cons_succ, ↓reduceIte, *]
      | (with_reducible refine tb_true ?_)
      | (with_reducible refine tb_false ?_)
      | (with_reducible refine tb_split (fun _ => ?_) (fun _ => ?_))
      | (with_reducible refine wg_f (fun _ => ?_) (fun _ => ?_))
      | (with_reducible refine wg_t (fun _ => ?_) (fun _ => ?_))
      | (with_reducible refine wd_f (fun _ => ?_) (fun _ => ?_))
      | (with_reducible refine wd_t (fun _ => ?_) (fun _ => ?_))
    all_goals first | (exfalso; omega) | exact ⟨rfl, rfl⟩
  · repeat' first
      | (with_reducible refine t_seq ?_)
      | (with_reducible refine t_skip ?_)
      | (with_reducible refine t_ret ?_)
      | (with_reducible refine t_end ?_)
      | (with_reducible refine t_cond ?_)
      | (with_reducible refine t_region ?_)
      | (with_reducible refine wr_done ?_)
      | fail
      | (with_reducible refine WD.done _ ?_)
      | (with_reducible refine wdp_done ?_)
      | (with_reducible refine tr_some ?_)
      | ((fail_if_success with_reducible refine t_bl ?_); (with_reducible refine t_block ?_))
      | (with_reducible refine t_inBlock ?_)
      | ((with_reducible refine t_isExit ?_); refine t_exit rfl ?_)
      | simp only [decide_eq_true_eq, decide_eq_false_iff_not, Bool.not_eq_true', Bool.not_eq_false'] at *
      | simp (disch := omega) only [go_sem, Nat.reduceLT, Nat.reduceEqDiff, Nat.reduceAdd, Nat.reduceLeDiff, Nat.reduceMul, Int.reduceLT, Int.reduceLE, Int.reduceAdd, Int.reduceSub, Int.reduceNeg, Int.reduceToNat, Int.reduceBEq, Int.reduceEq, reduceCtorEq, List.take_succ_cons, List.take_zero, List.take_nil, List.drop_succ_cons, List.drop_nil, List.cons_append, List.nil_append, List.set_cons_zero, List.set_cons_succ, ↓reduceIte, *]
      | (with_reducible refine tb_true ?_)
      | (with_reducible refine tb_false ?_)
      | (with_reducible refine tb_split (fun _ => ?_) (fun _ => ?_))
      | (with_reducible refine wg_f (fun _ => ?_) (fun _ => ?_))
      | (with_reducible refine wg_t (fun _ => ?_) (fun _ => ?_))
      | (with_reducible refine wd_f (fun _ => ?_) (fun _ => ?_))
      | (with_reducible refine wd_t (fun _ => ?_) (fun _ => ?_))
    all_goals first | (exfalso; omega) | exact ⟨rfl, rfl⟩
end Go.Proofs.YtkokongbnemkhaaGreatDoorA
