/- era.Find. -/
import Derived.Test.YtkokongbnemkhaaGreatDoorPW36
set_option linter.unusedVariables false
set_option linter.unusedSimpArgs false
namespace Go.Proofs.YtkokongbnemkhaaGreatDoorA
open Go Go.RowKit Go.Proofs.YtkokongbnemkhaaGreatDoorFx Go.Proofs
variable {m : Int}
set_option maxRecDepth 100000 in
set_option maxHeartbeats 2000000 in
theorem findRange (l : Reigns) (hs : ∀ p ∈ l, p.1.length ≤ 140737488351232) (h : rgChk l = 0) {c : Cal} {s nm : List UInt8} {mode y mo d : Int} (hm : mode = 1 ∨ mode = 2) (hC : MeetsP Tryz.prog (glT m) 26 [.s s] (.tup [c.A, .i .i64 0])) (hy : y < -10000 ∨ 10000 < y) :
    MeetsP Tryz.prog (glT m) 19 [rgA l, .s s, .i .i64 mode, .s nm, dateA y mo d] (resD .nils 3) := by
  have hc := eraBegin (m := m) l hs h hm hC
  unfold rgA resD dateA at *
  generalize rgRows l = R at *
  obtain ⟨y1, y2, y3, y4, y5, hy', ⟨o1, o2, o3, o4, o5⟩, n2⟩ := cal_gen c
  rw [hy'] at hc
  refine meetsP (E := (EW m)) 107 [.tmp 10, .tmp 11] (ew m) Tryz.func19 rfl (by decide) rfl rfl (by simp) ?_
  repeat' first
    | ((with_reducible refine wr_isCall ?_); refine wr_P hc rfl ?_)
    | (with_reducible refine t_seq ?_)
    | (with_reducible refine t_skip ?_)
    | (with_reducible refine t_ret ?_)
    | (with_reducible refine t_end ?_)
    | (with_reducible refine t_cond ?_)
    | (with_reducible refine t_region ?_)
    | (with_reducible refine wr_done ?_)
    | ((with_reducible refine t_isDraw ?_); refine t_draw rfl (by kernel_rfl) ?_)
    | (with_reducible refine WD.done _ ?_)
    | (with_reducible refine wdp_done ?_)
    | (with_reducible refine tr_some ?_)
    | ((fail_if_success with_reducible refine t_bl ?_); (with_reducible refine t_block ?_))
    | (with_reducible refine t_inBlock ?_)
    | ((with_reducible refine t_isExit ?_); refine t_exit rfl ?_)
    | simp only [decide_eq_true_eq, decide_eq_false_iff_not, Bool.not_eq_true', Bool.not_eq_false'] at *
    | simp (disch := omega) only [go_sem, Nat.reduceLT, Nat.reduceEqDiff, Nat.reduceAdd, Nat.reduceLeDiff, Nat.reduceMul, Int.reduceLT, Int.reduceLE, Int.reduceAdd, Int.reduceSub, Int.reduceNeg, Int.reduceToNat, Int.reduceBEq, Int.reduceEq, reduceCtorEq, List.take_succ_cons, List.take_zero, List.take_nil, List.drop_succ_cons, List.drop_nil, List.cons_append, List.nil_append, List.set_cons_zero, List.set_cons_succ, ↓reduceIte, *]
    | (with_reducible refine tb_true ?_)
    | (with_reducible refine tb_false ?_)
    | (with_reducible refine tb_split (fun _ => ?_) (fun _ => ?_))
    | (with_reducible refine wg_f (fun _ => ?_) (fun _ => ?_))
    | (with_reducible refine wg_t (fun _ => ?_) (fun _ => ?_))
    | (with_reducible refine wd_f (fun _ => ?_) (fun _ => ?_))
    | (with_reducible refine wd_t (fun _ => ?_) (fun _ => ?_))
  all_goals first | (exfalso; omega) | exact ⟨rfl, rfl⟩
set_option maxRecDepth 100000 in
set_option maxHeartbeats 8000000 in
theorem findIn (l : Reigns) (hs : ∀ p ∈ l, p.1.length ≤ 140737488351232) (h : rgChk l = 0) {c : Cal} {q s : List UInt8} {mode y mo d : Int} (hm : mode = 1 ∨ mode = 2) (hC : MeetsP Tryz.prog (glT m) 26 [.s q] (.tup [c.A, .i .i64 0])) (hy : -10000 ≤ y ∧ y ≤ 10000)
    {N E : Nat → Int} (hask : ∀ i, i < l.length → (rgN l i ≠ s → E i ≠ 0) ∧ (rgN l i = s → (MeetsP Tryz.prog (glT m) 27 [c.A, .i .i64 ((rgR l).f i)] (resD (dateA 0 0 0) 3) ∧ E i ≠ 0) ∨
      ∃ fy fm fd, -10000 ≤ fy ∧ fy ≤ 10000 ∧ MeetsP Tryz.prog (glT m) 27 [c.A, .i .i64 ((rgR l).f i)] (resD (dateA fy fm fd) 0) ∧ MeetsP Tryz.prog (glT m) 37 [c.A, dateA (fy + y - xtr mode) mo d] (resD (.i .i64 (N i)) (E i)) ∧ True)) :
    MeetsP Tryz.prog (glT m) 19 [rgA l, .s q, .i .i64 mode, .s s, dateA y mo d] (resD (lstA ((rgR l).days N E l.length)) 0) := by
  have hc := eraBegin (m := m) l hs h hm hC
  have hok := rgChk_ok h
  have hl2 := hok.l2
  have hrow := fun i hi => rg_row (l := l) (i := i) hi
  have hlen := rgRows_len l
  have hx := xtrP (m := m) mode
  have hxb : 0 ≤ xtr mode ∧ xtr mode ≤ 1 := by unfold xtr; split <;> omega
  generalize xtr mode = X at *
  have hdl := (rgR l).days_len N E
  have hd0 : (rgR l).days N E 0 = [] := rfl
  have hds : ∀ i, (rgR l).days N E (i + 1) = (rgR l).days N E i ++ (rgR l).pick N E i := fun i => rfl
  have hpk : ∀ i, (E i = 0 ∧ (rgR l).f i ≤ N i ∧ (i + 1 = l.length ∨ N i < (rgR l).f (i + 1))) → (rgR l).pick N E i = [N i] := fun i h => by unfold Ref.pick; rw [if_pos (by rw [rgR_len]; exact h)]
  have hpn : ∀ i, ¬ (E i = 0 ∧ (rgR l).f i ≤ N i ∧ (i + 1 = l.length ∨ N i < (rgR l).f (i + 1))) → (rgR l).pick N E i = [] := fun i h => by unfold Ref.pick; rw [if_neg (by rw [rgR_len]; exact h)]
  generalize (rgR l).days N E = DL at *
  generalize (rgR l).pick N E = PK at *
  unfold rgA resD dateA at *
  generalize rgRows l = R at *
  obtain ⟨y1, y2, y3, y4, y5, hy', ⟨o1, o2, o3, o4, o5⟩, n2⟩ := cal_gen c
  rw [hy'] at hc
  simp only [hy'] at hask
  refine meetsP (E := (EW m)) 107 [.tmp 10, .tmp 11] (ew m) Tryz.func19 rfl (by decide) rfl rfl (by simp) ?_
  repeat' first
    | ((with_reducible refine wr_isCall ?_); refine wr_P hc rfl ?_)
    | (with_reducible refine t_seq ?_)
    | (with_reducible refine t_skip ?_)
    | (with_reducible refine t_ret ?_)
    | (with_reducible refine t_end ?_)
    | (with_reducible refine t_cond ?_)
    | (with_reducible refine t_region ?_)
    | (with_reducible refine wr_done ?_)
    | ((with_reducible refine t_isDraw ?_); refine t_draw rfl (by kernel_rfl) ?_)
    | (with_reducible refine WD.done _ ?_)
    | (with_reducible refine wdp_done ?_)
    | (with_reducible refine tr_some ?_)
    | ((fail_if_success with_reducible refine t_bl ?_); (with_reducible refine t_block ?_))
    | (with_reducible refine t_inBlock ?_)
    | ((with_reducible refine t_isExit ?_); refine t_exit rfl ?_)
    | simp only [decide_eq_true_eq, decide_eq_false_iff_not, Bool.not_eq_true', Bool.not_eq_false'] at *
    | simp (disch := omega) only [go_sem, Nat.reduceLT, Nat.reduceEqDiff, Nat.reduceAdd, Nat.reduceLeDiff, Nat.reduceMul, Int.reduceLT, Int.reduceLE, Int.reduceAdd, Int.reduceSub, Int.reduceNeg, Int.reduceToNat, Int.reduceBEq, Int.reduceEq, reduceCtorEq, List.take_succ_cons, List.take_zero, List.take_nil, List.drop_succ_cons, List.drop_nil, List.cons_append, List.nil_append, List.set_cons_zero, List.set_cons_succ, ↓reduceIte, *]
    | (with_reducible refine tb_true ?_)
    | (with_reducible refine tb_false ?_)
    | (with_reducible refine tb_split (fun _ => ?_) (fun _ => ?_))
    | (with_reducible refine wg_f (fun _ => ?_) (fun _ => ?_))
    | (with_reducible refine wg_t (fun _ => ?_) (fun _ => ?_))
    | (with_reducible refine wd_f (fun _ => ?_) (fun _ => ?_))
    | (with_reducible refine wd_t (fun _ => ?_) (fun _ => ?_))
  all_goals first | (exfalso; omega) | skip
  refine t_while (I := fun (i : Nat) t h => i ≤ l.length ∧ (∃ n e L, 2 ≤ n ∧ LpB 2 (DL i) n e L ∧ h = ⟨L ++ [(1, .rows 5 [[y1, y2, y3, y4, y5]]), (0, .rows 3 [[.i .i64 y, .i .i64 mo, .i .i64 d]])], n⟩ ∧ get t 14 = e) ∧ get t 0 = .isl false 2 R ∧ get t 2 = .i .i64 mode ∧ get t 3 = .s s ∧ get t 9 = .ptr 0 0 0 ∧ get t 12 = .ptr 1 0 0 ∧ get t 38 = .isl false 2 R ∧ get t 39 = .i .i64 l.length ∧ get t 40 = .i .i64 i) (m := fun i => l.length - i)
    (J := fun t h => ∃ n e L, 2 ≤ n ∧ LpB 2 (DL l.length) n e L ∧ h = ⟨L ++ [(1, .rows 5 [[y1, y2, y3, y4, y5]]), (0, .rows 3 [[.i .i64 y, .i .i64 mo, .i .i64 d]])], n⟩ ∧ get t 14 = e) 0
    ⟨by omega, ⟨2, .nils, [], by omega, .inl ⟨hd0, rfl, rfl⟩, rfl, by simp [get]⟩, by simp [get], by simp [get], by simp [get], by simp [get], by simp [get], by simp [get], by simp [get, hlen], by simp [get]⟩ ?_ ?_
  · rintro i t h ⟨hi, ⟨n, e, L, hn, hLp, rfl, g14⟩, g0, g2, g3, g9, g12, g38, g39, g40⟩ hrec hex
    by_cases hi' : i < l.length
    · have hrw := hrow i hi'
      obtain ⟨h1, h2⟩ := hask i hi'
      have hs1 := hds i
      have hp1 := hpk i
      have hp2 := hpn i
      have hlen2 := hdl i
      have hnx := fun h => hrow (i + 1) h
      have e1 : ((i : Int) + 1).toNat = i + 1 := by omega
      clear hrow hask hds hpk hpn
      generalize N i = Ni at *
      generalize E i = Ei at *
      have hn0 : ¬ n = 0 := by omega
      have hn1 : ¬ n = 1 := by omega
      rcases hLp with ⟨z1, rfl, rfl⟩ | ⟨id, i0, i1, i2, rfl, rfl⟩
      · rw [z1] at hs1
        simp only [List.nil_append] at *
        by_cases hsn : rgN l i = s
        case neg =>
          have hen := h1 hsn
          clear h2
          repeat' first
            | ((with_reducible refine wr_isCall ?_); refine wr_P hc rfl ?_)
            | (with_reducible refine t_seq ?_)
            | (with_reducible refine t_skip ?_)
            | (with_reducible refine t_ret ?_)
            | (with_reducible refine t_end ?_)
            | (with_reducible refine t_cond ?_)
            | (with_reducible refine t_region ?_)
            | (with_reducible refine wr_done ?_)
            | ((with_reducible refine t_isDraw ?_); refine t_draw rfl (by kernel_rfl) ?_)
            | (with_reducible refine WD.done _ ?_)
            | (with_reducible refine wdp_done ?_)
            | (with_reducible refine tr_some ?_)
            | ((fail_if_success with_reducible refine t_bl ?_); (with_reducible refine t_block ?_))
            | (with_reducible refine t_inBlock ?_)
            | ((with_reducible refine t_isExit ?_); refine t_exit rfl ?_)
            | simp only [decide_eq_true_eq, decide_eq_false_iff_not, Bool.not_eq_true', Bool.not_eq_false'] at *
            | simp (disch := omega) only [go_sem, Nat.reduceLT, Nat.reduceEqDiff, Nat.reduceAdd, Nat.reduceLeDiff, Nat.reduceMul, Int.reduceLT, Int.reduceLE, Int.reduceAdd, Int.reduceSub, Int.reduceNeg, Int.reduceToNat, Int.reduceBEq, Int.reduceEq, reduceCtorEq, List.take_succ_cons, List.take_zero, List.take_nil, List.drop_succ_cons, List.drop_nil, List.cons_append, List.nil_append, List.set_cons_zero, List.set_cons_succ, ↓reduceIte, *]
            | (with_reducible refine tb_true ?_)
            | (with_reducible refine tb_false ?_)
            | (with_reducible refine tb_split (fun _ => ?_) (fun _ => ?_))
            | (with_reducible refine wg_f (fun _ => ?_) (fun _ => ?_))
            | (with_reducible refine wg_t (fun _ => ?_) (fun _ => ?_))
            | (with_reducible refine wd_f (fun _ => ?_) (fun _ => ?_))
            | (with_reducible refine wd_t (fun _ => ?_) (fun _ => ?_))
          all_goals first
            | (exfalso; omega)
            | (exfalso; simp_all; done)
            | (have hpe := hp2 (by omega)
               rw [hpe] at hs1
               refine t_pop ?_
               exact hrec (i + 1) _ _ ⟨by omega, ⟨n + 1, .nils, [], by omega, .inl ⟨hs1, rfl, rfl⟩, rfl, by simp [get, g14]⟩, by simp [get, g0], by simp [get, g2], by simp [get, g3], by simp [get, g9], by simp [get, g12], by simp [get, g38], by simp [get, g39], by simp [get] <;> omega⟩ (by omega))
        rcases h2 hsn with ⟨hF, hen⟩ | ⟨fy, fm, fd, b1, b2, hF, hT, -⟩
        · clear h1
          repeat' first
            | ((with_reducible refine wr_isCall ?_); refine wr_P hF (n2 _) ?_)
            | (with_reducible refine t_seq ?_)
            | (with_reducible refine t_skip ?_)
            | (with_reducible refine t_ret ?_)
            | (with_reducible refine t_end ?_)
            | (with_reducible refine t_cond ?_)
            | (with_reducible refine t_region ?_)
            | (with_reducible refine wr_done ?_)
            | ((with_reducible refine t_isDraw ?_); refine t_draw rfl (by kernel_rfl) ?_)
            | (with_reducible refine WD.done _ ?_)
            | (with_reducible refine wdp_done ?_)
            | (with_reducible refine tr_some ?_)
            | ((fail_if_success with_reducible refine t_bl ?_); (with_reducible refine t_block ?_))
            | (with_reducible refine t_inBlock ?_)
            | ((with_reducible refine t_isExit ?_); refine t_exit rfl ?_)
            | simp only [decide_eq_true_eq, decide_eq_false_iff_not, Bool.not_eq_true', Bool.not_eq_false'] at *
            | simp (disch := omega) only [go_sem, Nat.reduceLT, Nat.reduceEqDiff, Nat.reduceAdd, Nat.reduceLeDiff, Nat.reduceMul, Int.reduceLT, Int.reduceLE, Int.reduceAdd, Int.reduceSub, Int.reduceNeg, Int.reduceToNat, Int.reduceBEq, Int.reduceEq, reduceCtorEq, List.take_succ_cons, List.take_zero, List.take_nil, List.drop_succ_cons, List.drop_nil, List.cons_append, List.nil_append, List.set_cons_zero, List.set_cons_succ, ↓reduceIte, *]
            | (with_reducible refine tb_true ?_)
            | (with_reducible refine tb_false ?_)
            | (with_reducible refine tb_split (fun _ => ?_) (fun _ => ?_))
            | (with_reducible refine wg_f (fun _ => ?_) (fun _ => ?_))
            | (with_reducible refine wg_t (fun _ => ?_) (fun _ => ?_))
            | (with_reducible refine wd_f (fun _ => ?_) (fun _ => ?_))
            | (with_reducible refine wd_t (fun _ => ?_) (fun _ => ?_))
          all_goals first
            | (exfalso; omega)
            | (exfalso; simp_all; done)
            | (have hpe := hp2 (by omega)
               rw [hpe] at hs1
               refine t_fg (Sub.of_sublist (.cons _ (.cons _ (List.Sublist.refl _))) (Nat.le_refl _)) ?_
               exact hrec (i + 1) _ _ ⟨by omega, ⟨n + 2, .nils, [], by omega, .inl ⟨hs1, rfl, rfl⟩, rfl, by simp [get, g14]⟩, by simp [get, g0], by simp [get, g2], by simp [get, g3], by simp [get, g9], by simp [get, g12], by simp [get, g38], by simp [get, g39], by simp [get] <;> omega⟩ (by omega))
        · clear h1
          by_cases c4 : i + 1 < l.length
          · have hrw2 := hnx c4
            have c6 : ¬ (i : Int) + 1 = l.length := by omega
            clear hnx
            repeat' first
              | ((with_reducible refine wr_isCall ?_); refine wr_P hF (n2 _) ?_)
              | ((with_reducible refine t_isDraw ?_); refine t_draw2 hT hx (by kernel_rfl) ?_)
              | (with_reducible refine t_seq ?_)
              | (with_reducible refine t_skip ?_)
              | (with_reducible refine t_ret ?_)
              | (with_reducible refine t_end ?_)
              | (with_reducible refine t_cond ?_)
              | (with_reducible refine t_region ?_)
              | (with_reducible refine wr_done ?_)
              | ((with_reducible refine t_isDraw ?_); refine t_draw rfl (by kernel_rfl) ?_)
              | (with_reducible refine WD.done _ ?_)
              | (with_reducible refine wdp_done ?_)
              | (with_reducible refine tr_some ?_)
              | ((fail_if_success with_reducible refine t_bl ?_); (with_reducible refine t_block ?_))
              | (with_reducible refine t_inBlock ?_)
              | ((with_reducible refine t_isExit ?_); refine t_exit rfl ?_)
              | simp only [decide_eq_true_eq, decide_eq_false_iff_not, Bool.not_eq_true', Bool.not_eq_false'] at *
              | simp (disch := omega) only [go_sem, Nat.reduceLT, Nat.reduceEqDiff, Nat.reduceAdd, Nat.reduceLeDiff, Nat.reduceMul, Int.reduceLT, Int.reduceLE, Int.reduceAdd, Int.reduceSub, Int.reduceNeg, Int.reduceToNat, Int.reduceBEq, Int.reduceEq, reduceCtorEq, List.take_succ_cons, List.take_zero, List.take_nil, List.drop_succ_cons, List.drop_nil, List.cons_append, List.nil_append, List.set_cons_zero, List.set_cons_succ, ↓reduceIte, *]
              | (with_reducible refine tb_true ?_)
              | (with_reducible refine tb_false ?_)
              | (with_reducible refine tb_split (fun _ => ?_) (fun _ => ?_))
              | (with_reducible refine wg_f (fun _ => ?_) (fun _ => ?_))
              | (with_reducible refine wg_t (fun _ => ?_) (fun _ => ?_))
              | (with_reducible refine wd_f (fun _ => ?_) (fun _ => ?_))
              | (with_reducible refine wd_t (fun _ => ?_) (fun _ => ?_))
            all_goals first
              | (exfalso; omega)
              | (exfalso; simp_all; done)
              | (have hpe := hp1 (by omega)
                 rw [hpe] at hs1
                 refine t_fg (Sub.of_sublist (.cons_cons _ (.cons _ (.cons _ (.cons _ (List.Sublist.refl _))))) (Nat.le_refl _)) ?_
                 exact hrec (i + 1) _ _ ⟨by omega, ⟨n + 4, .osl (n + 3) 0 1, [(n + 3, .rows 1 [[.i .i64 Ni]])], by omega, .inr ⟨n + 3, by rw [hs1]; simp, by omega, by omega, by rw [hs1]; rfl, by rw [hs1]; rfl⟩, rfl, by simp [get]⟩, by simp [get, g0], by simp [get, g2], by simp [get, g3], by simp [get, g9], by simp [get, g12], by simp [get, g38], by simp [get, g39], by simp [get] <;> omega⟩ (by omega))
              | (have hpe := hp2 (by omega)
                 rw [hpe] at hs1
                 refine t_fg (Sub.of_sublist (.cons _ (.cons _ (List.Sublist.refl _))) (Nat.le_refl _)) ?_
                 exact hrec (i + 1) _ _ ⟨by omega, ⟨n + 2, .nils, [], by omega, .inl ⟨hs1, rfl, rfl⟩, rfl, by simp [get, g14]⟩, by simp [get, g0], by simp [get, g2], by simp [get, g3], by simp [get, g9], by simp [get, g12], by simp [get, g38], by simp [get, g39], by simp [get] <;> omega⟩ (by omega))
          · have c6 : (i : Int) + 1 = l.length := by omega
            clear hnx
            repeat' first
              | ((with_reducible refine wr_isCall ?_); refine wr_P hF (n2 _) ?_)
              | ((with_reducible refine t_isDraw ?_); refine t_draw2 hT hx (by kernel_rfl) ?_)
              | (with_reducible refine t_seq ?_)
              | (with_reducible refine t_skip ?_)
              | (with_reducible refine t_ret ?_)
              | (with_reducible refine t_end ?_)
              | (with_reducible refine t_cond ?_)
              | (with_reducible refine t_region ?_)
              | (with_reducible refine wr_done ?_)
              | ((with_reducible refine t_isDraw ?_); refine t_draw rfl (by kernel_rfl) ?_)
              | (with_reducible refine WD.done _ ?_)
              | (with_reducible refine wdp_done ?_)
              | (with_reducible refine tr_some ?_)
              | ((fail_if_success with_reducible refine t_bl ?_); (with_reducible refine t_block ?_))
              | (with_reducible refine t_inBlock ?_)
              | ((with_reducible refine t_isExit ?_); refine t_exit rfl ?_)
              | simp only [decide_eq_true_eq, decide_eq_false_iff_not, Bool.not_eq_true', Bool.not_eq_false'] at *
              | simp (disch := omega) only [go_sem, Nat.reduceLT, Nat.reduceEqDiff, Nat.reduceAdd, Nat.reduceLeDiff, Nat.reduceMul, Int.reduceLT, Int.reduceLE, Int.reduceAdd, Int.reduceSub, Int.reduceNeg, Int.reduceToNat, Int.reduceBEq, Int.reduceEq, reduceCtorEq, List.take_succ_cons, List.take_zero, List.take_nil, List.drop_succ_cons, List.drop_nil, List.cons_append, List.nil_append, List.set_cons_zero, List.set_cons_succ, ↓reduceIte, *]
              | (with_reducible refine tb_true ?_)
              | (with_reducible refine tb_false ?_)
              | (with_reducible refine tb_split (fun _ => ?_) (fun _ => ?_))
              | (with_reducible refine wg_f (fun _ => ?_) (fun _ => ?_))
              | (with_reducible refine wg_t (fun _ => ?_) (fun _ => ?_))
              | (with_reducible refine wd_f (fun _ => ?_) (fun _ => ?_))
              | (with_reducible refine wd_t (fun _ => ?_) (fun _ => ?_))
            all_goals first
              | (exfalso; omega)
              | (exfalso; simp_all; done)
              | (have hpe := hp1 (by omega)
                 rw [hpe] at hs1
                 refine t_fg (Sub.of_sublist (.cons_cons _ (.cons _ (.cons _ (.cons _ (List.Sublist.refl _))))) (Nat.le_refl _)) ?_
                 exact hrec (i + 1) _ _ ⟨by omega, ⟨n + 4, .osl (n + 3) 0 1, [(n + 3, .rows 1 [[.i .i64 Ni]])], by omega, .inr ⟨n + 3, by rw [hs1]; simp, by omega, by omega, by rw [hs1]; rfl, by rw [hs1]; rfl⟩, rfl, by simp [get]⟩, by simp [get, g0], by simp [get, g2], by simp [get, g3], by simp [get, g9], by simp [get, g12], by simp [get, g38], by simp [get, g39], by simp [get] <;> omega⟩ (by omega))
              | (have hpe := hp2 (by omega)
                 rw [hpe] at hs1
                 refine t_fg (Sub.of_sublist (.cons _ (.cons _ (List.Sublist.refl _))) (Nat.le_refl _)) ?_
                 exact hrec (i + 1) _ _ ⟨by omega, ⟨n + 2, .nils, [], by omega, .inl ⟨hs1, rfl, rfl⟩, rfl, by simp [get, g14]⟩, by simp [get, g0], by simp [get, g2], by simp [get, g3], by simp [get, g9], by simp [get, g12], by simp [get, g38], by simp [get, g39], by simp [get] <;> omega⟩ (by omega))
      · have hil := intR_len (DL i)
        have hle : ((DL i).length + 1) * 8 ≤ 70368744177664 := by omega
        have hid0 : ¬ id = 0 := by omega
        have hid1 : ¬ id = 1 := by omega
        have hidn : ¬ n = id := by omega
        simp only [List.cons_append, List.nil_append] at *
        by_cases hsn : rgN l i = s
        case neg =>
          have hen := h1 hsn
          clear h2
          repeat' first
            | ((with_reducible refine wr_isCall ?_); refine wr_P hc rfl ?_)
            | (with_reducible refine t_seq ?_)
            | (with_reducible refine t_skip ?_)
            | (with_reducible refine t_ret ?_)
            | (with_reducible refine t_end ?_)
            | (with_reducible refine t_cond ?_)
            | (with_reducible refine t_region ?_)
            | (with_reducible refine wr_done ?_)
            | ((with_reducible refine t_isDraw ?_); refine t_draw rfl (by kernel_rfl) ?_)
            | (with_reducible refine WD.done _ ?_)
            | (with_reducible refine wdp_done ?_)
            | (with_reducible refine tr_some ?_)
            | ((fail_if_success with_reducible refine t_bl ?_); (with_reducible refine t_block ?_))
            | (with_reducible refine t_inBlock ?_)
            | ((with_reducible refine t_isExit ?_); refine t_exit rfl ?_)
            | simp only [decide_eq_true_eq, decide_eq_false_iff_not, Bool.not_eq_true', Bool.not_eq_false'] at *
            | simp (disch := omega) only [go_sem, Nat.reduceLT, Nat.reduceEqDiff, Nat.reduceAdd, Nat.reduceLeDiff, Nat.reduceMul, Int.reduceLT, Int.reduceLE, Int.reduceAdd, Int.reduceSub, Int.reduceNeg, Int.reduceToNat, Int.reduceBEq, Int.reduceEq, reduceCtorEq, List.take_succ_cons, List.take_zero, List.take_nil, List.drop_succ_cons, List.drop_nil, List.cons_append, List.nil_append, List.set_cons_zero, List.set_cons_succ, ↓reduceIte, *]
            | (with_reducible refine tb_true ?_)
            | (with_reducible refine tb_false ?_)
            | (with_reducible refine tb_split (fun _ => ?_) (fun _ => ?_))
            | (with_reducible refine wg_f (fun _ => ?_) (fun _ => ?_))
            | (with_reducible refine wg_t (fun _ => ?_) (fun _ => ?_))
            | (with_reducible refine wd_f (fun _ => ?_) (fun _ => ?_))
            | (with_reducible refine wd_t (fun _ => ?_) (fun _ => ?_))
          all_goals first
            | (exfalso; omega)
            | (exfalso; simp_all; done)
            | (have hpe := hp2 (by omega)
               rw [hpe, List.append_nil] at hs1
               refine t_pop ?_
               exact hrec (i + 1) _ _ ⟨by omega, ⟨n + 1, .osl id 0 (DL i).length, [(id, .rows 1 (intR (DL i)))], by omega, .inr ⟨id, by rw [hs1]; exact i0, i1, by omega, by rw [hs1], by rw [hs1]⟩, rfl, by simp [get, g14]⟩, by simp [get, g0], by simp [get, g2], by simp [get, g3], by simp [get, g9], by simp [get, g12], by simp [get, g38], by simp [get, g39], by simp [get] <;> omega⟩ (by omega))
        rcases h2 hsn with ⟨hF, hen⟩ | ⟨fy, fm, fd, b1, b2, hF, hT, -⟩
        · clear h1
          repeat' first
            | ((with_reducible refine wr_isCall ?_); refine wr_P hF (n2 _) ?_)
            | (with_reducible refine t_seq ?_)
            | (with_reducible refine t_skip ?_)
            | (with_reducible refine t_ret ?_)
            | (with_reducible refine t_end ?_)
            | (with_reducible refine t_cond ?_)
            | (with_reducible refine t_region ?_)
            | (with_reducible refine wr_done ?_)
            | ((with_reducible refine t_isDraw ?_); refine t_draw rfl (by kernel_rfl) ?_)
            | (with_reducible refine WD.done _ ?_)
            | (with_reducible refine wdp_done ?_)
            | (with_reducible refine tr_some ?_)
            | ((fail_if_success with_reducible refine t_bl ?_); (with_reducible refine t_block ?_))
            | (with_reducible refine t_inBlock ?_)
            | ((with_reducible refine t_isExit ?_); refine t_exit rfl ?_)
            | simp only [decide_eq_true_eq, decide_eq_false_iff_not, Bool.not_eq_true', Bool.not_eq_false'] at *
            | simp (disch := omega) only [go_sem, Nat.reduceLT, Nat.reduceEqDiff, Nat.reduceAdd, Nat.reduceLeDiff, Nat.reduceMul, Int.reduceLT, Int.reduceLE, Int.reduceAdd, Int.reduceSub, Int.reduceNeg, Int.reduceToNat, Int.reduceBEq, Int.reduceEq, reduceCtorEq, List.take_succ_cons, List.take_zero, List.take_nil, List.drop_succ_cons, List.drop_nil, List.cons_append, List.nil_append, List.set_cons_zero, List.set_cons_succ, ↓reduceIte, *]
            | (with_reducible refine tb_true ?_)
            | (with_reducible refine tb_false ?_)
            | (with_reducible refine tb_split (fun _ => ?_) (fun _ => ?_))
            | (with_reducible refine wg_f (fun _ => ?_) (fun _ => ?_))
            | (with_reducible refine wg_t (fun _ => ?_) (fun _ => ?_))
            | (with_reducible refine wd_f (fun _ => ?_) (fun _ => ?_))
            | (with_reducible refine wd_t (fun _ => ?_) (fun _ => ?_))
          all_goals first
            | (exfalso; omega)
            | (exfalso; simp_all; done)
            | (have hpe := hp2 (by omega)
               rw [hpe, List.append_nil] at hs1
               refine t_fg (Sub.of_sublist (.cons _ (.cons _ (List.Sublist.refl _))) (Nat.le_refl _)) ?_
               exact hrec (i + 1) _ _ ⟨by omega, ⟨n + 2, .osl id 0 (DL i).length, [(id, .rows 1 (intR (DL i)))], by omega, .inr ⟨id, by rw [hs1]; exact i0, i1, by omega, by rw [hs1], by rw [hs1]⟩, rfl, by simp [get, g14]⟩, by simp [get, g0], by simp [get, g2], by simp [get, g3], by simp [get, g9], by simp [get, g12], by simp [get, g38], by simp [get, g39], by simp [get] <;> omega⟩ (by omega))
        · clear h1
          by_cases c4 : i + 1 < l.length
          · have hrw2 := hnx c4
            have c6 : ¬ (i : Int) + 1 = l.length := by omega
            clear hnx
            repeat' first
              | ((with_reducible refine wr_isCall ?_); refine wr_P hF (n2 _) ?_)
              | ((with_reducible refine t_isDraw ?_); refine t_draw2 hT hx (by kernel_rfl) ?_)
              | (with_reducible refine t_seq ?_)
              | (with_reducible refine t_skip ?_)
              | (with_reducible refine t_ret ?_)
              | (with_reducible refine t_end ?_)
              | (with_reducible refine t_cond ?_)
              | (with_reducible refine t_region ?_)
              | (with_reducible refine wr_done ?_)
              | ((with_reducible refine t_isDraw ?_); refine t_draw rfl (by kernel_rfl) ?_)
              | (with_reducible refine WD.done _ ?_)
              | (with_reducible refine wdp_done ?_)
              | (with_reducible refine tr_some ?_)
              | ((fail_if_success with_reducible refine t_bl ?_); (with_reducible refine t_block ?_))
              | (with_reducible refine t_inBlock ?_)
              | ((with_reducible refine t_isExit ?_); refine t_exit rfl ?_)
              | simp only [decide_eq_true_eq, decide_eq_false_iff_not, Bool.not_eq_true', Bool.not_eq_false'] at *
              | simp (disch := omega) only [go_sem, Nat.reduceLT, Nat.reduceEqDiff, Nat.reduceAdd, Nat.reduceLeDiff, Nat.reduceMul, Int.reduceLT, Int.reduceLE, Int.reduceAdd, Int.reduceSub, Int.reduceNeg, Int.reduceToNat, Int.reduceBEq, Int.reduceEq, reduceCtorEq, List.take_succ_cons, List.take_zero, List.take_nil, List.drop_succ_cons, List.drop_nil, List.cons_append, List.nil_append, List.set_cons_zero, List.set_cons_succ, ↓reduceIte, *]
              | (with_reducible refine tb_true ?_)
              | (with_reducible refine tb_false ?_)
              | (with_reducible refine tb_split (fun _ => ?_) (fun _ => ?_))
              | (with_reducible refine wg_f (fun _ => ?_) (fun _ => ?_))
              | (with_reducible refine wg_t (fun _ => ?_) (fun _ => ?_))
              | (with_reducible refine wd_f (fun _ => ?_) (fun _ => ?_))
              | (with_reducible refine wd_t (fun _ => ?_) (fun _ => ?_))
            all_goals first
              | (exfalso; omega)
              | (exfalso; simp_all; done)
              | (have hpe := hp1 (by omega)
                 rw [hpe] at hs1
                 refine t_fg (Sub.of_sublist (.cons_cons _ (.cons _ (.cons _ (.cons _ (List.Sublist.refl _))))) (Nat.le_refl _)) ?_
                 exact hrec (i + 1) _ _ ⟨by omega, ⟨n + 4, .osl (n + 3) 0 ((DL i).length + 1), [(n + 3, .rows 1 (intR (DL i) ++ [[.i .i64 Ni]]))], by omega, .inr ⟨n + 3, by rw [hs1]; simp, by omega, by omega, by rw [hs1]; simp, by rw [hs1, intR_snoc]⟩, rfl, by simp [get]⟩, by simp [get, g0], by simp [get, g2], by simp [get, g3], by simp [get, g9], by simp [get, g12], by simp [get, g38], by simp [get, g39], by simp [get] <;> omega⟩ (by omega))
              | (have hpe := hp2 (by omega)
                 rw [hpe, List.append_nil] at hs1
                 refine t_fg (Sub.of_sublist (.cons _ (.cons _ (List.Sublist.refl _))) (Nat.le_refl _)) ?_
                 exact hrec (i + 1) _ _ ⟨by omega, ⟨n + 2, .osl id 0 (DL i).length, [(id, .rows 1 (intR (DL i)))], by omega, .inr ⟨id, by rw [hs1]; exact i0, i1, by omega, by rw [hs1], by rw [hs1]⟩, rfl, by simp [get, g14]⟩, by simp [get, g0], by simp [get, g2], by simp [get, g3], by simp [get, g9], by simp [get, g12], by simp [get, g38], by simp [get, g39], by simp [get] <;> omega⟩ (by omega))
          · have c6 : (i : Int) + 1 = l.length := by omega
            clear hnx
            repeat' first
              | ((with_reducible refine wr_isCall ?_); refine wr_P hF (n2 _) ?_)
              | ((with_reducible refine t_isDraw ?_); refine t_draw2 hT hx (by kernel_rfl) ?_)
              | (with_reducible refine t_seq ?_)
              | (with_reducible refine t_skip ?_)
              | (with_reducible refine t_ret ?_)
              | (with_reducible refine t_end ?_)
              | (with_reducible refine t_cond ?_)
              | (with_reducible refine t_region ?_)
              | (with_reducible refine wr_done ?_)
              | ((with_reducible refine t_isDraw ?_); refine t_draw rfl (by kernel_rfl) ?_)
              | (with_reducible refine WD.done _ ?_)
              | (with_reducible refine wdp_done ?_)
              | (with_reducible refine tr_some ?_)
              | ((fail_if_success with_reducible refine t_bl ?_); (with_reducible refine t_block ?_))
              | (with_reducible refine t_inBlock ?_)
              | ((with_reducible refine t_isExit ?_); refine t_exit rfl ?_)
              | simp only [decide_eq_true_eq, decide_eq_false_iff_not, Bool.not_eq_true', Bool.not_eq_false'] at *
              | simp (disch := omega) only [go_sem, Nat.reduceLT, Nat.reduceEqDiff, Nat.reduceAdd, Nat.reduceLeDiff, Nat.reduceMul, Int.reduceLT, Int.reduceLE, Int.reduceAdd, Int.reduceSub, Int.reduceNeg, Int.reduceToNat, Int.reduceBEq, Int.reduceEq, reduceCtorEq, List.take_succ_cons, List.take_zero, List.take_nil, List.drop_succ_cons, List.drop_nil, List.cons_append, List.nil_append, List.set_cons_zero, List.set_cons_succ, ↓reduceIte, *]
              | (with_reducible refine tb_true ?_)
              | (with_reducible refine tb_false ?_)
              | (with_reducible refine tb_split (fun _ => ?_) (fun _ => ?_))
              | (with_reducible refine wg_f (fun _ => ?_) (fun _ => ?_))
              | (with_reducible refine wg_t (fun _ => ?_) (fun _ => ?_))
              | (with_reducible refine wd_f (fun _ => ?_) (fun _ => ?_))
              | (with_reducible refine wd_t (fun _ => ?_) (fun _ => ?_))
            all_goals first
              | (exfalso; omega)
              | (exfalso; simp_all; done)
              | (have hpe := hp1 (by omega)
                 rw [hpe] at hs1
                 refine t_fg (Sub.of_sublist (.cons_cons _ (.cons _ (.cons _ (.cons _ (List.Sublist.refl _))))) (Nat.le_refl _)) ?_
                 exact hrec (i + 1) _ _ ⟨by omega, ⟨n + 4, .osl (n + 3) 0 ((DL i).length + 1), [(n + 3, .rows 1 (intR (DL i) ++ [[.i .i64 Ni]]))], by omega, .inr ⟨n + 3, by rw [hs1]; simp, by omega, by omega, by rw [hs1]; simp, by rw [hs1, intR_snoc]⟩, rfl, by simp [get]⟩, by simp [get, g0], by simp [get, g2], by simp [get, g3], by simp [get, g9], by simp [get, g12], by simp [get, g38], by simp [get, g39], by simp [get] <;> omega⟩ (by omega))
              | (have hpe := hp2 (by omega)
                 rw [hpe, List.append_nil] at hs1
                 refine t_fg (Sub.of_sublist (.cons _ (.cons _ (List.Sublist.refl _))) (Nat.le_refl _)) ?_
                 exact hrec (i + 1) _ _ ⟨by omega, ⟨n + 2, .osl id 0 (DL i).length, [(id, .rows 1 (intR (DL i)))], by omega, .inr ⟨id, by rw [hs1]; exact i0, i1, by omega, by rw [hs1], by rw [hs1]⟩, rfl, by simp [get, g14]⟩, by simp [get, g0], by simp [get, g2], by simp [get, g3], by simp [get, g9], by simp [get, g12], by simp [get, g38], by simp [get, g39], by simp [get] <;> omega⟩ (by omega))
    · have hii : i = l.length := by omega
      rw [hii] at hLp
      clear hrow hask hds hpk hpn
      rcases hLp with ⟨z1, rfl, rfl⟩ | ⟨id, i0, i1, i2, rfl, rfl⟩
      · simp only [List.nil_append] at *
        repeat' first
          | refine hex _ _ ?_
          | (with_reducible refine t_seq ?_)
          | (with_reducible refine t_skip ?_)
          | (with_reducible refine t_ret ?_)
          | (with_reducible refine t_end ?_)
          | (with_reducible refine t_cond ?_)
          | (with_reducible refine t_region ?_)
          | (with_reducible refine wr_done ?_)
          | ((with_reducible refine t_isDraw ?_); refine t_draw rfl (by kernel_rfl) ?_)
          | (with_reducible refine WD.done _ ?_)
          | (with_reducible refine wdp_done ?_)
          | (with_reducible refine tr_some ?_)
          | ((fail_if_success with_reducible refine t_bl ?_); (with_reducible refine t_block ?_))
          | (with_reducible refine t_inBlock ?_)
          | ((with_reducible refine t_isExit ?_); refine t_exit rfl ?_)
          | simp only [decide_eq_true_eq, decide_eq_false_iff_not, Bool.not_eq_true', Bool.not_eq_false'] at *
          | simp (disch := omega) only [go_sem, Nat.reduceLT, Nat.reduceEqDiff, Nat.reduceAdd, Nat.reduceLeDiff, Nat.reduceMul, Int.reduceLT, Int.reduceLE, Int.reduceAdd, Int.reduceSub, Int.reduceNeg, Int.reduceToNat, Int.reduceBEq, Int.reduceEq, reduceCtorEq, List.take_succ_cons, List.take_zero, List.take_nil, List.drop_succ_cons, List.drop_nil, List.cons_append, List.nil_append, List.set_cons_zero, List.set_cons_succ, ↓reduceIte, *]
          | (with_reducible refine tb_true ?_)
          | (with_reducible refine tb_false ?_)
          | (with_reducible refine tb_split (fun _ => ?_) (fun _ => ?_))
          | (with_reducible refine wg_f (fun _ => ?_) (fun _ => ?_))
          | (with_reducible refine wg_t (fun _ => ?_) (fun _ => ?_))
          | (with_reducible refine wd_f (fun _ => ?_) (fun _ => ?_))
          | (with_reducible refine wd_t (fun _ => ?_) (fun _ => ?_))
        all_goals first | (exfalso; omega) | skip
        first | (exact ⟨n, .nils, [], hn, .inl ⟨z1, rfl, rfl⟩, rfl, by simp [get, g14]⟩) | (exact ⟨by simp [fz, lstA], rfl⟩)
      · simp only [List.cons_append, List.nil_append] at *
        repeat' first
          | refine hex _ _ ?_
          | (with_reducible refine t_seq ?_)
          | (with_reducible refine t_skip ?_)
          | (with_reducible refine t_ret ?_)
          | (with_reducible refine t_end ?_)
          | (with_reducible refine t_cond ?_)
          | (with_reducible refine t_region ?_)
          | (with_reducible refine wr_done ?_)
          | ((with_reducible refine t_isDraw ?_); refine t_draw rfl (by kernel_rfl) ?_)
          | (with_reducible refine WD.done _ ?_)
          | (with_reducible refine wdp_done ?_)
          | (with_reducible refine tr_some ?_)
          | ((fail_if_success with_reducible refine t_bl ?_); (with_reducible refine t_block ?_))
          | (with_reducible refine t_inBlock ?_)
          | ((with_reducible refine t_isExit ?_); refine t_exit rfl ?_)
          | simp only [decide_eq_true_eq, decide_eq_false_iff_not, Bool.not_eq_true', Bool.not_eq_false'] at *
          | simp (disch := omega) only [go_sem, Nat.reduceLT, Nat.reduceEqDiff, Nat.reduceAdd, Nat.reduceLeDiff, Nat.reduceMul, Int.reduceLT, Int.reduceLE, Int.reduceAdd, Int.reduceSub, Int.reduceNeg, Int.reduceToNat, Int.reduceBEq, Int.reduceEq, reduceCtorEq, List.take_succ_cons, List.take_zero, List.take_nil, List.drop_succ_cons, List.drop_nil, List.cons_append, List.nil_append, List.set_cons_zero, List.set_cons_succ, ↓reduceIte, *]
          | (with_reducible refine tb_true ?_)
          | (with_reducible refine tb_false ?_)
          | (with_reducible refine tb_split (fun _ => ?_) (fun _ => ?_))
          | (with_reducible refine wg_f (fun _ => ?_) (fun _ => ?_))
          | (with_reducible refine wg_t (fun _ => ?_) (fun _ => ?_))
          | (with_reducible refine wd_f (fun _ => ?_) (fun _ => ?_))
          | (with_reducible refine wd_t (fun _ => ?_) (fun _ => ?_))
        all_goals first | (exfalso; omega) | skip
        exact ⟨n, _, _, hn, .inr ⟨id, i0, i1, i2, rfl, rfl⟩, rfl, by simp [get, g14]⟩
  · rintro t h ⟨n, e, L, hn, hLp, rfl, g14⟩
    unfold lstA
    rcases hLp with ⟨z1, rfl, rfl⟩ | ⟨id, i0, i1, i2, rfl, rfl⟩
    · rw [if_pos z1]
      simp only [List.nil_append] at *
      repeat' first
        | (with_reducible refine t_seq ?_)
        | (with_reducible refine t_skip ?_)
        | (with_reducible refine t_ret ?_)
        | (with_reducible refine t_end ?_)
        | (with_reducible refine t_cond ?_)
        | (with_reducible refine t_region ?_)
        | (with_reducible refine wr_done ?_)
        | ((with_reducible refine t_isDraw ?_); refine t_draw rfl (by kernel_rfl) ?_)
        | (with_reducible refine WD.done _ ?_)
        | (with_reducible refine wdp_done ?_)
        | (with_reducible refine tr_some ?_)
        | ((fail_if_success with_reducible refine t_bl ?_); (with_reducible refine t_block ?_))
        | (with_reducible refine t_inBlock ?_)
        | ((with_reducible refine t_isExit ?_); refine t_exit rfl ?_)
        | simp only [decide_eq_true_eq, decide_eq_false_iff_not, Bool.not_eq_true', Bool.not_eq_false'] at *
        | simp (disch := omega) only [go_sem, Nat.reduceLT, Nat.reduceEqDiff, Nat.reduceAdd, Nat.reduceLeDiff, Nat.reduceMul, Int.reduceLT, Int.reduceLE, Int.reduceAdd, Int.reduceSub, Int.reduceNeg, Int.reduceToNat, Int.reduceBEq, Int.reduceEq, reduceCtorEq, List.take_succ_cons, List.take_zero, List.take_nil, List.drop_succ_cons, List.drop_nil, List.cons_append, List.nil_append, List.set_cons_zero, List.set_cons_succ, ↓reduceIte, *]
        | (with_reducible refine tb_true ?_)
        | (with_reducible refine tb_false ?_)
        | (with_reducible refine tb_split (fun _ => ?_) (fun _ => ?_))
        | (with_reducible refine wg_f (fun _ => ?_) (fun _ => ?_))
        | (with_reducible refine wg_t (fun _ => ?_) (fun _ => ?_))
        | (with_reducible refine wd_f (fun _ => ?_) (fun _ => ?_))
        | (with_reducible refine wd_t (fun _ => ?_) (fun _ => ?_))
      exact ⟨rfl, rfl⟩
    · rw [if_neg i0]
      have hil := intR_len (DL l.length)
      have hfl := intR_flat (DL l.length)
      simp only [List.cons_append, List.nil_append] at *
      repeat' first
        | (with_reducible refine t_seq ?_)
        | (with_reducible refine t_skip ?_)
        | (with_reducible refine t_ret ?_)
        | (with_reducible refine t_end ?_)
        | (with_reducible refine t_cond ?_)
        | (with_reducible refine t_region ?_)
        | (with_reducible refine wr_done ?_)
        | ((with_reducible refine t_isDraw ?_); refine t_draw rfl (by kernel_rfl) ?_)
        | (with_reducible refine WD.done _ ?_)
        | (with_reducible refine wdp_done ?_)
        | (with_reducible refine tr_some ?_)
        | ((fail_if_success with_reducible refine t_bl ?_); (with_reducible refine t_block ?_))
        | (with_reducible refine t_inBlock ?_)
        | ((with_reducible refine t_isExit ?_); refine t_exit rfl ?_)
        | simp only [decide_eq_true_eq, decide_eq_false_iff_not, Bool.not_eq_true', Bool.not_eq_false'] at *
        | simp (disch := omega) only [go_sem, Nat.reduceLT, Nat.reduceEqDiff, Nat.reduceAdd, Nat.reduceLeDiff, Nat.reduceMul, Int.reduceLT, Int.reduceLE, Int.reduceAdd, Int.reduceSub, Int.reduceNeg, Int.reduceToNat, Int.reduceBEq, Int.reduceEq, reduceCtorEq, List.take_succ_cons, List.take_zero, List.take_nil, List.drop_succ_cons, List.drop_nil, List.cons_append, List.nil_append, List.set_cons_zero, List.set_cons_succ, ↓reduceIte, *]
        | (with_reducible refine tb_true ?_)
        | (with_reducible refine tb_false ?_)
        | (with_reducible refine tb_split (fun _ => ?_) (fun _ => ?_))
        | (with_reducible refine wg_f (fun _ => ?_) (fun _ => ?_))
        | (with_reducible refine wg_t (fun _ => ?_) (fun _ => ?_))
        | (with_reducible refine wd_f (fun _ => ?_) (fun _ => ?_))
        | (with_reducible refine wd_t (fun _ => ?_) (fun _ => ?_))
      refine ⟨?_, rfl⟩
      simp only [fz_tup, List.map_cons, List.map_nil, fz_i]
      rw [show (11 : Nat) = 9 + 2 from rfl, fz_own (l := intR (DL l.length)) (k := 1) (by simp (disch := omega) only [go_sem, ↓reduceIte]) (by rw [hil]; omega) hfl]
      rw [List.drop_zero, List.take_of_length_le (by rw [hil]; omega)]
end Go.Proofs.YtkokongbnemkhaaGreatDoorA
