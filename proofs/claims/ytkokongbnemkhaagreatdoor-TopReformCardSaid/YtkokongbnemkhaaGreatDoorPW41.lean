/- TopReform as a contract. -/
import Derived.Test.YtkokongbnemkhaaGreatDoorPW40
set_option linter.unusedVariables false
set_option linter.unusedSimpArgs false
namespace Go.Proofs.YtkokongbnemkhaaGreatDoorA
open Go Go.RowKit Go.Proofs.YtkokongbnemkhaaGreatDoorFx Go.Proofs
variable {m : Int}
@[go_sem] theorem frz_ptr1 (id k d c : Nat) (row : List AV) (l : List (List AV)) : frz id k (row :: l) (d + 1) (.ptr id 0 c) = .ip row c := by simp [frz]
open Classical in
@[go_sem] theorem el_hit2 (m : Int) (L : List (FuncId × List AV × AV)) (h : Hp) (f : FuncId) (args args0 : List AV) (r r0 : AV) : callA (EL m ((f, args0, r0) :: (f, args, r) :: L)) h f args = if args.all (noid 12) = true then (if args0 = args then .val r0 h else .val r h) else callZ (EL m ((f, args0, r0) :: (f, args, r) :: L)) h f args := by
  by_cases hn : args.all (noid 12) = true
  · rw [if_pos hn]
    unfold callA
    rw [if_pos hn]
    by_cases he : args0 = args
    · rw [if_pos he]; simp [EL, he]
    · rw [if_neg he]; simp [EL, he]
  · rw [if_neg hn]; rfl
def refA1 : Ref := ⟨[97], [(-4000000, julS)]⟩
theorem refA1_i {i : Nat} (hi : i < refA1.ps.length) : i = 0 := by simp [refA1] at hi; omega
theorem refA1_ok : refA1.Ok where
  nm := by kernel_rfl
  l1 := by decide
  l2 := by decide
  fst := rfl
  far := fun i hi => by rw [refA1_i hi]; rfl
  inc := fun i hi => by simp [refA1] at hi
  known := fun i hi => by rw [refA1_i hi]; exact jul_known
set_option maxRecDepth 10000000 in
theorem julDate1 : MeetsP Tryz.prog (glT m) 16 [.s julS, .i .i64 1] (resD (dateA 1 1 3) 0) := by
  have e1 : (calOf 1 julR).first 1 = -1 := by kernel_rfl
  have e2 : (calOf 1 julR).first (1 + 1) = 364 := by kernel_rfl
  have e3 : (calOf 1 julR).bef 1 0 = 0 := rfl
  have e4 : (calOf 1 julR).bef 1 (0 + 1) = 31 := by kernel_rfl
  have hat : (calOf 1 julR).At 1 1 0 := ⟨by kernel_rfl, by omega, by omega, by omega, by omega, Nat.lt_of_lt_of_le Nat.zero_lt_one (calOk julIn).len1, by omega, by omega⟩
  have h := hat.run (m := m) (calGood julIn)
  rw [e1] at h
  exact dateP julIn h
theorem fromA1 : MeetsP Tryz.prog (glT m) 13 [refA1.AT, .i .i64 1] (resD (dateA 1 1 3) 0) :=
  (refFrom (m := m) refA1 (by decide) refA1_ok (k := 0) (by kernel_rfl) ⟨by decide, by show (-4000000 : Int) ≤ 1; omega, fun h => by simp [refA1] at h⟩ julDate1).narrow1 refA1.wk
set_option maxRecDepth 100000 in
set_option maxHeartbeats 8000000 in
theorem topReformP (r : Ref) (hs : r.nm.length ≤ 140737488351232) (day : Int) : MeetsP Tryz.prog (glT m) 9 [r.A, .i .i64 day] (.b true) := by
  have hone := fromA1 (m := m)
  have hct := tcutP (m := m) (a := day) (lo := -400000) (n := 1500000) (by omega) (by omega) (by omega) (by omega)
  have hm1 := Int.emod_nonneg day (show (1500000 : Int) ≠ 0 by omega)
  have hm2 := Int.emod_lt_of_pos day (show (0 : Int) < 1500000 by omega)
  generalize hY : -400000 + day % 1500000 = D at hct
  have hD : chkDay D = 0 := chkDay_ok (by omega) (by omega)
  clear hY hm1 hm2
  unfold Ref.AT Ref.rows refA1 julS dateA resD at hone
  simp only [List.map_cons, List.map_nil] at hone
  by_cases hk : r.chk = 0
  case neg =>
    have hf := refFromBad (m := m) r hs hk D
    unfold resD dateA at *
    unfold Ref.A at *
    generalize r.chk = e at *
    generalize r.rows = R at *
    refine meetsP (E := (EW m)) 71 [.tmp 4] (ew m) Tryz.func9 rfl (by decide) rfl rfl (by simp) ?_
    repeat' first
      | (with_reducible refine t_freezeH (S := ⟨_, _, ⟨[(0, .rows 2 _)], 1⟩⟩) 0 rfl rfl ?_)
      | ((with_reducible refine wr_isCall ?_); refine wr_lent hone rfl rfl rfl ?_)
      | ((with_reducible refine wr_isCall ?_); refine wr_P hct rfl ?_)
      | ((with_reducible refine wr_isCall ?_); refine wr_P hf rfl ?_)
      | (with_reducible refine t_seq ?_)
      | (with_reducible refine t_skip ?_)
      | (with_reducible refine t_ret ?_)
      | (with_reducible refine t_end ?_)
      | (with_reducible refine t_cond ?_)
      | (with_reducible refine t_region ?_)
      | (with_reducible refine wr_done ?_)
      | ((with_reducible refine t_isDraw ?_); refine t_draw rfl (by kernel_rfl) ?_)
      | (with_reducible refine WD.done _ ?_)
      | (with_reducible refine wdp_done ?_)
      | (with_reducible refine tr_some ?_)
      | ((fail_if_success with_reducible refine t_bl ?_); (with_reducible refine t_block ?_))
      | (with_reducible refine t_inBlock ?_)
      | ((with_reducible refine t_isExit ?_); refine t_exit rfl ?_)
      | simp only [decide_eq_true_eq, decide_eq_false_iff_not, Bool.not_eq_true', Bool.not_eq_false'] at *
      | simp (disch := omega) only [go_sem, Nat.reduceLT, Nat.reduceEqDiff, Nat.reduceAdd, Nat.reduceLeDiff, Nat.reduceMul, Int.reduceLT, Int.reduceLE, Int.reduceAdd, Int.reduceSub, Int.reduceNeg, Int.reduceToNat, Int.reduceBEq, Int.reduceEq, reduceCtorEq, List.take_succ_cons, List.take_zero, List.take_nil, List.drop_succ_cons, List.drop_nil, List.cons_append, List.nil_append, List.set_cons_zero, List.set_cons_succ, ↓reduceIte, *]
      | (with_reducible refine tb_true ?_)
      | (with_reducible refine tb_false ?_)
      | (with_reducible refine tb_split (fun _ => ?_) (fun _ => ?_))
      | (with_reducible refine wg_f (fun _ => ?_) (fun _ => ?_))
      | (with_reducible refine wg_t (fun _ => ?_) (fun _ => ?_))
      | (with_reducible refine wd_f (fun _ => ?_) (fun _ => ?_))
      | (with_reducible refine wd_t (fun _ => ?_) (fun _ => ?_))
    all_goals first | (exfalso; omega) | exact ⟨rfl, rfl⟩
  have hr := Ref.chk_ok.1 hk
  obtain ⟨k, hin⟩ := hr.part hD
  have hkn := hr.known k hin.lt
  rcases fromDay_all (calN_good (m := m) hkn) D with hf0 | ⟨y, mo, hat⟩
  · have hf := refFrom (m := m) r hs hr hD hin (calN_date hkn hf0)
    unfold resD dateA at *
    unfold Ref.A at *
    generalize r.rows = R at *
    refine meetsP (E := (EW m)) 71 [.tmp 4] (ew m) Tryz.func9 rfl (by decide) rfl rfl (by simp) ?_
    repeat' first
      | (with_reducible refine t_freezeH (S := ⟨_, _, ⟨[(0, .rows 2 _)], 1⟩⟩) 0 rfl rfl ?_)
      | ((with_reducible refine wr_isCall ?_); refine wr_lent hone rfl rfl rfl ?_)
      | ((with_reducible refine wr_isCall ?_); refine wr_P hct rfl ?_)
      | ((with_reducible refine wr_isCall ?_); refine wr_P hf rfl ?_)
      | (with_reducible refine t_seq ?_)
      | (with_reducible refine t_skip ?_)
      | (with_reducible refine t_ret ?_)
      | (with_reducible refine t_end ?_)
      | (with_reducible refine t_cond ?_)
      | (with_reducible refine t_region ?_)
      | (with_reducible refine wr_done ?_)
      | ((with_reducible refine t_isDraw ?_); refine t_draw rfl (by kernel_rfl) ?_)
      | (with_reducible refine WD.done _ ?_)
      | (with_reducible refine wdp_done ?_)
      | (with_reducible refine tr_some ?_)
      | ((fail_if_success with_reducible refine t_bl ?_); (with_reducible refine t_block ?_))
      | (with_reducible refine t_inBlock ?_)
      | ((with_reducible refine t_isExit ?_); refine t_exit rfl ?_)
      | simp only [decide_eq_true_eq, decide_eq_false_iff_not, Bool.not_eq_true', Bool.not_eq_false'] at *
      | simp (disch := omega) only [go_sem, Nat.reduceLT, Nat.reduceEqDiff, Nat.reduceAdd, Nat.reduceLeDiff, Nat.reduceMul, Int.reduceLT, Int.reduceLE, Int.reduceAdd, Int.reduceSub, Int.reduceNeg, Int.reduceToNat, Int.reduceBEq, Int.reduceEq, reduceCtorEq, List.take_succ_cons, List.take_zero, List.take_nil, List.drop_succ_cons, List.drop_nil, List.cons_append, List.nil_append, List.set_cons_zero, List.set_cons_succ, ↓reduceIte, *]
      | (with_reducible refine tb_true ?_)
      | (with_reducible refine tb_false ?_)
      | (with_reducible refine tb_split (fun _ => ?_) (fun _ => ?_))
      | (with_reducible refine wg_f (fun _ => ?_) (fun _ => ?_))
      | (with_reducible refine wg_t (fun _ => ?_) (fun _ => ?_))
      | (with_reducible refine wd_f (fun _ => ?_) (fun _ => ?_))
      | (with_reducible refine wd_t (fun _ => ?_) (fun _ => ?_))
    all_goals first | (exfalso; omega) | exact ⟨rfl, rfl⟩
  have hf := refFrom (m := m) r hs hr hD hin (calN_date hkn (hat.run (calN_good hkn)))
  obtain ⟨N, E, hask⟩ := hr.ask (m := m) y ((mo : Int) + 1) (D - (calN (r.c k)).first y + 1 - (calN (r.c k)).bef y mo)
  have hdays := refDays (m := m) r hs hr (fun i hi => (hask i hi).1)
  obtain ⟨hE0, hN0⟩ := (hask k hin.lt).2.2 D mo rfl hat rfl
  have hmem : D ∈ r.days N E r.ps.length := Ref.mem_days.2 ⟨k, hin.lt, hE0, by rw [hN0]; exact hin.le, by
    rw [hN0]
    rcases Nat.lt_or_ge (k + 1) r.ps.length with q | q
    · exact .inr (hin.nx q)
    · exact .inl (by have := hin.lt; omega), hN0.symm⟩
  have hsort := (hr.days_sorted N E r.ps.length (Nat.le_refl _)).1
  have hlen := r.days_len N E r.ps.length
  have hl2 := hr.l2
  have hparts : ∀ x ∈ r.days N E r.ps.length, ∀ z ∈ r.days N E r.ps.length, x < z → ∃ a b, r.In x a ∧ r.In z b ∧ a < b := fun x hx z hz hxz => by
    obtain ⟨a, ha, e1, e2, e3, rfl⟩ := Ref.mem_days.1 hx
    obtain ⟨b, hb, e4, e5, e6, rfl⟩ := Ref.mem_days.1 hz
    have ia : r.In (N a) a := ⟨ha, e2, fun h => by rcases e3 with q | q; omega; exact q⟩
    have ib : r.In (N b) b := ⟨hb, e5, fun h => by rcases e6 with q | q; omega; exact q⟩
    refine ⟨a, b, ia, ib, ?_⟩
    rcases Nat.lt_trichotomy a b with q | q | q
    · exact q
    · subst q; omega
    · exfalso
      have h1 := ib.nx (by omega)
      rcases Nat.lt_or_ge (b + 1) a with q2 | q2
      · have := hr.mono q2 ha; omega
      · have : b + 1 = a := by omega
        rw [this] at h1; omega
  generalize r.days N E r.ps.length = DL at *
  have hne : DL ≠ [] := fun q => by rw [q] at hmem; simp at hmem
  have hlt : ∀ (i : Nat) (h1 : i + 1 < DL.length), DL[i] < DL[i + 1] := fun i h1 => List.pairwise_iff_getElem.1 hsort i (i + 1) (by omega) h1 (by omega)
  obtain ⟨z, hz, hzD⟩ := List.mem_iff_getElem.1 hmem
  have hcon := containsP (m := m) hz hzD (fun j hj q => by
    have := List.pairwise_iff_getElem.1 hsort j z (by omega) hz hj
    omega) (by omega)
  unfold lstA at hdays
  rw [if_neg hne] at hdays
  have hget : ∀ i (h : i < DL.length), (intR DL)[i]? = some [.i .i64 DL[i]] := fun i h => by simp [intR, h]
  have hpt : ∀ i (h : i + 1 < DL.length), ∃ a b : Nat, a < b ∧ ¬ ([AV.i .i64 DL[i], .ip [.s r.nm, .isl false 2 r.rows] 0] = [AV.i .i64 DL[i + 1], .ip [.s r.nm, .isl false 2 r.rows] 0]) ∧ MeetsP Tryz.prog (glT m) 30 [.i .i64 DL[i], .ip [.s r.nm, .isl false 2 r.rows] 0] (.i .i64 a) ∧ MeetsP Tryz.prog (glT m) 30 [.i .i64 DL[i + 1], .ip [.s r.nm, .isl false 2 r.rows] 0] (.i .i64 b) := fun i h => by
    obtain ⟨a, b, i1, i2, hab⟩ := hparts _ (List.getElem_mem (by omega)) _ (List.getElem_mem h) (hlt i h)
    have hl := hlt i h
    exact ⟨a, b, hab, fun q => by injection q with q1 _; injection q1 with _ q1; omega, topPartP hr i1, topPartP hr i2⟩
  have hdr : (intR DL).length = DL.length := intR_len _
  generalize D - (calN (r.c k)).first y + 1 - (calN (r.c k)).bef y mo = dd at *
  generalize hM : ((mo : Int) + 1) = M at *
  clear hask hE0 hN0 hat hin hM hsort hparts hlt hzD hmem
  unfold resD dateA at *
  unfold Ref.A at *
  generalize r.rows = R at *
  generalize intR DL = DR at *
  refine meetsP (E := (EW m)) 71 [.tmp 4] (ew m) Tryz.func9 rfl (by decide) rfl rfl (by simp) ?_
  repeat' first
    | (with_reducible refine t_freezeH (S := ⟨_, _, ⟨[(0, .rows 2 _)], 1⟩⟩) 0 rfl rfl ?_)
    | ((with_reducible refine wr_isCall ?_); refine wr_lent hone rfl rfl rfl ?_)
    | ((with_reducible refine wr_isCall ?_); refine wr_P hct rfl ?_)
    | ((with_reducible refine wr_isCall ?_); refine wr_P hf rfl ?_)
    | ((with_reducible refine wr_isCall ?_); refine wr_P hdays rfl ?_)
    | ((with_reducible refine wr_isCall ?_); refine wr_P hcon rfl ?_)
    | (with_reducible refine t_seq ?_)
    | (with_reducible refine t_skip ?_)
    | (with_reducible refine t_ret ?_)
    | (with_reducible refine t_end ?_)
    | (with_reducible refine t_cond ?_)
    | (with_reducible refine t_region ?_)
    | (with_reducible refine wr_done ?_)
    | ((with_reducible refine t_isDraw ?_); refine t_draw rfl (by kernel_rfl) ?_)
    | (with_reducible refine WD.done _ ?_)
    | (with_reducible refine wdp_done ?_)
    | (with_reducible refine tr_some ?_)
    | ((fail_if_success with_reducible refine t_bl ?_); (with_reducible refine t_block ?_))
    | (with_reducible refine t_inBlock ?_)
    | ((with_reducible refine t_isExit ?_); refine t_exit rfl ?_)
    | simp only [decide_eq_true_eq, decide_eq_false_iff_not, Bool.not_eq_true', Bool.not_eq_false'] at *
    | simp (disch := omega) only [go_sem, Nat.reduceLT, Nat.reduceEqDiff, Nat.reduceAdd, Nat.reduceLeDiff, Nat.reduceMul, Int.reduceLT, Int.reduceLE, Int.reduceAdd, Int.reduceSub, Int.reduceNeg, Int.reduceToNat, Int.reduceBEq, Int.reduceEq, reduceCtorEq, List.take_succ_cons, List.take_zero, List.take_nil, List.drop_succ_cons, List.drop_nil, List.cons_append, List.nil_append, List.set_cons_zero, List.set_cons_succ, ↓reduceIte, *]
    | (with_reducible refine tb_true ?_)
    | (with_reducible refine tb_false ?_)
    | (with_reducible refine tb_split (fun _ => ?_) (fun _ => ?_))
    | (with_reducible refine wg_f (fun _ => ?_) (fun _ => ?_))
    | (with_reducible refine wg_t (fun _ => ?_) (fun _ => ?_))
    | (with_reducible refine wd_f (fun _ => ?_) (fun _ => ?_))
    | (with_reducible refine wd_t (fun _ => ?_) (fun _ => ?_))
  all_goals first | (exfalso; omega) | skip
  refine t_while (I := fun (i : Nat) t h => i + 1 ≤ DL.length ∧ get t 9 = .isl true 1 DR ∧ get t 10 = .fn 30 [] [.ip [.s r.nm, .isl false 2 R] 0] ∧ get t 11 = .i .i64 (i + 1)) (m := fun i => DL.length - i)
    (J := fun t h => True) 0 ⟨by omega, by simp [get], by simp [get], by simp [get]⟩ ?_ ?_
  · rintro i t h ⟨hi, g9, g10, g11⟩ hrec hex
    obtain ⟨hc, n⟩ := h
    by_cases hi' : i + 1 < DL.length
    · have hg1 := hget i (by omega)
      have hg2 := hget (i + 1) hi'
      obtain ⟨a, b, hab, hdiff, hp1, hp2⟩ := hpt i hi'
      have e1 : ((i : Int) + 1).toNat = i + 1 := by omega
      have e2 : ((i : Int) + 1 - 1).toNat = i := by omega
      generalize DL[i] = x1 at *
      generalize DL[i + 1] = x2 at *
      clear hget hpt
      repeat' first
        | ((with_reducible refine t_isDraw ?_); refine t_draw2 hp1 hp2 (by kernel_rfl) ?_)
        | (with_reducible refine t_seq ?_)
        | (with_reducible refine t_skip ?_)
        | (with_reducible refine t_ret ?_)
        | (with_reducible refine t_end ?_)
        | (with_reducible refine t_cond ?_)
        | (with_reducible refine t_region ?_)
        | (with_reducible refine wr_done ?_)
        | ((with_reducible refine t_isDraw ?_); refine t_draw rfl (by kernel_rfl) ?_)
        | (with_reducible refine WD.done _ ?_)
        | (with_reducible refine wdp_done ?_)
        | (with_reducible refine tr_some ?_)
        | ((fail_if_success with_reducible refine t_bl ?_); (with_reducible refine t_block ?_))
        | (with_reducible refine t_inBlock ?_)
        | ((with_reducible refine t_isExit ?_); refine t_exit rfl ?_)
        | simp only [decide_eq_true_eq, decide_eq_false_iff_not, Bool.not_eq_true', Bool.not_eq_false'] at *
        | simp (disch := omega) only [go_sem, Nat.reduceLT, Nat.reduceEqDiff, Nat.reduceAdd, Nat.reduceLeDiff, Nat.reduceMul, Int.reduceLT, Int.reduceLE, Int.reduceAdd, Int.reduceSub, Int.reduceNeg, Int.reduceToNat, Int.reduceBEq, Int.reduceEq, reduceCtorEq, List.take_succ_cons, List.take_zero, List.take_nil, List.drop_succ_cons, List.drop_nil, List.cons_append, List.nil_append, List.set_cons_zero, List.set_cons_succ, ↓reduceIte, *]
        | (with_reducible refine tb_true ?_)
        | (with_reducible refine tb_false ?_)
        | (with_reducible refine tb_split (fun _ => ?_) (fun _ => ?_))
        | (with_reducible refine wg_f (fun _ => ?_) (fun _ => ?_))
        | (with_reducible refine wg_t (fun _ => ?_) (fun _ => ?_))
        | (with_reducible refine wd_f (fun _ => ?_) (fun _ => ?_))
        | (with_reducible refine wd_t (fun _ => ?_) (fun _ => ?_))
      all_goals first | (exfalso; omega) | skip
      all_goals exact hrec (i + 1) _ _ ⟨by omega, by simp [get, g9], by simp [get, g10], by simp [get]⟩ (by omega)
    · clear hget hpt
      repeat' first
        | (with_reducible refine t_seq ?_)
        | (with_reducible refine t_skip ?_)
        | (with_reducible refine t_ret ?_)
        | (with_reducible refine t_end ?_)
        | (with_reducible refine t_cond ?_)
        | (with_reducible refine t_region ?_)
        | (with_reducible refine wr_done ?_)
        | ((with_reducible refine t_isDraw ?_); refine t_draw rfl (by kernel_rfl) ?_)
        | (with_reducible refine WD.done _ ?_)
        | (with_reducible refine wdp_done ?_)
        | (with_reducible refine tr_some ?_)
        | ((fail_if_success with_reducible refine t_bl ?_); (with_reducible refine t_block ?_))
        | (with_reducible refine t_inBlock ?_)
        | ((with_reducible refine t_isExit ?_); refine t_exit rfl ?_)
        | simp only [decide_eq_true_eq, decide_eq_false_iff_not, Bool.not_eq_true', Bool.not_eq_false'] at *
        | simp (disch := omega) only [go_sem, Nat.reduceLT, Nat.reduceEqDiff, Nat.reduceAdd, Nat.reduceLeDiff, Nat.reduceMul, Int.reduceLT, Int.reduceLE, Int.reduceAdd, Int.reduceSub, Int.reduceNeg, Int.reduceToNat, Int.reduceBEq, Int.reduceEq, reduceCtorEq, List.take_succ_cons, List.take_zero, List.take_nil, List.drop_succ_cons, List.drop_nil, List.cons_append, List.nil_append, List.set_cons_zero, List.set_cons_succ, ↓reduceIte, *]
        | (with_reducible refine tb_true ?_)
        | (with_reducible refine tb_false ?_)
        | (with_reducible refine tb_split (fun _ => ?_) (fun _ => ?_))
        | (with_reducible refine wg_f (fun _ => ?_) (fun _ => ?_))
        | (with_reducible refine wg_t (fun _ => ?_) (fun _ => ?_))
        | (with_reducible refine wd_f (fun _ => ?_) (fun _ => ?_))
        | (with_reducible refine wd_t (fun _ => ?_) (fun _ => ?_))
      all_goals first | (exfalso; omega) | exact ⟨rfl, rfl⟩
  · rintro t h -
    obtain ⟨hc, n⟩ := h
    repeat' first
      | (with_reducible refine t_seq ?_)
      | (with_reducible refine t_skip ?_)
      | (with_reducible refine t_ret ?_)
      | (with_reducible refine t_end ?_)
      | (with_reducible refine t_cond ?_)
      | (with_reducible refine t_region ?_)
      | (with_reducible refine wr_done ?_)
      | ((with_reducible refine t_isDraw ?_); refine t_draw rfl (by kernel_rfl) ?_)
      | (with_reducible refine WD.done _ ?_)
      | (with_reducible refine wdp_done ?_)
      | (with_reducible refine tr_some ?_)
      | ((fail_if_success with_reducible refine t_bl ?_); (with_reducible refine t_block ?_))
      | (with_reducible refine t_inBlock ?_)
      | ((with_reducible refine t_isExit ?_); refine t_exit rfl ?_)
      | simp only [decide_eq_true_eq, decide_eq_false_iff_not, Bool.not_eq_true', Bool.not_eq_false'] at *
      | simp (disch := omega) only [go_sem, Nat.reduceLT, Nat.reduceEqDiff, Nat.reduceAdd, Nat.reduceLeDiff, Nat.reduceMul, Int.reduceLT, Int.reduceLE, Int.reduceAdd, Int.reduceSub, Int.reduceNeg, Int.reduceToNat, Int.reduceBEq, Int.reduceEq, reduceCtorEq, List.take_succ_cons, List.take_zero, List.take_nil, List.drop_succ_cons, List.drop_nil, List.cons_append, List.nil_append, List.set_cons_zero, List.set_cons_succ, ↓reduceIte, *]
      | (with_reducible refine tb_true ?_)
      | (with_reducible refine tb_false ?_)
      | (with_reducible refine tb_split (fun _ => ?_) (fun _ => ?_))
      | (with_reducible refine wg_f (fun _ => ?_) (fun _ => ?_))
      | (with_reducible refine wg_t (fun _ => ?_) (fun _ => ?_))
      | (with_reducible refine wd_f (fun _ => ?_) (fun _ => ?_))
      | (with_reducible refine wd_t (fun _ => ?_) (fun _ => ?_))
    exact ⟨rfl, rfl⟩
end Go.Proofs.YtkokongbnemkhaaGreatDoorA
