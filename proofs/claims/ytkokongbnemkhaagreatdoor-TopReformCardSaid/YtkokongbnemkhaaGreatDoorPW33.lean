/- reform.Jump; reforms that a law builds itself; ReformEach as a contract. -/
import Derived.Test.YtkokongbnemkhaaGreatDoorNX
import Derived.Test.YtkokongbnemkhaaGreatDoorPJG
import Derived.Test.YtkokongbnemkhaaGreatDoorND
set_option linter.unusedVariables false
set_option linter.unusedSimpArgs false
namespace Go.Proofs.YtkokongbnemkhaaGreatDoorA
open Go Go.RowKit Go.Proofs.YtkokongbnemkhaaGreatDoorFx Go.Proofs
variable {m : Int}
/-- A reform whose parts lie in a slice that is known not to be nil. -/
def Ref.AT (r : Ref) : AV := .agg [.s r.nm, .isl true 2 r.rows]
theorem Ref.wk (r : Ref) : Wk r.AT r.A := Wk.agg rfl (fun j a b h1 h2 => by
  match j, h1, h2 with
  | 0, h1, h2 => cases h1; cases h2; exact .refl _
  | 1, h1, h2 => cases h1; cases h2; exact Wk.isl _ _
  | n + 2, h1, h2 => simp at h1)
set_option maxRecDepth 10000000 in
theorem julDay1 : MeetsP Tryz.prog (glT m) 32 [.s julS, dateA 1 1 3] (resD (.i .i64 1) 0) := by
  have e1 : (calOf 1 julR).first 1 = -1 := by kernel_rfl
  have e2 : (calOf 1 julR).first (1 + 1) = 364 := by kernel_rfl
  have e3 : (calOf 1 julR).bef 1 0 = 0 := rfl
  have e4 : (calOf 1 julR).bef 1 (0 + 1) = 31 := by kernel_rfl
  have hat : (calOf 1 julR).At 1 1 0 := ⟨by kernel_rfl, by omega, by omega, by omega, by omega, Nat.lt_of_lt_of_le Nat.zero_lt_one (calOk julIn).len1, by omega, by omega⟩
  have h := hat.back (m := m) (calGood julIn)
  rw [e1] at h
  exact dayP julIn h
def refOne : Ref := ⟨[111, 110, 101], [(-4000000, julS)]⟩
theorem refOne_i {i : Nat} (hi : i < refOne.ps.length) : i = 0 := by simp [refOne] at hi; omega
theorem refOne_ok : refOne.Ok where
  nm := by kernel_rfl
  l1 := by decide
  l2 := by decide
  fst := rfl
  far := fun i hi => by rw [refOne_i hi]; rfl
  inc := fun i hi => by simp [refOne] at hi
  known := fun i hi => by rw [refOne_i hi]; exact jul_known
theorem oneDays : MeetsP Tryz.prog (glT m) 11 [refOne.AT, dateA 1 1 3] (resD (.isl true 1 [[.i .i64 1]]) 0) := by
  have h := refDays (m := m) refOne (by decide) refOne_ok (y := 1) (mo := 1) (d := 3) (N := fun _ => 1) (E := fun _ => 0) (fun i hi => by
    rw [refOne_i hi]; exact julDay1)
  have e : refOne.days (fun _ => 1) (fun _ => 0) refOne.ps.length = [1] := by
    show [] ++ refOne.pick (fun _ => 1) (fun _ => 0) 0 = [1]
    unfold Ref.pick
    rw [if_pos ⟨rfl, by show (-4000000 : Int) ≤ 1; omega, .inl rfl⟩]; rfl
  rw [e] at h
  exact h.narrow1 refOne.wk
set_option maxRecDepth 100000 in
set_option maxHeartbeats 4000000 in
theorem reformEachP (r : Ref) (hs : r.nm.length ≤ 140737488351232) (day : Int) : MeetsP Tryz.prog (glT m) 3 [r.A, .i .i64 day] (.b true) := by
  have hone := oneDays (m := m)
  have hct := kcutP (m := m) (a := day) (lo := -1000000) (n := 2000000) (by omega) (by omega) (by omega) (by omega)
  have hm1 := Int.emod_nonneg day (show (2000000 : Int) ≠ 0 by omega)
  have hm2 := Int.emod_lt_of_pos day (show (0 : Int) < 2000000 by omega)
  generalize hY : -1000000 + day % 2000000 = D at hct
  have hD : chkDay D = 0 := chkDay_ok (by omega) (by omega)
  clear hY hm1 hm2
  have hno := r.A_no
  unfold Ref.AT Ref.rows refOne julS dateA resD at hone
  simp only [List.map_cons, List.map_nil] at hone
  by_cases hk : r.chk = 0
  case neg =>
    have hf := refFromBad (m := m) r hs hk D
    unfold resD dateA at *
    unfold Ref.A at *
    generalize r.chk = e at *
    refine meetsP (E := (EW m)) 99 [.tmp 4] (ew m) Tryz.func3 rfl (by decide) rfl rfl (by simp) ?_
    repeat' first
      | (with_reducible refine t_freezeH (S := ⟨_, _, ⟨(2, _) :: (1, .rows 2 _) :: _, 3⟩⟩) 1 rfl rfl ?_)
      | ((with_reducible refine wr_isCall ?_); refine wr_P hone rfl ?_)
      | ((with_reducible refine wr_isCall ?_); refine wr_P hct rfl ?_)
      | ((with_reducible refine wr_isCall ?_); refine wr_P hf rfl ?_)
      | (with_reducible refine t_seq ?_)
      | (with_reducible refine t_skip ?_)
      | (with_reducible refine t_ret ?_)
      | (with_reducible refine t_end ?_)
      | (with_reducible refine t_cond ?_)
      | (with_reducible refine t_region ?_)
      | (with_reducible refine wr_done ?_)
      | ((with_reducible refine t_isDraw ?_); refine t_draw rfl (by kernel_rfl) ?_)
      | (with_reducible refine WD.done _ ?_)
      | (with_reducible refine wdp_done ?_)
      | (with_reducible refine tr_some ?_)
      | ((fail_if_success with_reducible refine t_bl ?_); (with_reducible refine t_block ?_))
      | (with_reducible refine t_inBlock ?_)
      | ((with_reducible refine t_isExit ?_); refine t_exit rfl ?_)
      | simp only [decide_eq_true_eq, decide_eq_false_iff_not, Bool.not_eq_true', Bool.not_eq_false'] at *
      | simp (disch := omega) only [go_sem, Nat.reduceLT, Nat.reduceEqDiff, Nat.reduceAdd, Nat.reduceLeDiff, Nat.reduceMul, Int.reduceLT, Int.reduceLE, Int.reduceAdd, Int.reduceSub, Int.reduceNeg, Int.reduceToNat, Int.reduceBEq, Int.reduceEq, reduceCtorEq, List.take_succ_cons, List.take_zero, List.take_nil, List.drop_succ_cons, List.drop_nil, List.cons_append, List.nil_append, List.set_cons_zero, List.set_cons_succ, ↓reduceIte, *]
      | (with_reducible refine tb_true ?_)
      | (with_reducible refine tb_false ?_)
      | (with_reducible refine tb_split (fun _ => ?_) (fun _ => ?_))
      | (with_reducible refine wg_f (fun _ => ?_) (fun _ => ?_))
      | (with_reducible refine wg_t (fun _ => ?_) (fun _ => ?_))
      | (with_reducible refine wd_f (fun _ => ?_) (fun _ => ?_))
      | (with_reducible refine wd_t (fun _ => ?_) (fun _ => ?_))
    all_goals first | (exfalso; omega) | exact ⟨rfl, rfl⟩
  have hr := Ref.chk_ok.1 hk
  obtain ⟨k, hin⟩ := hr.part hD
  have hkn := hr.known k hin.lt
  rcases fromDay_all (calN_good (m := m) hkn) D with hf0 | ⟨y, mo, hat⟩
  · have hf := refFrom (m := m) r hs hr hD hin (calN_date hkn hf0)
    unfold resD dateA at *
    unfold Ref.A at *
    generalize r.rows = R at *
    refine meetsP (E := (EW m)) 99 [.tmp 4] (ew m) Tryz.func3 rfl (by decide) rfl rfl (by simp) ?_
    repeat' first
      | (with_reducible refine t_freezeH (S := ⟨_, _, ⟨(2, _) :: (1, .rows 2 _) :: _, 3⟩⟩) 1 rfl rfl ?_)
      | ((with_reducible refine wr_isCall ?_); refine wr_P hone rfl ?_)
      | ((with_reducible refine wr_isCall ?_); refine wr_P hct rfl ?_)
      | ((with_reducible refine wr_isCall ?_); refine wr_P hf rfl ?_)
      | (with_reducible refine t_seq ?_)
      | (with_reducible refine t_skip ?_)
      | (with_reducible refine t_ret ?_)
      | (with_reducible refine t_end ?_)
      | (with_reducible refine t_cond ?_)
      | (with_reducible refine t_region ?_)
      | (with_reducible refine wr_done ?_)
      | ((with_reducible refine t_isDraw ?_); refine t_draw rfl (by kernel_rfl) ?_)
      | (with_reducible refine WD.done _ ?_)
      | (with_reducible refine wdp_done ?_)
      | (with_reducible refine tr_some ?_)
      | ((fail_if_success with_reducible refine t_bl ?_); (with_reducible refine t_block ?_))
      | (with_reducible refine t_inBlock ?_)
      | ((with_reducible refine t_isExit ?_); refine t_exit rfl ?_)
      | simp only [decide_eq_true_eq, decide_eq_false_iff_not, Bool.not_eq_true', Bool.not_eq_false'] at *
      | simp (disch := omega) only [go_sem, Nat.reduceLT, Nat.reduceEqDiff, Nat.reduceAdd, Nat.reduceLeDiff, Nat.reduceMul, Int.reduceLT, Int.reduceLE, Int.reduceAdd, Int.reduceSub, Int.reduceNeg, Int.reduceToNat, Int.reduceBEq, Int.reduceEq, reduceCtorEq, List.take_succ_cons, List.take_zero, List.take_nil, List.drop_succ_cons, List.drop_nil, List.cons_append, List.nil_append, List.set_cons_zero, List.set_cons_succ, ↓reduceIte, *]
      | (with_reducible refine tb_true ?_)
      | (with_reducible refine tb_false ?_)
      | (with_reducible refine tb_split (fun _ => ?_) (fun _ => ?_))
      | (with_reducible refine wg_f (fun _ => ?_) (fun _ => ?_))
      | (with_reducible refine wg_t (fun _ => ?_) (fun _ => ?_))
      | (with_reducible refine wd_f (fun _ => ?_) (fun _ => ?_))
      | (with_reducible refine wd_t (fun _ => ?_) (fun _ => ?_))
    all_goals first | (exfalso; omega) | exact ⟨rfl, rfl⟩
  have hf := refFrom (m := m) r hs hr hD hin (calN_date hkn (hat.run (calN_good hkn)))
  obtain ⟨N, E, hask⟩ := hr.ask (m := m) y ((mo : Int) + 1) (D - (calN (r.c k)).first y + 1 - (calN (r.c k)).bef y mo)
  have hdays := refDays (m := m) r hs hr (fun i hi => (hask i hi).1)
  obtain ⟨hE0, hN0⟩ := (hask k hin.lt).2.2 D mo rfl hat rfl
  have hmem : D ∈ r.days N E r.ps.length := Ref.mem_days.2 ⟨k, hin.lt, hE0, by rw [hN0]; exact hin.le, by
    rw [hN0]
    rcases Nat.lt_or_ge (k + 1) r.ps.length with q | q
    · exact .inr (hin.nx q)
    · exact .inl (by have := hin.lt; omega), hN0.symm⟩
  have hsort := (hr.days_sorted N E r.ps.length (Nat.le_refl _)).1
  have hlen := r.days_len N E r.ps.length
  have hl2 := hr.l2
  have hall : ∀ x ∈ r.days N E r.ps.length, MeetsP Tryz.prog (glT m) 13 [r.A, .i .i64 x] (resD (dateA y ((mo : Int) + 1) (D - (calN (r.c k)).first y + 1 - (calN (r.c k)).bef y mo)) 0) := fun x hx => by
    obtain ⟨j, hj, e1, e2, e3, rfl⟩ := Ref.mem_days.1 hx
    obtain ⟨k', q1, q2, q3⟩ := (hask j hj).2.1 e1
    have hinj : r.In (N j) j := ⟨hj, e2, fun h => by rcases e3 with q | q; omega; exact q⟩
    have := refFrom (m := m) r hs hr q2.far hinj (calN_date (hr.known j hj) (q2.run (calN_good (hr.known j hj))))
    rwa [q3, ← q1] at this
  generalize r.days N E r.ps.length = DL at *
  have hne : DL ≠ [] := fun q => by rw [q] at hmem; simp at hmem
  have hlt : ∀ (i : Nat) (h1 : i + 1 < DL.length), DL[i] < DL[i + 1] := fun i h1 => List.pairwise_iff_getElem.1 hsort i (i + 1) (by omega) h1 (by omega)
  unfold lstA at hdays
  rw [if_neg hne] at hdays
  have hdr : (intR DL).length = DL.length := intR_len _
  have hget : ∀ i (h : i < DL.length), (intR DL)[i]? = some [.i .i64 DL[i]] := fun i h => by simp [intR, h]
  generalize D - (calN (r.c k)).first y + 1 - (calN (r.c k)).bef y mo = dd at *
  generalize hM : ((mo : Int) + 1) = M at *
  clear hask hE0 hN0 hat hin hM hsort
  unfold resD dateA at *
  unfold Ref.A at *
  generalize r.rows = R at *
  generalize intR DL = DR at *
  refine meetsP (E := (EW m)) 99 [.tmp 4] (ew m) Tryz.func3 rfl (by decide) rfl rfl (by simp) ?_
  repeat' first
    | (with_reducible refine t_freezeH (S := ⟨_, _, ⟨(2, _) :: (1, .rows 2 _) :: _, 3⟩⟩) 1 rfl rfl ?_)
    | ((with_reducible refine wr_isCall ?_); refine wr_P hone rfl ?_)
    | ((with_reducible refine wr_isCall ?_); refine wr_P hct rfl ?_)
    | ((with_reducible refine wr_isCall ?_); refine wr_P hf rfl ?_)
    | ((with_reducible refine wr_isCall ?_); refine wr_P hdays rfl ?_)
    | (with_reducible refine t_seq ?_)
    | (with_reducible refine t_skip ?_)
    | (with_reducible refine t_ret ?_)
    | (with_reducible refine t_end ?_)
    | (with_reducible refine t_cond ?_)
    | (with_reducible refine t_region ?_)
    | (with_reducible refine wr_done ?_)
    | ((with_reducible refine t_isDraw ?_); refine t_draw rfl (by kernel_rfl) ?_)
    | (with_reducible refine WD.done _ ?_)
    | (with_reducible refine wdp_done ?_)
    | (with_reducible refine tr_some ?_)
    | ((fail_if_success with_reducible refine t_bl ?_); (with_reducible refine t_block ?_))
    | (with_reducible refine t_inBlock ?_)
    | ((with_reducible refine t_isExit ?_); refine t_exit rfl ?_)
    | simp only [decide_eq_true_eq, decide_eq_false_iff_not, Bool.not_eq_true', Bool.not_eq_false'] at *
    | simp (disch := omega) only [go_sem, Nat.reduceLT, Nat.reduceEqDiff, Nat.reduceAdd, Nat.reduceLeDiff, Nat.reduceMul, Int.reduceLT, Int.reduceLE, Int.reduceAdd, Int.reduceSub, Int.reduceNeg, Int.reduceToNat, Int.reduceBEq, Int.reduceEq, reduceCtorEq, List.take_succ_cons, List.take_zero, List.take_nil, List.drop_succ_cons, List.drop_nil, List.cons_append, List.nil_append, List.set_cons_zero, List.set_cons_succ, ↓reduceIte, *]
    | (with_reducible refine tb_true ?_)
    | (with_reducible refine tb_false ?_)
    | (with_reducible refine tb_split (fun _ => ?_) (fun _ => ?_))
    | (with_reducible refine wg_f (fun _ => ?_) (fun _ => ?_))
    | (with_reducible refine wg_t (fun _ => ?_) (fun _ => ?_))
    | (with_reducible refine wd_f (fun _ => ?_) (fun _ => ?_))
    | (with_reducible refine wd_t (fun _ => ?_) (fun _ => ?_))
  all_goals first | (exfalso; omega) | skip
  refine t_while (I := fun (i : Nat) t h => i ≤ DL.length ∧ (∃ n, 4 ≤ n ∧ h = ⟨[(3, .rows 3 [[.i .i64 y, .i .i64 M, .i .i64 dd]]), (2, .rows 2 [[.s [111, 110, 101], .isl true 2 [[.i .i64 (-4000000), .s [106, 117, 108, 105, 97, 110]]]]]), (0, .rows 2 [[.s r.nm, .isl false 2 R]])], n⟩) ∧ get t 1 = .i .i64 D ∧ get t 2 = .ptr 0 0 0 ∧ get t 8 = .ptr 3 0 0 ∧ get t 9 = .i .i64 0 ∧ get t 10 = .isl true 1 DR ∧ get t 54 = .isl true 1 DR ∧ get t 55 = .i .i64 DL.length ∧ get t 56 = .i .i64 i ∧ get t 11 = .b (decide (D ∈ DL.take i))) (m := fun i => DL.length - i)
    (J := fun t h => get t 9 = .i .i64 0 ∧ get t 11 = .b true) 0
    ⟨by omega, ⟨4, by omega, rfl⟩, by simp [get], by simp [get], by simp [get], by simp [get], by simp [get], by simp [get], by simp [get, hdr], by simp [get], by simp [get]⟩ ?_ ?_
  · rintro i t h ⟨hi, ⟨n, hn, rfl⟩, g1, g2, g8, g9, g10, g54, g55, g56, g11⟩ hrec hex
    have hn0 : ¬ n = 0 := by omega
    have hn2 : ¬ n = 2 := by omega
    have hn3 : ¬ n = 3 := by omega
    by_cases hi' : i < DL.length
    · have hx := hall _ (List.getElem_mem hi')
      have hg := hget i hi'
      have hpre : ∀ (h : 0 < i), ∃ z, DR[i - 1]? = some [.i .i64 z] ∧ z < DL[i] := fun h => by
        have a := hget (i - 1) (by omega)
        have b := hlt (i - 1) (by omega)
        refine ⟨DL[i - 1], a, ?_⟩
        have e : DL[i - 1 + 1]'(by omega) = DL[i] := by congr 1; omega
        rwa [e] at b
      have htk : decide (D ∈ DL.take (i + 1)) = (decide (D ∈ DL.take i) || decide (DL[i] = D)) := by
        rw [List.take_succ_eq_append_getElem hi', ← Bool.decide_or]
        refine decide_eq_decide.2 ?_
        simp only [List.mem_append, List.mem_singleton]
        exact or_congr Iff.rfl eq_comm
      generalize DL[i] = x at *
      generalize hB : decide (D ∈ DL.take i) = B at *
      clear hget hlt hall
      by_cases h0 : 0 < i
      · obtain ⟨z, hz1, hz2⟩ := hpre h0
        have e1 : ((i : Int) - 1).toNat = i - 1 := by omega
        have c0 : (0 : Int) < i := by omega
        clear hpre
        cases B
        · repeat' first
            | ((with_reducible refine wr_isCall ?_); refine wr_P hx rfl ?_)
            | (with_reducible refine t_seq ?_)
            | (with_reducible refine t_skip ?_)
            | (with_reducible refine t_ret ?_)
            | (with_reducible refine t_end ?_)
            | (with_reducible refine t_cond ?_)
            | (with_reducible refine t_region ?_)
            | (with_reducible refine wr_done ?_)
            | ((with_reducible refine t_isDraw ?_); refine t_draw rfl (by kernel_rfl) ?_)
            | (with_reducible refine WD.done _ ?_)
            | (with_reducible refine wdp_done ?_)
            | (with_reducible refine tr_some ?_)
            | ((fail_if_success with_reducible refine t_bl ?_); (with_reducible refine t_block ?_))
            | (with_reducible refine t_inBlock ?_)
            | ((with_reducible refine t_isExit ?_); refine t_exit rfl ?_)
            | simp only [decide_eq_true_eq, decide_eq_false_iff_not, Bool.not_eq_true', Bool.not_eq_false'] at *
            | simp (disch := omega) only [go_sem, Nat.reduceLT, Nat.reduceEqDiff, Nat.reduceAdd, Nat.reduceLeDiff, Nat.reduceMul, Int.reduceLT, Int.reduceLE, Int.reduceAdd, Int.reduceSub, Int.reduceNeg, Int.reduceToNat, Int.reduceBEq, Int.reduceEq, reduceCtorEq, List.take_succ_cons, List.take_zero, List.take_nil, List.drop_succ_cons, List.drop_nil, List.cons_append, List.nil_append, List.set_cons_zero, List.set_cons_succ, ↓reduceIte, *]
            | (with_reducible refine tb_true ?_)
            | (with_reducible refine tb_false ?_)
            | (with_reducible refine tb_split (fun _ => ?_) (fun _ => ?_))
            | (with_reducible refine wg_f (fun _ => ?_) (fun _ => ?_))
            | (with_reducible refine wg_t (fun _ => ?_) (fun _ => ?_))
            | (with_reducible refine wd_f (fun _ => ?_) (fun _ => ?_))
            | (with_reducible refine wd_t (fun _ => ?_) (fun _ => ?_))
          all_goals first | (exfalso; omega) | skip
          all_goals refine t_pop ?_
          all_goals exact hrec (i + 1) _ _ ⟨by omega, ⟨n + 1, by omega, rfl⟩, by simp [get, g1], by simp [get, g2], by simp [get, g8], by simp [get, g9], by simp [get, g10], by simp [get, g54], by simp [get, g55], by simp [get], by simp [get, htk]⟩ (by omega)
        · repeat' first
            | ((with_reducible refine wr_isCall ?_); refine wr_P hx rfl ?_)
            | (with_reducible refine t_seq ?_)
            | (with_reducible refine t_skip ?_)
            | (with_reducible refine t_ret ?_)
            | (with_reducible refine t_end ?_)
            | (with_reducible refine t_cond ?_)
            | (with_reducible refine t_region ?_)
            | (with_reducible refine wr_done ?_)
            | ((with_reducible refine t_isDraw ?_); refine t_draw rfl (by kernel_rfl) ?_)
            | (with_reducible refine WD.done _ ?_)
            | (with_reducible refine wdp_done ?_)
            | (with_reducible refine tr_some ?_)
            | ((fail_if_success with_reducible refine t_bl ?_); (with_reducible refine t_block ?_))
            | (with_reducible refine t_inBlock ?_)
            | ((with_reducible refine t_isExit ?_); refine t_exit rfl ?_)
            | simp only [decide_eq_true_eq, decide_eq_false_iff_not, Bool.not_eq_true', Bool.not_eq_false'] at *
            | simp (disch := omega) only [go_sem, Nat.reduceLT, Nat.reduceEqDiff, Nat.reduceAdd, Nat.reduceLeDiff, Nat.reduceMul, Int.reduceLT, Int.reduceLE, Int.reduceAdd, Int.reduceSub, Int.reduceNeg, Int.reduceToNat, Int.reduceBEq, Int.reduceEq, reduceCtorEq, List.take_succ_cons, List.take_zero, List.take_nil, List.drop_succ_cons, List.drop_nil, List.cons_append, List.nil_append, List.set_cons_zero, List.set_cons_succ, ↓reduceIte, *]
            | (with_reducible refine tb_true ?_)
            | (with_reducible refine tb_false ?_)
            | (with_reducible refine tb_split (fun _ => ?_) (fun _ => ?_))
            | (with_reducible refine wg_f (fun _ => ?_) (fun _ => ?_))
            | (with_reducible refine wg_t (fun _ => ?_) (fun _ => ?_))
            | (with_reducible refine wd_f (fun _ => ?_) (fun _ => ?_))
            | (with_reducible refine wd_t (fun _ => ?_) (fun _ => ?_))
          all_goals first | (exfalso; omega) | skip
          all_goals refine t_pop ?_
          all_goals exact hrec (i + 1) _ _ ⟨by omega, ⟨n + 1, by omega, rfl⟩, by simp [get, g1], by simp [get, g2], by simp [get, g8], by simp [get, g9], by simp [get, g10], by simp [get, g54], by simp [get, g55], by simp [get], by simp [get, htk]⟩ (by omega)
      · clear hpre
        have c0 : ¬ (0 : Int) < i := by omega
        cases B
        · repeat' first
            | ((with_reducible refine wr_isCall ?_); refine wr_P hx rfl ?_)
            | (with_reducible refine t_seq ?_)
            | (with_reducible refine t_skip ?_)
            | (with_reducible refine t_ret ?_)
            | (with_reducible refine t_end ?_)
            | (with_reducible refine t_cond ?_)
            | (with_reducible refine t_region ?_)
            | (with_reducible refine wr_done ?_)
            | ((with_reducible refine t_isDraw ?_); refine t_draw rfl (by kernel_rfl) ?_)
            | (with_reducible refine WD.done _ ?_)
            | (with_reducible refine wdp_done ?_)
            | (with_reducible refine tr_some ?_)
            | ((fail_if_success with_reducible refine t_bl ?_); (with_reducible refine t_block ?_))
            | (with_reducible refine t_inBlock ?_)
            | ((with_reducible refine t_isExit ?_); refine t_exit rfl ?_)
            | simp only [decide_eq_true_eq, decide_eq_false_iff_not, Bool.not_eq_true', Bool.not_eq_false'] at *
            | simp (disch := omega) only [go_sem, Nat.reduceLT, Nat.reduceEqDiff, Nat.reduceAdd, Nat.reduceLeDiff, Nat.reduceMul, Int.reduceLT, Int.reduceLE, Int.reduceAdd, Int.reduceSub, Int.reduceNeg, Int.reduceToNat, Int.reduceBEq, Int.reduceEq, reduceCtorEq, List.take_succ_cons, List.take_zero, List.take_nil, List.drop_succ_cons, List.drop_nil, List.cons_append, List.nil_append, List.set_cons_zero, List.set_cons_succ, ↓reduceIte, *]
            | (with_reducible refine tb_true ?_)
            | (with_reducible refine tb_false ?_)
            | (with_reducible refine tb_split (fun _ => ?_) (fun _ => ?_))
            | (with_reducible refine wg_f (fun _ => ?_) (fun _ => ?_))
            | (with_reducible refine wg_t (fun _ => ?_) (fun _ => ?_))
            | (with_reducible refine wd_f (fun _ => ?_) (fun _ => ?_))
            | (with_reducible refine wd_t (fun _ => ?_) (fun _ => ?_))
          all_goals first | (exfalso; omega) | skip
          all_goals refine t_pop ?_
          all_goals exact hrec (i + 1) _ _ ⟨by omega, ⟨n + 1, by omega, rfl⟩, by simp [get, g1], by simp [get, g2], by simp [get, g8], by simp [get, g9], by simp [get, g10], by simp [get, g54], by simp [get, g55], by simp [get], by simp [get, htk]⟩ (by omega)
        · repeat' first
            | ((with_reducible refine wr_isCall ?_); refine wr_P hx rfl ?_)
            | (with_reducible refine t_seq ?_)
            | (with_reducible refine t_skip ?_)
            | (with_reducible refine t_ret ?_)
            | (with_reducible refine t_end ?_)
            | (with_reducible refine t_cond ?_)
            | (with_reducible refine t_region ?_)
            | (with_reducible refine wr_done ?_)
            | ((with_reducible refine t_isDraw ?_); refine t_draw rfl (by kernel_rfl) ?_)
            | (with_reducible refine WD.done _ ?_)
            | (with_reducible refine wdp_done ?_)
            | (with_reducible refine tr_some ?_)
            | ((fail_if_success with_reducible refine t_bl ?_); (with_reducible refine t_block ?_))
            | (with_reducible refine t_inBlock ?_)
            | ((with_reducible refine t_isExit ?_); refine t_exit rfl ?_)
            | simp only [decide_eq_true_eq, decide_eq_false_iff_not, Bool.not_eq_true', Bool.not_eq_false'] at *
            | simp (disch := omega) only [go_sem, Nat.reduceLT, Nat.reduceEqDiff, Nat.reduceAdd, Nat.reduceLeDiff, Nat.reduceMul, Int.reduceLT, Int.reduceLE, Int.reduceAdd, Int.reduceSub, Int.reduceNeg, Int.reduceToNat, Int.reduceBEq, Int.reduceEq, reduceCtorEq, List.take_succ_cons, List.take_zero, List.take_nil, List.drop_succ_cons, List.drop_nil, List.cons_append, List.nil_append, List.set_cons_zero, List.set_cons_succ, ↓reduceIte, *]
            | (with_reducible refine tb_true ?_)
            | (with_reducible refine tb_false ?_)
            | (with_reducible refine tb_split (fun _ => ?_) (fun _ => ?_))
            | (with_reducible refine wg_f (fun _ => ?_) (fun _ => ?_))
            | (with_reducible refine wg_t (fun _ => ?_) (fun _ => ?_))
            | (with_reducible refine wd_f (fun _ => ?_) (fun _ => ?_))
            | (with_reducible refine wd_t (fun _ => ?_) (fun _ => ?_))
          all_goals first | (exfalso; omega) | skip
          all_goals refine t_pop ?_
          all_goals exact hrec (i + 1) _ _ ⟨by omega, ⟨n + 1, by omega, rfl⟩, by simp [get, g1], by simp [get, g2], by simp [get, g8], by simp [get, g9], by simp [get, g10], by simp [get, g54], by simp [get, g55], by simp [get], by simp [get, htk]⟩ (by omega)
    · have hB : decide (D ∈ DL.take i) = true := decide_eq_true (by rw [List.take_of_length_le (by omega)]; exact hmem)
      rw [hB] at g11
      clear hget hlt hall
      repeat' first
        | (with_reducible refine t_seq ?_)
        | (with_reducible refine t_skip ?_)
        | (with_reducible refine t_ret ?_)
        | (with_reducible refine t_end ?_)
        | (with_reducible refine t_cond ?_)
        | (with_reducible refine t_region ?_)
        | (with_reducible refine wr_done ?_)
        | ((with_reducible refine t_isDraw ?_); refine t_draw rfl (by kernel_rfl) ?_)
        | (with_reducible refine WD.done _ ?_)
        | (with_reducible refine wdp_done ?_)
        | (with_reducible refine tr_some ?_)
        | ((fail_if_success with_reducible refine t_bl ?_); (with_reducible refine t_block ?_))
        | (with_reducible refine t_inBlock ?_)
        | ((with_reducible refine t_isExit ?_); refine t_exit rfl ?_)
        | simp only [decide_eq_true_eq, decide_eq_false_iff_not, Bool.not_eq_true', Bool.not_eq_false'] at *
        | simp (disch := omega) only [go_sem, Nat.reduceLT, Nat.reduceEqDiff, Nat.reduceAdd, Nat.reduceLeDiff, Nat.reduceMul, Int.reduceLT, Int.reduceLE, Int.reduceAdd, Int.reduceSub, Int.reduceNeg, Int.reduceToNat, Int.reduceBEq, Int.reduceEq, reduceCtorEq, List.take_succ_cons, List.take_zero, List.take_nil, List.drop_succ_cons, List.drop_nil, List.cons_append, List.nil_append, List.set_cons_zero, List.set_cons_succ, ↓reduceIte, *]
        | (with_reducible refine tb_true ?_)
        | (with_reducible refine tb_false ?_)
        | (with_reducible refine tb_split (fun _ => ?_) (fun _ => ?_))
        | (with_reducible refine wg_f (fun _ => ?_) (fun _ => ?_))
        | (with_reducible refine wg_t (fun _ => ?_) (fun _ => ?_))
        | (with_reducible refine wd_f (fun _ => ?_) (fun _ => ?_))
        | (with_reducible refine wd_t (fun _ => ?_) (fun _ => ?_))
      all_goals first | (exfalso; omega) | exact ⟨rfl, rfl⟩ | exact hex _ _ ⟨by simp [get, g9], by simp [get, g11]⟩
  · rintro t h ⟨g9, g11⟩
    repeat' first
      | (with_reducible refine t_seq ?_)
      | (with_reducible refine t_skip ?_)
      | (with_reducible refine t_ret ?_)
      | (with_reducible refine t_end ?_)
      | (with_reducible refine t_cond ?_)
      | (with_reducible refine t_region ?_)
      | (with_reducible refine wr_done ?_)
      | ((with_reducible refine t_isDraw ?_); refine t_draw rfl (by kernel_rfl) ?_)
      | (with_reducible refine WD.done _ ?_)
      | (with_reducible refine wdp_done ?_)
      | (with_reducible refine tr_some ?_)
      | ((fail_if_success with_reducible refine t_bl ?_); (with_reducible refine t_block ?_))
      | (with_reducible refine t_inBlock ?_)
      | ((with_reducible refine t_isExit ?_); refine t_exit rfl ?_)
      | simp only [decide_eq_true_eq, decide_eq_false_iff_not, Bool.not_eq_true', Bool.not_eq_false'] at *
      | simp (disch := omega) only [go_sem, Nat.reduceLT, Nat.reduceEqDiff, Nat.reduceAdd, Nat.reduceLeDiff, Nat.reduceMul, Int.reduceLT, Int.reduceLE, Int.reduceAdd, Int.reduceSub, Int.reduceNeg, Int.reduceToNat, Int.reduceBEq, Int.reduceEq, reduceCtorEq, List.take_succ_cons, List.take_zero, List.take_nil, List.drop_succ_cons, List.drop_nil, List.cons_append, List.nil_append, List.set_cons_zero, List.set_cons_succ, ↓reduceIte, *]
      | (with_reducible refine tb_true ?_)
      | (with_reducible refine tb_false ?_)
      | (with_reducible refine tb_split (fun _ => ?_) (fun _ => ?_))
      | (with_reducible refine wg_f (fun _ => ?_) (fun _ => ?_))
      | (with_reducible refine wg_t (fun _ => ?_) (fun _ => ?_))
      | (with_reducible refine wd_f (fun _ => ?_) (fun _ => ?_))
      | (with_reducible refine wd_t (fun _ => ?_) (fun _ => ?_))
    exact ⟨rfl, rfl⟩
end Go.Proofs.YtkokongbnemkhaaGreatDoorA
