/- ReformSkips as a contract. -/
import Derived.Test.YtkokongbnemkhaaGreatDoorPW34
import Derived.Test.YtkokongbnemkhaaGreatDoorPW22
set_option linter.unusedVariables false
set_option linter.unusedSimpArgs false
namespace Go.Proofs.YtkokongbnemkhaaGreatDoorA
open Go Go.RowKit Go.Proofs.YtkokongbnemkhaaGreatDoorFx Go.Proofs
variable {m : Int}
def refChg : Ref := ⟨[99, 104, 97, 110, 103, 101], [(-4000000, julS), (577736, grgS)]⟩
theorem two_i {nm : List UInt8} {p q : Int × List UInt8} {i : Nat} (hi : i < (Ref.mk nm [p, q]).ps.length) : i = 0 ∨ i = 1 := by simp at hi; omega
theorem two_ok {nm : List UInt8} {F : Int} {a b : List UInt8} (hn : nameB nm = true) (h1 : -4000000 < F) (h2 : F ≤ 4000000) (ha : ¬ Unknown a) (hb : ¬ Unknown b) : (Ref.mk nm [(-4000000, a), (F, b)]).Ok where
  nm := hn
  l1 := by show 1 ≤ 2; omega
  l2 := by show 2 ≤ 10; omega
  fst := rfl
  far := fun i hi => by rcases two_i hi with rfl | rfl; exact (rfl : chkDay (-4000000) = 0); exact chkDay_ok (by show -4000000 ≤ F; omega) h2
  inc := fun i hi => by
    have : i = 0 := by simp at hi; omega
    subst this; exact h1
  known := fun i hi => by rcases two_i hi with rfl | rfl; exact ha; exact hb
set_option maxRecDepth 10000000 in
theorem grgDate : MeetsP Tryz.prog (glT m) 16 [.s grgS, .i .i64 577736] (resD (dateA 1582 10 15) 0) := by
  have e1 : (calOf 0 grgR).first 1582 = 577449 := by kernel_rfl
  have e2 : (calOf 0 grgR).first (1582 + 1) = 577814 := by kernel_rfl
  have e3 : (calOf 0 grgR).bef 1582 9 = 273 := by kernel_rfl
  have e4 : (calOf 0 grgR).bef 1582 (9 + 1) = 304 := by kernel_rfl
  have hat : (calOf 0 grgR).At 577736 1582 9 := ⟨by kernel_rfl, by omega, by omega, by omega, by omega, by decide +kernel, by omega, by omega⟩
  have h := hat.run (m := m) (calGood grgIn)
  rw [e1, e3] at h
  exact dateP grgIn h
set_option maxRecDepth 10000000 in
theorem julDay2 : MeetsP Tryz.prog (glT m) 32 [.s julS, dateA 1582 10 15] (resD (.i .i64 577746) 0) := by
  have e1 : (calOf 1 julR).first 1582 = 577459 := by kernel_rfl
  have e2 : (calOf 1 julR).first (1582 + 1) = 577824 := by kernel_rfl
  have e3 : (calOf 1 julR).bef 1582 9 = 273 := by kernel_rfl
  have e4 : (calOf 1 julR).bef 1582 (9 + 1) = 304 := by kernel_rfl
  have hat : (calOf 1 julR).At 577746 1582 9 := ⟨by kernel_rfl, by omega, by omega, by omega, by omega, by decide +kernel, by omega, by omega⟩
  have h := hat.back (m := m) (calGood julIn)
  rw [e1, e3] at h
  exact dayP julIn h
theorem chgJump : MeetsP Tryz.prog (glT m) 14 [refChg.AT, .i .i64 1] (resD (.i .i64 10) 0) := by
  have h := refJump (m := m) refChg (by decide) (two_ok (by kernel_rfl) (by decide) (by decide) jul_known grg_known) (by decide) (y := 1582) (mo := 10) (d := 15) (e := 0) (n := 577746) (e2 := 0) grgDate (fun _ => julDay2) (fun _ _ => by omega)
  rw [if_neg (by simp), if_neg (by simp)] at h
  exact h.narrow1 refChg.wk
set_option maxRecDepth 100000 in
set_option maxHeartbeats 4000000 in
theorem reformSkipsP (a b fr k : Int) : MeetsP Tryz.prog (glT m) 4 [.i .i64 a, .i .i64 b, .i .i64 fr, .i .i64 k] (.b true) := by
  have hch := chgJump (m := m)
  have hna := nameP (m := m) a
  have hnb := nameP (m := m) b
  have hct := kcutP (m := m) (a := fr) (lo := 1) (n := 800000) (by omega) (by omega) (by omega) (by omega)
  have hm1 := Int.emod_nonneg fr (show (800000 : Int) ≠ 0 by omega)
  have hm2 := Int.emod_lt_of_pos fr (show (0 : Int) < 800000 by omega)
  generalize hY : 1 + fr % 800000 = F at hct
  have hF1 : 1 ≤ F := by omega
  have hF2 : F ≤ 800000 := by omega
  clear hY hm1 hm2
  have ka := rowAt_known a
  have kb := rowAt_known b
  generalize (rowAt a).name = na at *
  generalize (rowAt b).name = nb at *
  have hr := two_ok (nm := [114]) (F := F) (by kernel_rfl) (by omega) (by omega) ka kb
  have hwk := (Ref.mk [114] [(-4000000, na), (F, nb)]).wk
  have e0 : (Ref.mk [114] [(-4000000, na), (F, nb)]).f 1 = F := rfl
  have e1 : (Ref.mk [114] [(-4000000, na), (F, nb)]).c 0 = na := rfl
  have e2 : (Ref.mk [114] [(-4000000, na), (F, nb)]).c 1 = nb := rfl
  have e3 : (Ref.mk [114] [(-4000000, na), (F, nb)]).ps.length = 2 := rfl
  have hAT : (Ref.mk [114] [(-4000000, na), (F, nb)]).AT = .agg [.s [114], .isl true 2 [[.i .i64 (-4000000), .s na], [.i .i64 F, .s nb]]] := rfl
  unfold Ref.AT Ref.rows refChg julS grgS at hch
  simp only [List.map_cons, List.map_nil] at hch
  have hJ := fun {y mo d e n e2 : Int} hD hQ hn => (refJump (m := m) (Ref.mk [114] [(-4000000, na), (F, nb)]) (by show 1 ≤ _; omega) hr (by rw [e3]; omega) (y := y) (mo := mo) (d := d) (e := e) (n := n) (e2 := e2) hD hQ hn).narrow1 hwk
  have hDays := fun {y mo d : Int} {N E : Nat → Int} hask => (refDays (m := m) (Ref.mk [114] [(-4000000, na), (F, nb)]) (by show 1 ≤ _; omega) hr (y := y) (mo := mo) (d := d) (N := N) (E := E) hask).narrow1 hwk
  have hAsk := hr.ask (m := m)
  simp only [e0, e1, e2, hAT] at hJ hDays
  -- the date of the change
  rcases fromDay_all (calN_good (m := m) kb) F with hb | ⟨yb, mob, hbt⟩
  · have hj := hJ (y := 0) (mo := 0) (d := 0) (e := 3) (n := 0) (e2 := 0) (calN_date kb hb) (fun h => by cases h) (fun h => by cases h)
    rw [if_pos (by simp)] at hj
    clear hJ hDays hAsk hwk
    unfold resD dateA at *
    refine meetsP (E := (EW m)) 105 [.tmp 8] (ew m) Tryz.func4 rfl (by decide) rfl rfl (by simp) ?_
    repeat' first
      | (with_reducible refine t_freezeH (S := ⟨_, _, ⟨(1, _) :: (0, .rows 2 _) :: _, 2⟩⟩) 0 rfl rfl ?_)
      | (with_reducible refine t_freezeH (S := ⟨_, _, ⟨(3, _) :: (2, .rows 2 _) :: _, 4⟩⟩) 2 rfl rfl ?_)
      | ((with_reducible refine wr_isCall ?_); refine wr_P hch rfl ?_)
      | ((with_reducible refine wr_isCall ?_); refine wr_P hct rfl ?_)
      | ((with_reducible refine wr_isCall ?_); refine wr_P hna rfl ?_)
      | ((with_reducible refine wr_isCall ?_); refine wr_P hnb rfl ?_)
      | ((with_reducible refine wr_isCall ?_); refine wr_P hj rfl ?_)
      | (with_reducible refine t_seq ?_)
      | (with_reducible refine t_skip ?_)
      | (with_reducible refine t_ret ?_)
      | (with_reducible refine t_end ?_)
      | (with_reducible refine t_cond ?_)
      | (with_reducible refine t_region ?_)
      | (with_reducible refine wr_done ?_)
      | ((with_reducible refine t_isDraw ?_); refine t_draw rfl (by kernel_rfl) ?_)
      | (with_reducible refine WD.done _ ?_)
      | (with_reducible refine wdp_done ?_)
      | (with_reducible refine tr_some ?_)
      | ((fail_if_success with_reducible refine t_bl ?_); (with_reducible refine t_block ?_))
      | (with_reducible refine t_inBlock ?_)
      | ((with_reducible refine t_isExit ?_); refine t_exit rfl ?_)
      | simp only [decide_eq_true_eq, decide_eq_false_iff_not, Bool.not_eq_true', Bool.not_eq_false'] at *
      | simp (disch := omega) only [go_sem, Nat.reduceLT, Nat.reduceEqDiff, Nat.reduceAdd, Nat.reduceLeDiff, Nat.reduceMul, Int.reduceLT, Int.reduceLE, Int.reduceAdd, Int.reduceSub, Int.reduceNeg, Int.reduceToNat, Int.reduceBEq, Int.reduceEq, reduceCtorEq, List.take_succ_cons, List.take_zero, List.take_nil, List.drop_succ_cons, List.drop_nil, List.cons_append, List.nil_append, List.set_cons_zero, List.set_cons_succ, ↓reduceIte, *]
      | (with_reducible refine tb_true ?_)
      | (with_reducible refine tb_false ?_)
      | (with_reducible refine tb_split (fun _ => ?_) (fun _ => ?_))
      | (with_reducible refine wg_f (fun _ => ?_) (fun _ => ?_))
      | (with_reducible refine wg_t (fun _ => ?_) (fun _ => ?_))
      | (with_reducible refine wd_f (fun _ => ?_) (fun _ => ?_))
      | (with_reducible refine wd_t (fun _ => ?_) (fun _ => ?_))
    all_goals exact ⟨rfl, rfl⟩
  -- the day of this date in the old calendar
  obtain ⟨nj, ej, hq1, hq2, hq3, _⟩ := toDay_is (m := m) (calN_good (m := m) ka) yb ((mob : Int) + 1) (F - (calN nb).first yb + 1 - (calN nb).bef yb mob)
  have hbnd : ∃ nj', -4000000 ≤ nj' ∧ nj' ≤ 4000000 ∧ (ej = 0 → nj' = nj) := by
    by_cases h : ej = 0
    · obtain ⟨_, _, hat, _⟩ := hq3 h
      have hf := hat.far
      refine ⟨nj, ?_, ?_, fun _ => rfl⟩ <;> (unfold chkDay at hf; split at hf <;> omega)
    · exact ⟨0, by omega, by omega, fun q => absurd q h⟩
  have hd1 := calN_date kb (hbt.run (calN_good (m := m) kb))
  generalize F - (calN nb).first yb + 1 - (calN nb).bef yb mob = db at *
  by_cases hej : ej = 0
  case neg =>
    obtain ⟨n', b1, b2, b3⟩ := hbnd
    have hq1' := calN_day ka hq1
    have hj := hJ (e := 0) (n := nj) (e2 := ej) hd1 (fun _ => hq1') (fun _ q => absurd q hej)
    rw [if_neg (by simp), if_pos hej] at hj
    clear hJ hDays hAsk hwk
    unfold resD dateA at *
    refine meetsP (E := (EW m)) 105 [.tmp 8] (ew m) Tryz.func4 rfl (by decide) rfl rfl (by simp) ?_
    repeat' first
      | (with_reducible refine t_freezeH (S := ⟨_, _, ⟨(1, _) :: (0, .rows 2 _) :: _, 2⟩⟩) 0 rfl rfl ?_)
      | (with_reducible refine t_freezeH (S := ⟨_, _, ⟨(3, _) :: (2, .rows 2 _) :: _, 4⟩⟩) 2 rfl rfl ?_)
      | ((with_reducible refine wr_isCall ?_); refine wr_P hch rfl ?_)
      | ((with_reducible refine wr_isCall ?_); refine wr_P hct rfl ?_)
      | ((with_reducible refine wr_isCall ?_); refine wr_P hna rfl ?_)
      | ((with_reducible refine wr_isCall ?_); refine wr_P hnb rfl ?_)
      | ((with_reducible refine wr_isCall ?_); refine wr_P hj rfl ?_)
      | (with_reducible refine t_seq ?_)
      | (with_reducible refine t_skip ?_)
      | (with_reducible refine t_ret ?_)
      | (with_reducible refine t_end ?_)
      | (with_reducible refine t_cond ?_)
      | (with_reducible refine t_region ?_)
      | (with_reducible refine wr_done ?_)
      | ((with_reducible refine t_isDraw ?_); refine t_draw rfl (by kernel_rfl) ?_)
      | (with_reducible refine WD.done _ ?_)
      | (with_reducible refine wdp_done ?_)
      | (with_reducible refine tr_some ?_)
      | ((fail_if_success with_reducible refine t_bl ?_); (with_reducible refine t_block ?_))
      | (with_reducible refine t_inBlock ?_)
      | ((with_reducible refine t_isExit ?_); refine t_exit rfl ?_)
      | simp only [decide_eq_true_eq, decide_eq_false_iff_not, Bool.not_eq_true', Bool.not_eq_false'] at *
      | simp (disch := omega) only [go_sem, Nat.reduceLT, Nat.reduceEqDiff, Nat.reduceAdd, Nat.reduceLeDiff, Nat.reduceMul, Int.reduceLT, Int.reduceLE, Int.reduceAdd, Int.reduceSub, Int.reduceNeg, Int.reduceToNat, Int.reduceBEq, Int.reduceEq, reduceCtorEq, List.take_succ_cons, List.take_zero, List.take_nil, List.drop_succ_cons, List.drop_nil, List.cons_append, List.nil_append, List.set_cons_zero, List.set_cons_succ, ↓reduceIte, *]
      | (with_reducible refine tb_true ?_)
      | (with_reducible refine tb_false ?_)
      | (with_reducible refine tb_split (fun _ => ?_) (fun _ => ?_))
      | (with_reducible refine wg_f (fun _ => ?_) (fun _ => ?_))
      | (with_reducible refine wg_t (fun _ => ?_) (fun _ => ?_))
      | (with_reducible refine wd_f (fun _ => ?_) (fun _ => ?_))
      | (with_reducible refine wd_t (fun _ => ?_) (fun _ => ?_))
    all_goals exact ⟨rfl, rfl⟩
  subst hej
  obtain ⟨n', b1, b2, b3⟩ := hbnd
  obtain rfl := b3 rfl
  have hj := hJ (e := 0) (n := n') (e2 := 0) hd1 (fun _ => calN_day ka hq1) (fun _ _ => ⟨b1, b2⟩)
  rw [if_neg (by simp), if_neg (by simp)] at hj
  by_cases hshort : n' - F < 1 ∨ na = nb
  · clear hJ hDays hAsk hwk
    unfold resD dateA at *
    refine meetsP (E := (EW m)) 105 [.tmp 8] (ew m) Tryz.func4 rfl (by decide) rfl rfl (by simp) ?_
    repeat' first
      | (with_reducible refine t_freezeH (S := ⟨_, _, ⟨(1, _) :: (0, .rows 2 _) :: _, 2⟩⟩) 0 rfl rfl ?_)
      | (with_reducible refine t_freezeH (S := ⟨_, _, ⟨(3, _) :: (2, .rows 2 _) :: _, 4⟩⟩) 2 rfl rfl ?_)
      | ((with_reducible refine wr_isCall ?_); refine wr_P hch rfl ?_)
      | ((with_reducible refine wr_isCall ?_); refine wr_P hct rfl ?_)
      | ((with_reducible refine wr_isCall ?_); refine wr_P hna rfl ?_)
      | ((with_reducible refine wr_isCall ?_); refine wr_P hnb rfl ?_)
      | ((with_reducible refine wr_isCall ?_); refine wr_P hj rfl ?_)
      | (with_reducible refine t_seq ?_)
      | (with_reducible refine t_skip ?_)
      | (with_reducible refine t_ret ?_)
      | (with_reducible refine t_end ?_)
      | (with_reducible refine t_cond ?_)
      | (with_reducible refine t_region ?_)
      | (with_reducible refine wr_done ?_)
      | ((with_reducible refine t_isDraw ?_); refine t_draw rfl (by kernel_rfl) ?_)
      | (with_reducible refine WD.done _ ?_)
      | (with_reducible refine wdp_done ?_)
      | (with_reducible refine tr_some ?_)
      | ((fail_if_success with_reducible refine t_bl ?_); (with_reducible refine t_block ?_))
      | (with_reducible refine t_inBlock ?_)
      | ((with_reducible refine t_isExit ?_); refine t_exit rfl ?_)
      | simp only [decide_eq_true_eq, decide_eq_false_iff_not, Bool.not_eq_true', Bool.not_eq_false'] at *
      | simp (disch := omega) only [go_sem, Nat.reduceLT, Nat.reduceEqDiff, Nat.reduceAdd, Nat.reduceLeDiff, Nat.reduceMul, Int.reduceLT, Int.reduceLE, Int.reduceAdd, Int.reduceSub, Int.reduceNeg, Int.reduceToNat, Int.reduceBEq, Int.reduceEq, reduceCtorEq, List.take_succ_cons, List.take_zero, List.take_nil, List.drop_succ_cons, List.drop_nil, List.cons_append, List.nil_append, List.set_cons_zero, List.set_cons_succ, ↓reduceIte, *]
      | (with_reducible refine tb_true ?_)
      | (with_reducible refine tb_false ?_)
      | (with_reducible refine tb_split (fun _ => ?_) (fun _ => ?_))
      | (with_reducible refine wg_f (fun _ => ?_) (fun _ => ?_))
      | (with_reducible refine wg_t (fun _ => ?_) (fun _ => ?_))
      | (with_reducible refine wd_f (fun _ => ?_) (fun _ => ?_))
      | (with_reducible refine wd_t (fun _ => ?_) (fun _ => ?_))
    all_goals first | exact ⟨rfl, rfl⟩ | (exfalso; rcases hshort with q | q; omega; contradiction)
  simp only [not_or] at hshort
  obtain ⟨hs1, hs2⟩ := hshort
  have hkm := kmodP (m := m) (a := k) (b := min (n' - F) 300) (by omega) (by omega)
  have hmm1 := Int.emod_nonneg k (show min (n' - F) 300 ≠ 0 by omega)
  have hmm2 := Int.emod_lt_of_pos k (show 0 < min (n' - F) 300 by omega)
  generalize hKM : k % min (n' - F) 300 = KM at *
  clear hKM
  rcases fromDay_all (calN_good (m := m) ka) (F + KM) with hx | ⟨yx, mox, hxt⟩
  · have hxd := calN_date ka hx
    clear hJ hDays hAsk hwk
    unfold resD dateA at *
    refine meetsP (E := (EW m)) 105 [.tmp 8] (ew m) Tryz.func4 rfl (by decide) rfl rfl (by simp) ?_
    repeat' first
      | (with_reducible refine t_freezeH (S := ⟨_, _, ⟨(1, _) :: (0, .rows 2 _) :: _, 2⟩⟩) 0 rfl rfl ?_)
      | (with_reducible refine t_freezeH (S := ⟨_, _, ⟨(3, _) :: (2, .rows 2 _) :: _, 4⟩⟩) 2 rfl rfl ?_)
      | ((with_reducible refine wr_isCall ?_); refine wr_P hch rfl ?_)
      | ((with_reducible refine wr_isCall ?_); refine wr_P hct rfl ?_)
      | ((with_reducible refine wr_isCall ?_); refine wr_P hna rfl ?_)
      | ((with_reducible refine wr_isCall ?_); refine wr_P hnb rfl ?_)
      | ((with_reducible refine wr_isCall ?_); refine wr_P hj rfl ?_)
      | ((with_reducible refine wr_isCall ?_); refine wr_P hkm rfl ?_)
      | ((with_reducible refine wr_isCall ?_); refine wr_P hxd rfl ?_)
      | (with_reducible refine t_seq ?_)
      | (with_reducible refine t_skip ?_)
      | (with_reducible refine t_ret ?_)
      | (with_reducible refine t_end ?_)
      | (with_reducible refine t_cond ?_)
      | (with_reducible refine t_region ?_)
      | (with_reducible refine wr_done ?_)
      | ((with_reducible refine t_isDraw ?_); refine t_draw rfl (by kernel_rfl) ?_)
      | (with_reducible refine WD.done _ ?_)
      | (with_reducible refine wdp_done ?_)
      | (with_reducible refine tr_some ?_)
      | ((fail_if_success with_reducible refine t_bl ?_); (with_reducible refine t_block ?_))
      | (with_reducible refine t_inBlock ?_)
      | ((with_reducible refine t_isExit ?_); refine t_exit rfl ?_)
      | simp only [decide_eq_true_eq, decide_eq_false_iff_not, Bool.not_eq_true', Bool.not_eq_false'] at *
      | simp (disch := omega) only [go_sem, Nat.reduceLT, Nat.reduceEqDiff, Nat.reduceAdd, Nat.reduceLeDiff, Nat.reduceMul, Int.reduceLT, Int.reduceLE, Int.reduceAdd, Int.reduceSub, Int.reduceNeg, Int.reduceToNat, Int.reduceBEq, Int.reduceEq, reduceCtorEq, List.take_succ_cons, List.take_zero, List.take_nil, List.drop_succ_cons, List.drop_nil, List.cons_append, List.nil_append, List.set_cons_zero, List.set_cons_succ, ↓reduceIte, *]
      | (with_reducible refine tb_true ?_)
      | (with_reducible refine tb_false ?_)
      | (with_reducible refine tb_split (fun _ => ?_) (fun _ => ?_))
      | (with_reducible refine wg_f (fun _ => ?_) (fun _ => ?_))
      | (with_reducible refine wg_t (fun _ => ?_) (fun _ => ?_))
      | (with_reducible refine wd_f (fun _ => ?_) (fun _ => ?_))
      | (with_reducible refine wd_t (fun _ => ?_) (fun _ => ?_))
    all_goals first | exact ⟨rfl, rfl⟩ | (exfalso; omega) | (exfalso; contradiction)
  have hxd := calN_date ka (hxt.run (calN_good (m := m) ka))
  obtain ⟨NN, EE, hask⟩ := hAsk yx ((mox : Int) + 1) (F + KM - (calN na).first yx + 1 - (calN na).bef yx mox)
  have hdd := hDays (fun i hi => (hask i hi).1)
  have hA0 := (hask 0 (by rw [e3]; omega)).2.2 (F + KM) mox rfl hxt rfl
  have hge : ∀ x ∈ (Ref.mk [114] [(-4000000, na), (F, nb)]).days NN EE (Ref.mk [114] [(-4000000, na), (F, nb)]).ps.length, F ≤ x := fun x hx => by
    obtain ⟨j, hj', q1, q2, q3, rfl⟩ := Ref.mem_days.1 hx
    rcases two_i hj' with rfl | rfl
    · rcases q3 with q3 | q3
      · rw [e3] at q3; omega
      · rw [e0, hA0.2] at q3; omega
    · exact q2
  have hlen := (Ref.mk [114] [(-4000000, na), (F, nb)]).days_len NN EE (Ref.mk [114] [(-4000000, na), (F, nb)]).ps.length
  rw [e3] at hlen
  generalize (Ref.mk [114] [(-4000000, na), (F, nb)]).days NN EE (Ref.mk [114] [(-4000000, na), (F, nb)]).ps.length = DL at *
  generalize F + KM - (calN na).first yx + 1 - (calN na).bef yx mox = dx at *
  generalize ((mox : Int) + 1) = Mx at *
  clear hJ hDays hAsk hwk hask hA0 hxt hbt hq1 hq3
  unfold resD dateA at *
  unfold lstA at hdd
  by_cases hne : DL = []
  · rw [if_pos hne] at hdd
    refine meetsP (E := (EW m)) 105 [.tmp 8] (ew m) Tryz.func4 rfl (by decide) rfl rfl (by simp) ?_
    repeat' first
      | (with_reducible refine t_freezeH (S := ⟨_, _, ⟨(1, _) :: (0, .rows 2 _) :: _, 2⟩⟩) 0 rfl rfl ?_)
      | (with_reducible refine t_freezeH (S := ⟨_, _, ⟨(3, _) :: (2, .rows 2 _) :: _, 4⟩⟩) 2 rfl rfl ?_)
      | ((with_reducible refine wr_isCall ?_); refine wr_P hch rfl ?_)
      | ((with_reducible refine wr_isCall ?_); refine wr_P hct rfl ?_)
      | ((with_reducible refine wr_isCall ?_); refine wr_P hna rfl ?_)
      | ((with_reducible refine wr_isCall ?_); refine wr_P hnb rfl ?_)
      | ((with_reducible refine wr_isCall ?_); refine wr_P hj rfl ?_)
      | ((with_reducible refine wr_isCall ?_); refine wr_P hkm rfl ?_)
      | ((with_reducible refine wr_isCall ?_); refine wr_P hxd rfl ?_)
      | ((with_reducible refine wr_isCall ?_); refine wr_P hdd rfl ?_)
      | (with_reducible refine t_seq ?_)
      | (with_reducible refine t_skip ?_)
      | (with_reducible refine t_ret ?_)
      | (with_reducible refine t_end ?_)
      | (with_reducible refine t_cond ?_)
      | (with_reducible refine t_region ?_)
      | (with_reducible refine wr_done ?_)
      | ((with_reducible refine t_isDraw ?_); refine t_draw rfl (by kernel_rfl) ?_)
      | (with_reducible refine WD.done _ ?_)
      | (with_reducible refine wdp_done ?_)
      | (with_reducible refine tr_some ?_)
      | (with_reducible refine t_block ?_)
      | (with_reducible refine t_loop ?_)
      | (with_reducible refine t_inLoop ?_)
      | (with_reducible refine t_inBlock ?_)
      | ((with_reducible refine t_isExit ?_); refine t_exit rfl ?_)
      | simp only [decide_eq_true_eq, decide_eq_false_iff_not, Bool.not_eq_true', Bool.not_eq_false'] at *
      | simp (disch := omega) only [go_sem, Nat.reduceLT, Nat.reduceEqDiff, Nat.reduceAdd, Nat.reduceLeDiff, Nat.reduceMul, Int.reduceLT, Int.reduceLE, Int.reduceAdd, Int.reduceSub, Int.reduceNeg, Int.reduceToNat, Int.reduceBEq, Int.reduceEq, reduceCtorEq, List.take_succ_cons, List.take_zero, List.take_nil, List.drop_succ_cons, List.drop_nil, List.cons_append, List.nil_append, List.set_cons_zero, List.set_cons_succ, ↓reduceIte, *]
      | (with_reducible refine tb_true ?_)
      | (with_reducible refine tb_false ?_)
      | (with_reducible refine tb_split (fun _ => ?_) (fun _ => ?_))
      | (with_reducible refine wg_f (fun _ => ?_) (fun _ => ?_))
      | (with_reducible refine wg_t (fun _ => ?_) (fun _ => ?_))
      | (with_reducible refine wd_f (fun _ => ?_) (fun _ => ?_))
      | (with_reducible refine wd_t (fun _ => ?_) (fun _ => ?_))
    all_goals first | exact ⟨rfl, rfl⟩ | (exfalso; omega) | (exfalso; contradiction)
  · rw [if_neg hne] at hdd
    have hdr : (intR DL).length = DL.length := intR_len _
    have hget : ∀ i (h : i < DL.length), (intR DL)[i]? = some [.i .i64 DL[i]] := fun i h => by simp [intR, h]
    have hgi : ∀ i (h : i < DL.length), F ≤ DL[i] := fun i h => hge _ (List.getElem_mem h)
    generalize intR DL = DR at *
    refine meetsP (E := (EW m)) 105 [.tmp 8] (ew m) Tryz.func4 rfl (by decide) rfl rfl (by simp) ?_
    repeat' first
      | (with_reducible refine t_freezeH (S := ⟨_, _, ⟨(1, _) :: (0, .rows 2 _) :: _, 2⟩⟩) 0 rfl rfl ?_)
      | (with_reducible refine t_freezeH (S := ⟨_, _, ⟨(3, _) :: (2, .rows 2 _) :: _, 4⟩⟩) 2 rfl rfl ?_)
      | ((with_reducible refine wr_isCall ?_); refine wr_P hch rfl ?_)
      | ((with_reducible refine wr_isCall ?_); refine wr_P hct rfl ?_)
      | ((with_reducible refine wr_isCall ?_); refine wr_P hna rfl ?_)
      | ((with_reducible refine wr_isCall ?_); refine wr_P hnb rfl ?_)
      | ((with_reducible refine wr_isCall ?_); refine wr_P hj rfl ?_)
      | ((with_reducible refine wr_isCall ?_); refine wr_P hkm rfl ?_)
      | ((with_reducible refine wr_isCall ?_); refine wr_P hxd rfl ?_)
      | ((with_reducible refine wr_isCall ?_); refine wr_P hdd rfl ?_)
      | (with_reducible refine t_seq ?_)
      | (with_reducible refine t_skip ?_)
      | (with_reducible refine t_ret ?_)
      | (with_reducible refine t_end ?_)
      | (with_reducible refine t_cond ?_)
      | (with_reducible refine t_region ?_)
      | (with_reducible refine wr_done ?_)
      | ((with_reducible refine t_isDraw ?_); refine t_draw rfl (by kernel_rfl) ?_)
      | (with_reducible refine WD.done _ ?_)
      | (with_reducible refine wdp_done ?_)
      | (with_reducible refine tr_some ?_)
      | ((fail_if_success with_reducible refine t_bl ?_); (with_reducible refine t_block ?_))
      | (with_reducible refine t_inBlock ?_)
      | ((with_reducible refine t_isExit ?_); refine t_exit rfl ?_)
      | simp only [decide_eq_true_eq, decide_eq_false_iff_not, Bool.not_eq_true', Bool.not_eq_false'] at *
      | simp (disch := omega) only [go_sem, Nat.reduceLT, Nat.reduceEqDiff, Nat.reduceAdd, Nat.reduceLeDiff, Nat.reduceMul, Int.reduceLT, Int.reduceLE, Int.reduceAdd, Int.reduceSub, Int.reduceNeg, Int.reduceToNat, Int.reduceBEq, Int.reduceEq, reduceCtorEq, List.take_succ_cons, List.take_zero, List.take_nil, List.drop_succ_cons, List.drop_nil, List.cons_append, List.nil_append, List.set_cons_zero, List.set_cons_succ, ↓reduceIte, *]
      | (with_reducible refine tb_true ?_)
      | (with_reducible refine tb_false ?_)
      | (with_reducible refine tb_split (fun _ => ?_) (fun _ => ?_))
      | (with_reducible refine wg_f (fun _ => ?_) (fun _ => ?_))
      | (with_reducible refine wg_t (fun _ => ?_) (fun _ => ?_))
      | (with_reducible refine wd_f (fun _ => ?_) (fun _ => ?_))
      | (with_reducible refine wd_t (fun _ => ?_) (fun _ => ?_))
    all_goals first | exact ⟨rfl, rfl⟩ | (exfalso; omega) | (exfalso; contradiction) | skip
    refine t_while (I := fun (i : Nat) t h => i ≤ DL.length ∧ get t 2 = .i .i64 F ∧ get t 95 = .isl true 1 DR ∧ get t 96 = .i .i64 DL.length ∧ get t 97 = .i .i64 i) (m := fun i => DL.length - i)
      (J := fun t h => True) 0 ⟨by omega, by simp [get], by simp [get], by simp [get, hdr], by simp [get]⟩ ?_ ?_
    · rintro i t h ⟨hi, g2, g95, g96, g97⟩ hrec hex
      obtain ⟨hc, hn⟩ := h
      by_cases hi' : i < DL.length
      · have hg := hget i hi'
        have hgx := hgi i hi'
        generalize DL[i] = x at *
        clear hget hgi
        repeat' first
          | (with_reducible refine t_seq ?_)
          | (with_reducible refine t_skip ?_)
          | (with_reducible refine t_ret ?_)
          | (with_reducible refine t_end ?_)
          | (with_reducible refine t_cond ?_)
          | (with_reducible refine t_region ?_)
          | (with_reducible refine wr_done ?_)
          | ((with_reducible refine t_isDraw ?_); refine t_draw rfl (by kernel_rfl) ?_)
          | (with_reducible refine WD.done _ ?_)
          | (with_reducible refine wdp_done ?_)
          | (with_reducible refine tr_some ?_)
          | ((fail_if_success with_reducible refine t_bl ?_); (with_reducible refine t_block ?_))
          | (with_reducible refine t_inBlock ?_)
          | ((with_reducible refine t_isExit ?_); refine t_exit rfl ?_)
          | simp only [decide_eq_true_eq, decide_eq_false_iff_not, Bool.not_eq_true', Bool.not_eq_false'] at *
          | simp (disch := omega) only [go_sem, Nat.reduceLT, Nat.reduceEqDiff, Nat.reduceAdd, Nat.reduceLeDiff, Nat.reduceMul, Int.reduceLT, Int.reduceLE, Int.reduceAdd, Int.reduceSub, Int.reduceNeg, Int.reduceToNat, Int.reduceBEq, Int.reduceEq, reduceCtorEq, List.take_succ_cons, List.take_zero, List.take_nil, List.drop_succ_cons, List.drop_nil, List.cons_append, List.nil_append, List.set_cons_zero, List.set_cons_succ, ↓reduceIte, *]
          | (with_reducible refine tb_true ?_)
          | (with_reducible refine tb_false ?_)
          | (with_reducible refine tb_split (fun _ => ?_) (fun _ => ?_))
          | (with_reducible refine wg_f (fun _ => ?_) (fun _ => ?_))
          | (with_reducible refine wg_t (fun _ => ?_) (fun _ => ?_))
          | (with_reducible refine wd_f (fun _ => ?_) (fun _ => ?_))
          | (with_reducible refine wd_t (fun _ => ?_) (fun _ => ?_))
        all_goals first | (exfalso; omega) | skip
        all_goals exact hrec (i + 1) _ _ ⟨by omega, by simp [get, g2], by simp [get, g95], by simp [get, g96], by simp [get]⟩ (by omega)
      · clear hget hgi
        repeat' first
          | (with_reducible refine t_seq ?_)
          | (with_reducible refine t_skip ?_)
          | (with_reducible refine t_ret ?_)
          | (with_reducible refine t_end ?_)
          | (with_reducible refine t_cond ?_)
          | (with_reducible refine t_region ?_)
          | (with_reducible refine wr_done ?_)
          | ((with_reducible refine t_isDraw ?_); refine t_draw rfl (by kernel_rfl) ?_)
          | (with_reducible refine WD.done _ ?_)
          | (with_reducible refine wdp_done ?_)
          | (with_reducible refine tr_some ?_)
          | ((fail_if_success with_reducible refine t_bl ?_); (with_reducible refine t_block ?_))
          | (with_reducible refine t_inBlock ?_)
          | ((with_reducible refine t_isExit ?_); refine t_exit rfl ?_)
          | simp only [decide_eq_true_eq, decide_eq_false_iff_not, Bool.not_eq_true', Bool.not_eq_false'] at *
          | simp (disch := omega) only [go_sem, Nat.reduceLT, Nat.reduceEqDiff, Nat.reduceAdd, Nat.reduceLeDiff, Nat.reduceMul, Int.reduceLT, Int.reduceLE, Int.reduceAdd, Int.reduceSub, Int.reduceNeg, Int.reduceToNat, Int.reduceBEq, Int.reduceEq, reduceCtorEq, List.take_succ_cons, List.take_zero, List.take_nil, List.drop_succ_cons, List.drop_nil, List.cons_append, List.nil_append, List.set_cons_zero, List.set_cons_succ, ↓reduceIte, *]
          | (with_reducible refine tb_true ?_)
          | (with_reducible refine tb_false ?_)
          | (with_reducible refine tb_split (fun _ => ?_) (fun _ => ?_))
          | (with_reducible refine wg_f (fun _ => ?_) (fun _ => ?_))
          | (with_reducible refine wg_t (fun _ => ?_) (fun _ => ?_))
          | (with_reducible refine wd_f (fun _ => ?_) (fun _ => ?_))
          | (with_reducible refine wd_t (fun _ => ?_) (fun _ => ?_))
        all_goals first | (exfalso; omega) | exact ⟨rfl, rfl⟩
    · rintro t h -
      obtain ⟨hc, hn⟩ := h
      repeat' first
        | (with_reducible refine t_seq ?_)
        | (with_reducible refine t_skip ?_)
        | (with_reducible refine t_ret ?_)
        | (with_reducible refine t_end ?_)
        | (with_reducible refine t_cond ?_)
        | (with_reducible refine t_region ?_)
        | (with_reducible refine wr_done ?_)
        | ((with_reducible refine t_isDraw ?_); refine t_draw rfl (by kernel_rfl) ?_)
        | (with_reducible refine WD.done _ ?_)
        | (with_reducible refine wdp_done ?_)
        | (with_reducible refine tr_some ?_)
        | ((fail_if_success with_reducible refine t_bl ?_); (with_reducible refine t_block ?_))
        | (with_reducible refine t_inBlock ?_)
        | ((with_reducible refine t_isExit ?_); refine t_exit rfl ?_)
        | simp only [decide_eq_true_eq, decide_eq_false_iff_not, Bool.not_eq_true', Bool.not_eq_false'] at *
        | simp (disch := omega) only [go_sem, Nat.reduceLT, Nat.reduceEqDiff, Nat.reduceAdd, Nat.reduceLeDiff, Nat.reduceMul, Int.reduceLT, Int.reduceLE, Int.reduceAdd, Int.reduceSub, Int.reduceNeg, Int.reduceToNat, Int.reduceBEq, Int.reduceEq, reduceCtorEq, List.take_succ_cons, List.take_zero, List.take_nil, List.drop_succ_cons, List.drop_nil, List.cons_append, List.nil_append, List.set_cons_zero, List.set_cons_succ, ↓reduceIte, *]
        | (with_reducible refine tb_true ?_)
        | (with_reducible refine tb_false ?_)
        | (with_reducible refine tb_split (fun _ => ?_) (fun _ => ?_))
        | (with_reducible refine wg_f (fun _ => ?_) (fun _ => ?_))
        | (with_reducible refine wg_t (fun _ => ?_) (fun _ => ?_))
        | (with_reducible refine wd_f (fun _ => ?_) (fun _ => ?_))
        | (with_reducible refine wd_t (fun _ => ?_) (fun _ => ?_))
      exact ⟨rfl, rfl⟩
end Go.Proofs.YtkokongbnemkhaaGreatDoorA
