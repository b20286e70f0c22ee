/- EraBack as a contract. -/
import Derived.Test.YtkokongbnemkhaaGreatDoorPW37
import Derived.Test.YtkokongbnemkhaaGreatDoorPJG
import Derived.Test.YtkokongbnemkhaaGreatDoorPR5
import Derived.Test.YtkokongbnemkhaaGreatDoorND
set_option linter.unusedVariables false
set_option linter.unusedSimpArgs false
namespace Go.Proofs.YtkokongbnemkhaaGreatDoorA
open Go Go.RowKit Go.Proofs.YtkokongbnemkhaaGreatDoorFx Go.Proofs
variable {m : Int}
def rgOne : Reigns := [([97], 1)]
theorem rgOne_chk : rgChk rgOne = 0 := by
  unfold rgChk
  rw [if_neg (by decide)]
  refine fstE_zero.2 fun j _ hj => ?_
  have : j = 0 := by simp [rgOne] at hj; omega
  subst this
  unfold rgFlt
  rw [if_neg (by rw [show nameB (rgN rgOne 0) = true by kernel_rfl]; simp), if_neg (by rw [show chkDay ((rgR rgOne).f 0) = 0 by kernel_rfl]; simp), if_neg (by omega)]
set_option maxRecDepth 10000000 in
theorem grgAt366 : (calOf 0 grgR).At 366 2 0 := by
  have e1 : (calOf 0 grgR).first 2 = 366 := by kernel_rfl
  have e2 : (calOf 0 grgR).first (2 + 1) = 731 := by kernel_rfl
  have e3 : (calOf 0 grgR).bef 2 0 = 0 := rfl
  have e4 : (calOf 0 grgR).bef 2 (0 + 1) = 31 := by kernel_rfl
  exact ⟨by kernel_rfl, by omega, by omega, by omega, by omega, by decide +kernel, by omega, by omega⟩
set_option maxRecDepth 10000000 in
theorem grgAt1 : (calOf 0 grgR).At 1 1 0 := by
  have e1 : (calOf 0 grgR).first 1 = 1 := by kernel_rfl
  have e2 : (calOf 0 grgR).first (1 + 1) = 366 := by kernel_rfl
  have e3 : (calOf 0 grgR).bef 1 0 = 0 := rfl
  have e4 : (calOf 0 grgR).bef 1 (0 + 1) = 31 := by kernel_rfl
  exact ⟨by kernel_rfl, by omega, by omega, by omega, by omega, by decide +kernel, by omega, by omega⟩
theorem sayOne {mode : Int} (hm : mode = 1 ∨ mode = 2) : MeetsP Tryz.prog (glT m) 18 [.isl true 2 [[.s [97], .i .i64 1]], .s grgS, .i .i64 mode, .i .i64 366] (sayA [97] (1 + xtr mode) 0) := by
  have h := sayIn (m := m) rgOne (by intro p hp; simp [rgOne] at hp; subst hp; decide) rgOne_chk (k := 0) hm (calP grgIn) (day := 366) (by kernel_rfl) ⟨by decide, by show (1 : Int) ≤ 366; omega, fun h => by simp [rgOne, rgR] at h⟩
    (grgAt366.run (calGood grgIn)) (grgAt1.run (calGood grgIn)) (by omega)
  rw [if_neg (by simp), if_neg (by simp)] at h
  exact h.narrow1 (Wk.isl _ _)
set_option maxRecDepth 100000 in
set_option maxHeartbeats 8000000 in
theorem eraBackP (l : Reigns) (hs : ∀ p ∈ l, p.1.length ≤ 140737488351232) (k mode day : Int) : MeetsP Tryz.prog (glT m) 5 [rgA l, .i .i64 k, .i .i64 mode, .i .i64 day] (.b true) := by
  have hone := sayOne (m := m) (mode := 1) (.inl rfl)
  rw [show (1 : Int) + xtr 1 = 2 from rfl] at hone
  have hn := nameP (m := m) k
  have hC := calAtP (m := m) k
  have hg := calAt_good (m := m) k
  have hct := kcutP (m := m) (a := mode) (lo := 1) (n := 2) (by omega) (by omega) (by omega) (by omega)
  have hct2 := kcutP (m := m) (a := day) (lo := -1000000) (n := 2000000) (by omega) (by omega) (by omega) (by omega)
  have hm1 := Int.emod_nonneg mode (show (2 : Int) ≠ 0 by omega)
  have hm2 := Int.emod_lt_of_pos mode (show (0 : Int) < 2 by omega)
  have hm3 := Int.emod_nonneg day (show (2000000 : Int) ≠ 0 by omega)
  have hm4 := Int.emod_lt_of_pos day (show (0 : Int) < 2000000 by omega)
  generalize hY : 1 + mode % 2 = MD at hct
  have hMD : MD = 1 ∨ MD = 2 := by omega
  generalize hZ : -1000000 + day % 2000000 = D at hct2
  have hD : chkDay D = 0 := chkDay_ok (by omega) (by omega)
  clear hY hZ hm1 hm2 hm3 hm4
  have hbad : ∀ e, e ≠ 0 → MeetsP Tryz.prog (glT m) 18 [rgA l, .s (rowAt k).name, .i .i64 MD, .i .i64 D] (sayA [] 0 e) → MeetsP Tryz.prog (glT m) 5 [rgA l, .i .i64 k, .i .i64 mode, .i .i64 day] (.b true) := fun e he hS => by
    unfold sayA grgS at *
    unfold rgA at *
    generalize rgRows l = R at *
    refine meetsP (E := (EW m)) 97 [.tmp 8] (ew m) Tryz.func5 rfl (by decide) rfl rfl (by simp) ?_
    repeat' first
      | ((with_reducible refine wr_isCall ?_); refine wr_lent hone rfl rfl rfl ?_)
      | ((with_reducible refine wr_isCall ?_); refine wr_P hct rfl ?_)
      | ((with_reducible refine wr_isCall ?_); refine wr_P hct2 rfl ?_)
      | ((with_reducible refine wr_isCall ?_); refine wr_P hn rfl ?_)
      | ((with_reducible refine wr_isCall ?_); refine wr_P hS rfl ?_)
      | (with_reducible refine t_seq ?_)
      | (with_reducible refine t_skip ?_)
      | (with_reducible refine t_ret ?_)
      | (with_reducible refine t_end ?_)
      | (with_reducible refine t_cond ?_)
      | (with_reducible refine t_region ?_)
      | (with_reducible refine wr_done ?_)
      | ((with_reducible refine t_isDraw ?_); refine t_draw rfl (by kernel_rfl) ?_)
      | (with_reducible refine WD.done _ ?_)
      | (with_reducible refine wdp_done ?_)
      | (with_reducible refine tr_some ?_)
      | ((fail_if_success with_reducible refine t_bl ?_); (with_reducible refine t_block ?_))
      | (with_reducible refine t_inBlock ?_)
      | ((with_reducible refine t_isExit ?_); refine t_exit rfl ?_)
      | simp only [decide_eq_true_eq, decide_eq_false_iff_not, Bool.not_eq_true', Bool.not_eq_false'] at *
      | simp (disch := omega) only [go_sem, Nat.reduceLT, Nat.reduceEqDiff, Nat.reduceAdd, Nat.reduceLeDiff, Nat.reduceMul, Int.reduceLT, Int.reduceLE, Int.reduceAdd, Int.reduceSub, Int.reduceNeg, Int.reduceToNat, Int.reduceBEq, Int.reduceEq, reduceCtorEq, List.take_succ_cons, List.take_zero, List.take_nil, List.drop_succ_cons, List.drop_nil, List.cons_append, List.nil_append, List.set_cons_zero, List.set_cons_succ, ↓reduceIte, *]
      | (with_reducible refine tb_true ?_)
      | (with_reducible refine tb_false ?_)
      | (with_reducible refine tb_split (fun _ => ?_) (fun _ => ?_))
      | (with_reducible refine wg_f (fun _ => ?_) (fun _ => ?_))
      | (with_reducible refine wg_t (fun _ => ?_) (fun _ => ?_))
      | (with_reducible refine wd_f (fun _ => ?_) (fun _ => ?_))
      | (with_reducible refine wd_t (fun _ => ?_) (fun _ => ?_))
    all_goals first | (exfalso; omega) | exact ⟨rfl, rfl⟩
  by_cases hk : rgChk l = 0
  case neg => exact hbad _ hk (sayBad l hs hk _ _ _)
  have hok := rgChk_ok hk
  by_cases h0 : D < (rgR l).f 0
  · obtain ⟨e, he, hS⟩ := sayEarly (m := m) l hs hk hMD hC (.inr ⟨hD, h0⟩)
    exact hbad e he hS
  obtain ⟨j, hin⟩ := Ref.part0 (r := rgR l) (day := D) (by rw [rgR_len]; exact hok.l1) (by omega)
  have hjl := hin.lt
  rw [rgR_len] at hjl
  rcases fromDay_all hg ((rgR l).f j) with hF | ⟨fy, fk, hfat⟩
  · rcases fromDay_all hg D with hf | ⟨y, mo, hat⟩
    · have hS := sayIn (m := m) l hs hk hMD hC hD hin hf hF (by omega)
      rw [if_pos (by simp)] at hS
      exact hbad 3 (by simp) hS
    · have hS := sayIn (m := m) l hs hk hMD hC hD hin (hat.run hg) hF (by have := hat.y1; have := hat.y2; omega)
      rw [if_neg (by simp), if_pos (by simp)] at hS
      exact hbad 3 (by simp) hS
  rcases fromDay_all hg D with hf | ⟨y, mo, hat⟩
  · have hS := sayIn (m := m) l hs hk hMD hC hD hin hf (hfat.run hg) (by have := hfat.y1; have := hfat.y2; omega)
    rw [if_pos (by simp)] at hS
    exact hbad 3 (by simp) hS
  clear hbad
  have hS := sayIn (m := m) l hs hk hMD hC hD hin (hat.run hg) (hfat.run hg) (by have := hat.y1; have := hat.y2; have := hfat.y1; have := hfat.y2; omega)
  rw [if_neg (by simp), if_neg (by simp)] at hS
  have hdt := dateP (pick_mem k) (hat.run hg)
  have q1 := hat.y1
  have q2 := hat.y2
  have q3 := hfat.y1
  have q4 := hfat.y2
  have hxb : 0 ≤ xtr MD ∧ xtr MD ≤ 1 := by unfold xtr; split <;> omega
  obtain ⟨N, E, ha1, ha2⟩ := rg_ask2 (m := m) hg l (rgN l j) MD (y - fy + xtr MD) ((mo : Int) + 1) (D - (calAt k).first y + 1 - (calAt k).bef y mo)
  have hcal : calOf (pick k) (rowAt k) = calAt k := rfl
  by_cases hrg : y - fy + xtr MD < -10000 ∨ 10000 < y - fy + xtr MD
  · have hFi := findRange (m := m) l hs hk (nm := rgN l j) (mo := (mo : Int) + 1) (d := D - (calAt k).first y + 1 - (calAt k).bef y mo) hMD hC hrg
    generalize D - (calAt k).first y + 1 - (calAt k).bef y mo = dd at *
    generalize hM : ((mo : Int) + 1) = M at *
    generalize hNN : y - fy + xtr MD = NN at *
    clear ha1 ha2 hin hat hfat hM hNN
    unfold sayA grgS resD dateA at *
    unfold rgA at *
    generalize rgRows l = R at *
    refine meetsP (E := (EW m)) 97 [.tmp 8] (ew m) Tryz.func5 rfl (by decide) rfl rfl (by simp) ?_
    repeat' first
      | ((with_reducible refine wr_isCall ?_); refine wr_lent hone rfl rfl rfl ?_)
      | ((with_reducible refine wr_isCall ?_); refine wr_P hct rfl ?_)
      | ((with_reducible refine wr_isCall ?_); refine wr_P hct2 rfl ?_)
      | ((with_reducible refine wr_isCall ?_); refine wr_P hn rfl ?_)
      | ((with_reducible refine wr_isCall ?_); refine wr_P hS rfl ?_)
      | ((with_reducible refine wr_isCall ?_); refine wr_P hdt rfl ?_)
      | ((with_reducible refine t_isDraw ?_); refine t_draw2 hn hFi (by kernel_rfl) ?_)
      | (with_reducible refine t_seq ?_)
      | (with_reducible refine t_skip ?_)
      | (with_reducible refine t_ret ?_)
      | (with_reducible refine t_end ?_)
      | (with_reducible refine t_cond ?_)
      | (with_reducible refine t_region ?_)
      | (with_reducible refine wr_done ?_)
      | ((with_reducible refine t_isDraw ?_); refine t_draw rfl (by kernel_rfl) ?_)
      | (with_reducible refine WD.done _ ?_)
      | (with_reducible refine wdp_done ?_)
      | (with_reducible refine tr_some ?_)
      | ((fail_if_success with_reducible refine t_bl ?_); (with_reducible refine t_block ?_))
      | (with_reducible refine t_inBlock ?_)
      | ((with_reducible refine t_isExit ?_); refine t_exit rfl ?_)
      | simp only [decide_eq_true_eq, decide_eq_false_iff_not, Bool.not_eq_true', Bool.not_eq_false'] at *
      | simp (disch := omega) only [go_sem, Nat.reduceLT, Nat.reduceEqDiff, Nat.reduceAdd, Nat.reduceLeDiff, Nat.reduceMul, Int.reduceLT, Int.reduceLE, Int.reduceAdd, Int.reduceSub, Int.reduceNeg, Int.reduceToNat, Int.reduceBEq, Int.reduceEq, reduceCtorEq, List.take_succ_cons, List.take_zero, List.take_nil, List.drop_succ_cons, List.drop_nil, List.cons_append, List.nil_append, List.set_cons_zero, List.set_cons_succ, ↓reduceIte, *]
      | (with_reducible refine tb_true ?_)
      | (with_reducible refine tb_false ?_)
      | (with_reducible refine tb_split (fun _ => ?_) (fun _ => ?_))
      | (with_reducible refine wg_f (fun _ => ?_) (fun _ => ?_))
      | (with_reducible refine wg_t (fun _ => ?_) (fun _ => ?_))
      | (with_reducible refine wd_f (fun _ => ?_) (fun _ => ?_))
      | (with_reducible refine wd_t (fun _ => ?_) (fun _ => ?_))
    all_goals first | (exfalso; omega) | exact ⟨rfl, rfl⟩ | skip
    rw [show decide (NN < -10000) = true from decide_eq_true (by omega)]
    exact ⟨rfl, rfl⟩
  have hFi := findIn (m := m) l hs hk (s := rgN l j) (mo := (mo : Int) + 1) (d := D - (calAt k).first y + 1 - (calAt k).bef y mo) hMD hC (by omega) ha1
  have hyy : fy + (y - fy + xtr MD) - xtr MD = y := by omega
  obtain ⟨hE0, hN0⟩ := ha2 j hjl rfl fy fk hfat D mo rfl (by rw [hyy]; exact hat) (by rw [hyy])
  have hmem : D ∈ (rgR l).days N E l.length := Ref.mem_days.2 ⟨j, hjl, hE0, by rw [hN0]; exact hin.le, by
    rw [hN0, rgR_len]
    rcases Nat.lt_or_ge (j + 1) l.length with q | q
    · exact .inr (hin.nx (by rw [rgR_len]; exact q))
    · exact .inl (by omega), hN0.symm⟩
  have hlen := (rgR l).days_len N E l.length
  have hl2 := hok.l2
  generalize (rgR l).days N E l.length = DL at *
  generalize D - (calAt k).first y + 1 - (calAt k).bef y mo = dd at *
  generalize hM : ((mo : Int) + 1) = M at *
  generalize hNN : y - fy + xtr MD = NN at *
  clear ha1 ha2 hin hat hfat hM hE0 hN0 hyy
  have hne : DL ≠ [] := fun q => by rw [q] at hmem; simp at hmem
  unfold lstA at hFi
  rw [if_neg hne] at hFi
  obtain ⟨z, hz, hzD⟩ := List.mem_iff_getElem.1 hmem
  have hdr : (intR DL).length = DL.length := intR_len _
  have hget : ∀ i (h : i < DL.length), (intR DL)[i]? = some [.i .i64 DL[i]] := fun i h => by simp [intR, h]
  generalize intR DL = DR at *
  unfold sayA grgS resD dateA at *
  unfold rgA at *
  generalize rgRows l = R at *
  refine meetsP (E := (EW m)) 97 [.tmp 8] (ew m) Tryz.func5 rfl (by decide) rfl rfl (by simp) ?_
  repeat' first
    | ((with_reducible refine wr_isCall ?_); refine wr_lent hone rfl rfl rfl ?_)
    | ((with_reducible refine wr_isCall ?_); refine wr_P hct rfl ?_)
    | ((with_reducible refine wr_isCall ?_); refine wr_P hct2 rfl ?_)
    | ((with_reducible refine wr_isCall ?_); refine wr_P hn rfl ?_)
    | ((with_reducible refine wr_isCall ?_); refine wr_P hS rfl ?_)
    | ((with_reducible refine wr_isCall ?_); refine wr_P hdt rfl ?_)
    | ((with_reducible refine t_isDraw ?_); refine t_draw2 hn hFi (by kernel_rfl) ?_)
    | (with_reducible refine t_seq ?_)
    | (with_reducible refine t_skip ?_)
    | (with_reducible refine t_ret ?_)
    | (with_reducible refine t_end ?_)
    | (with_reducible refine t_cond ?_)
    | (with_reducible refine t_region ?_)
    | (with_reducible refine wr_done ?_)
    | ((with_reducible refine t_isDraw ?_); refine t_draw rfl (by kernel_rfl) ?_)
    | (with_reducible refine WD.done _ ?_)
    | (with_reducible refine wdp_done ?_)
    | (with_reducible refine tr_some ?_)
    | ((fail_if_success with_reducible refine t_bl ?_); (with_reducible refine t_block ?_))
    | (with_reducible refine t_inBlock ?_)
    | ((with_reducible refine t_isExit ?_); refine t_exit rfl ?_)
    | simp only [decide_eq_true_eq, decide_eq_false_iff_not, Bool.not_eq_true', Bool.not_eq_false'] at *
    | simp (disch := omega) only [go_sem, Nat.reduceLT, Nat.reduceEqDiff, Nat.reduceAdd, Nat.reduceLeDiff, Nat.reduceMul, Int.reduceLT, Int.reduceLE, Int.reduceAdd, Int.reduceSub, Int.reduceNeg, Int.reduceToNat, Int.reduceBEq, Int.reduceEq, reduceCtorEq, List.take_succ_cons, List.take_zero, List.take_nil, List.drop_succ_cons, List.drop_nil, List.cons_append, List.nil_append, List.set_cons_zero, List.set_cons_succ, ↓reduceIte, *]
    | (with_reducible refine tb_true ?_)
    | (with_reducible refine tb_false ?_)
    | (with_reducible refine tb_split (fun _ => ?_) (fun _ => ?_))
    | (with_reducible refine wg_f (fun _ => ?_) (fun _ => ?_))
    | (with_reducible refine wg_t (fun _ => ?_) (fun _ => ?_))
    | (with_reducible refine wd_f (fun _ => ?_) (fun _ => ?_))
    | (with_reducible refine wd_t (fun _ => ?_) (fun _ => ?_))
  all_goals first | (exfalso; omega) | skip
  refine t_while (I := fun (i : Nat) t h => i ≤ z ∧ get t 3 = .i .i64 D ∧ get t 15 = .i .i64 0 ∧ get t 85 = .isl true 1 DR ∧ get t 86 = .i .i64 DL.length ∧ get t 87 = .i .i64 i) (m := fun i => z - i)
    (J := fun t h => False) 0 ⟨by omega, by simp [get], by simp [get], by simp [get], by simp [get, hdr], by simp [get]⟩ ?_ ?_
  · rintro i t h ⟨hi, g3, g15, g85, g86, g87⟩ hrec hex
    obtain ⟨hc, n⟩ := h
    have hg' := hget i (by omega)
    have hi' : i < DL.length := by omega
    by_cases he : DL[i] = D
    · rw [he] at hg'
      clear hget
      repeat' first
        | (with_reducible refine t_seq ?_)
        | (with_reducible refine t_skip ?_)
        | (with_reducible refine t_ret ?_)
        | (with_reducible refine t_end ?_)
        | (with_reducible refine t_cond ?_)
        | (with_reducible refine t_region ?_)
        | (with_reducible refine wr_done ?_)
        | ((with_reducible refine t_isDraw ?_); refine t_draw rfl (by kernel_rfl) ?_)
        | (with_reducible refine WD.done _ ?_)
        | (with_reducible refine wdp_done ?_)
        | (with_reducible refine tr_some ?_)
        | ((fail_if_success with_reducible refine t_bl ?_); (with_reducible refine t_block ?_))
        | (with_reducible refine t_inBlock ?_)
        | ((with_reducible refine t_isExit ?_); refine t_exit rfl ?_)
        | simp only [decide_eq_true_eq, decide_eq_false_iff_not, Bool.not_eq_true', Bool.not_eq_false'] at *
        | simp (disch := omega) only [go_sem, Nat.reduceLT, Nat.reduceEqDiff, Nat.reduceAdd, Nat.reduceLeDiff, Nat.reduceMul, Int.reduceLT, Int.reduceLE, Int.reduceAdd, Int.reduceSub, Int.reduceNeg, Int.reduceToNat, Int.reduceBEq, Int.reduceEq, reduceCtorEq, List.take_succ_cons, List.take_zero, List.take_nil, List.drop_succ_cons, List.drop_nil, List.cons_append, List.nil_append, List.set_cons_zero, List.set_cons_succ, ↓reduceIte, *]
        | (with_reducible refine tb_true ?_)
        | (with_reducible refine tb_false ?_)
        | (with_reducible refine tb_split (fun _ => ?_) (fun _ => ?_))
        | (with_reducible refine wg_f (fun _ => ?_) (fun _ => ?_))
        | (with_reducible refine wg_t (fun _ => ?_) (fun _ => ?_))
        | (with_reducible refine wd_f (fun _ => ?_) (fun _ => ?_))
        | (with_reducible refine wd_t (fun _ => ?_) (fun _ => ?_))
      all_goals first | (exfalso; omega) | exact ⟨rfl, rfl⟩
    · have hne' : i ≠ z := fun q => he (by subst q; exact hzD)
      generalize DL[i] = x at *
      clear hget
      repeat' first
        | (with_reducible refine t_seq ?_)
        | (with_reducible refine t_skip ?_)
        | (with_reducible refine t_ret ?_)
        | (with_reducible refine t_end ?_)
        | (with_reducible refine t_cond ?_)
        | (with_reducible refine t_region ?_)
        | (with_reducible refine wr_done ?_)
        | ((with_reducible refine t_isDraw ?_); refine t_draw rfl (by kernel_rfl) ?_)
        | (with_reducible refine WD.done _ ?_)
        | (with_reducible refine wdp_done ?_)
        | (with_reducible refine tr_some ?_)
        | ((fail_if_success with_reducible refine t_bl ?_); (with_reducible refine t_block ?_))
        | (with_reducible refine t_inBlock ?_)
        | ((with_reducible refine t_isExit ?_); refine t_exit rfl ?_)
        | simp only [decide_eq_true_eq, decide_eq_false_iff_not, Bool.not_eq_true', Bool.not_eq_false'] at *
        | simp (disch := omega) only [go_sem, Nat.reduceLT, Nat.reduceEqDiff, Nat.reduceAdd, Nat.reduceLeDiff, Nat.reduceMul, Int.reduceLT, Int.reduceLE, Int.reduceAdd, Int.reduceSub, Int.reduceNeg, Int.reduceToNat, Int.reduceBEq, Int.reduceEq, reduceCtorEq, List.take_succ_cons, List.take_zero, List.take_nil, List.drop_succ_cons, List.drop_nil, List.cons_append, List.nil_append, List.set_cons_zero, List.set_cons_succ, ↓reduceIte, *]
        | (with_reducible refine tb_true ?_)
        | (with_reducible refine tb_false ?_)
        | (with_reducible refine tb_split (fun _ => ?_) (fun _ => ?_))
        | (with_reducible refine wg_f (fun _ => ?_) (fun _ => ?_))
        | (with_reducible refine wg_t (fun _ => ?_) (fun _ => ?_))
        | (with_reducible refine wd_f (fun _ => ?_) (fun _ => ?_))
        | (with_reducible refine wd_t (fun _ => ?_) (fun _ => ?_))
      all_goals first | (exfalso; omega) | skip
      all_goals exact hrec (i + 1) _ _ ⟨by omega, by simp [get, g3], by simp [get, g15], by simp [get, g85], by simp [get, g86], by simp [get]⟩ (by omega)
  · rintro t h hF
    exact hF.elim
end Go.Proofs.YtkokongbnemkhaaGreatDoorA
