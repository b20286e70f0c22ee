/- ArithSteps as a contract. -/
import Derived.Test.YtdkifonomakcbaaGreatDoorPL5
set_option linter.unusedVariables false
set_option linter.unusedSimpArgs false
namespace Go.Proofs.YtdkifonomakcbaaGreatDoorA
open Go Go.RowKit Go.Proofs.YtdkifonomakcbaaGreatDoorFx Go.Proofs
variable {m : Int}
set_option maxRecDepth 100000 in
/-- A day that the month does not have. -/
theorem toDay_arg {c : Cal} (hc : c.Good m) {y d : Int} {mo : Nat} (hy1 : -10000 ≤ y) (hy2 : y ≤ 10000) (hmo : mo < c.ms.length) (hd : c.mlen y (mo + 1) < d) :
    MeetsP Tryz.prog (glT m) 15 [c.A, dateA y (mo + 1) d] (resD (.i .i64 0) 1) := by
  have hb := beginP hc y
  rw [show chkYear y = 0 from if_neg (by omega)] at hb
  have mp := monthP (m := m) c hc.toOk y (mo + 1) (by omega) (by omega) (by omega) (by omega)
  have mb1 := hc.toOk.mlen_bounds y (mo + 1)
  have hl20 := hc.len2
  generalize c.mlen y (mo + 1) = M at *
  obtain ⟨nm, ep, cy, ms, ls⟩ := c
  simp only [Cal.A, resD, dateA] at *
  have k1 : ¬ (mo : Int) + 1 < 1 := by omega
  have k2 : ¬ (ms.length : Int) < mo + 1 := by omega
  have k3 : ¬ d < 1 := by omega
  refine meetsP (E := (EW m)) 68 [.tmp 4, .tmp 5] (ew m) Tryz.func15 rfl (by decide) rfl rfl (by simp) ?_
  repeat' first
    | ((with_reducible refine wr_isCall ?_); refine wr_P hb rfl ?_)
    | ((with_reducible refine t_isDraw ?_); refine t_draw1 mp (by kernel_rfl) ?_)
    | (with_reducible refine t_seq ?_)
    | (with_reducible refine t_skip ?_)
    | (with_reducible refine t_ret ?_)
    | (with_reducible refine t_end ?_)
    | (with_reducible refine t_cond ?_)
    | (with_reducible refine t_region ?_)
    | (with_reducible refine wr_done ?_)
    | ((with_reducible refine t_isDraw ?_); refine t_draw rfl (by kernel_rfl) ?_)
    | (with_reducible refine WD.done _ ?_)
    | (with_reducible refine wdp_done ?_)
    | (with_reducible refine tr_some ?_)
    | ((fail_if_success with_reducible refine t_bl ?_); (with_reducible refine t_block ?_))
    | (with_reducible refine t_inBlock ?_)
    | ((with_reducible refine t_isExit ?_); refine t_exit rfl ?_)
    | simp only [decide_eq_true_eq, decide_eq_false_iff_not, Bool.not_eq_true', Bool.not_eq_false'] at *
    | simp (disch := omega) only [go_sem, Nat.reduceLT, Nat.reduceEqDiff, Nat.reduceAdd, Nat.reduceLeDiff, Nat.reduceMul, Int.reduceLT, Int.reduceLE, Int.reduceAdd, Int.reduceSub, Int.reduceNeg, Int.reduceToNat, Int.reduceBEq, Int.reduceEq, reduceCtorEq, List.take_succ_cons, List.take_zero, List.take_nil, List.drop_succ_cons, List.drop_nil, List.cons_append, List.nil_append, List.set_cons_zero, List.set_cons_succ, ↓reduceIte, *]
    | (with_reducible refine tb_true ?_)
    | (with_reducible refine tb_false ?_)
    | (with_reducible refine tb_split (fun _ => ?_) (fun _ => ?_))
    | (with_reducible refine wg_f (fun _ => ?_) (fun _ => ?_))
    | (with_reducible refine wg_t (fun _ => ?_) (fun _ => ?_))
    | (with_reducible refine wd_f (fun _ => ?_) (fun _ => ?_))
    | (with_reducible refine wd_t (fun _ => ?_) (fun _ => ?_))
  exact ⟨rfl, rfl⟩
set_option maxRecDepth 100000 in
set_option maxHeartbeats 4000000 in
theorem arithStepsP (k day years months : Int) : MeetsP Tryz.prog (glT m) 7 [.i .i64 k, .i .i64 day, .i .i64 years, .i .i64 months] (.b true) := by
  have hk := knownP (m := m)
  have hn := nameP (m := m) k
  have hc := calAtP (m := m) k
  have hct := kcutP (m := m) (a := day) (lo := 1) (n := 700000) (by omega) (by omega) (by omega) (by omega)
  have hct2 := kcutP (m := m) (a := years) (lo := 0) (n := 50) (by omega) (by omega) (by omega) (by omega)
  have hct3 := kcutP (m := m) (a := months) (lo := 0) (n := 20) (by omega) (by omega) (by omega) (by omega)
  have hg := calAt_good (m := m) k
  have hm1 := Int.emod_nonneg day (show (700000 : Int) ≠ 0 by omega)
  have hm2 := Int.emod_lt_of_pos day (show (0 : Int) < 700000 by omega)
  have hm3 := Int.emod_nonneg years (show (50 : Int) ≠ 0 by omega)
  have hm4 := Int.emod_lt_of_pos years (show (0 : Int) < 50 by omega)
  have hm5 := Int.emod_nonneg months (show (20 : Int) ≠ 0 by omega)
  have hm6 := Int.emod_lt_of_pos months (show (0 : Int) < 20 by omega)
  generalize hY : 1 + day % 700000 = D at hct
  have hD1 : 1 ≤ D := by omega
  have hD2 : D ≤ 700000 := by omega
  clear hY hm1 hm2
  rw [Int.zero_add] at hct2 hct3
  generalize years % 50 = Y at *
  generalize months % 20 = N at *
  have hfar := first_far (pick_mem k)
  have hpos := ylen_pos (pick_mem k)
  rw [show calOf (pick k) (rowAt k) = calAt k from rfl] at hfar
  simp only [show calOf (pick k) (rowAt k) = calAt k from rfl] at hpos
  rcases fromDay_all hg D with hf | ⟨y, mo, hat⟩
  · obtain ⟨y1, y2, y3, y4, y5, hy, ⟨o1, o2, o3, o4, o5⟩, n1, n2⟩ := (calAt k).A_parts
    rw [hy] at hc hf
    unfold resD dateA at *
    refine meetsP (E := (EW m)) 123 [.tmp 8] (ew m) Tryz.func7 rfl (by decide) rfl rfl (by simp) ?_
    repeat' first
      | ((with_reducible refine wr_isCall ?_); refine wr_P hk rfl ?_)
      | ((with_reducible refine wr_isCall ?_); refine wr_P hn rfl ?_)
      | ((with_reducible refine wr_isCall ?_); refine wr_P hc rfl ?_)
      | ((with_reducible refine wr_isCall ?_); refine wr_P hct rfl ?_)
      | ((with_reducible refine wr_isCall ?_); refine wr_P hct2 rfl ?_)
      | ((with_reducible refine wr_isCall ?_); refine wr_P hct3 rfl ?_)
      | ((with_reducible refine wr_isCall ?_); refine wr_P hf (n2 _) ?_)
      | (with_reducible refine t_seq ?_)
      | (with_reducible refine t_skip ?_)
      | (with_reducible refine t_ret ?_)
      | (with_reducible refine t_end ?_)
      | (with_reducible refine t_cond ?_)
      | (with_reducible refine t_region ?_)
      | (with_reducible refine wr_done ?_)
      | ((with_reducible refine t_isDraw ?_); refine t_draw rfl (by kernel_rfl) ?_)
      | (with_reducible refine WD.done _ ?_)
      | (with_reducible refine wdp_done ?_)
      | (with_reducible refine tr_some ?_)
      | ((fail_if_success with_reducible refine t_bl ?_); (with_reducible refine t_block ?_))
      | (with_reducible refine t_inBlock ?_)
      | ((with_reducible refine t_isExit ?_); refine t_exit rfl ?_)
      | simp only [decide_eq_true_eq, decide_eq_false_iff_not, Bool.not_eq_true', Bool.not_eq_false'] at *
      | simp (disch := omega) only [go_sem, Nat.reduceLT, Nat.reduceEqDiff, Nat.reduceAdd, Nat.reduceLeDiff, Nat.reduceMul, Int.reduceLT, Int.reduceLE, Int.reduceAdd, Int.reduceSub, Int.reduceNeg, Int.reduceToNat, Int.reduceBEq, Int.reduceEq, reduceCtorEq, List.take_succ_cons, List.take_zero, List.take_nil, List.drop_succ_cons, List.drop_nil, List.cons_append, List.nil_append, List.set_cons_zero, List.set_cons_succ, ↓reduceIte, *]
      | (with_reducible refine tb_true ?_)
      | (with_reducible refine tb_false ?_)
      | (with_reducible refine tb_split (fun _ => ?_) (fun _ => ?_))
      | (with_reducible refine wg_f (fun _ => ?_) (fun _ => ?_))
      | (with_reducible refine wg_t (fun _ => ?_) (fun _ => ?_))
      | (with_reducible refine wd_f (fun _ => ?_) (fun _ => ?_))
      | (with_reducible refine wd_t (fun _ => ?_) (fun _ => ?_))
    exact ⟨rfl, rfl⟩
  have hf := hat.run hg
  have hl := laterP hg hat (Y := Y) (Mo := 0) (by omega) (by omega)
  rw [show (calAt k).walkM ((calAt k).skip (y + Y, mo + 1)) (0 : Int).toNat = (calAt k).skip (y + Y, mo + 1) from rfl] at hl
  have hmo := hat.hmo
  have q1 := hat.y1
  have q2 := hat.y2
  -- a year later: out of range, or a day
  have hcase : (calAt k).laterR (D - (calAt k).first y + 1 - (calAt k).bef y mo) ((calAt k).skip (y + Y, mo + 1)) = resD (.i .i64 0) 3 ∨
      ∃ x w e, (calAt k).laterR (D - (calAt k).first y + 1 - (calAt k).bef y mo) ((calAt k).skip (y + Y, mo + 1)) = resD (.i .i64 x) 0 ∧
        MeetsP Tryz.prog (glT m) 15 [(calAt k).A, dateA (y + Y) (mo + 1) (D - (calAt k).first y + 1 - (calAt k).bef y mo)] (resD (.i .i64 w) e) ∧ (e = 0 → x = w) := by
    have hd1 : 1 ≤ D - (calAt k).first y + 1 - (calAt k).bef y mo := by have := hat.r1; omega
    generalize D - (calAt k).first y + 1 - (calAt k).bef y mo = d at *
    by_cases hb : badY ((calAt k).skip (y + Y, mo + 1)).1 = true
    · left; unfold Cal.laterR; rw [if_pos hb]
    by_cases hb1 : badY (y + Y) = true
    · exact absurd (by rw [Cal.skip_stop (.inl hb1)]; exact hb1) hb
    have hbb := badY_f.1 (Bool.not_eq_true _ ▸ hb1 : badY (y + Y) = false)
    by_cases hfit : d ≤ (calAt k).mlen (y + Y) (mo + 1)
    · have hz : (calAt k).mlen (y + Y) ((mo + 1 : Nat) : Int) ≠ 0 := by rw [show ((mo + 1 : Nat) : Int) = (mo : Int) + 1 by omega]; omega
      rw [Cal.skip_stop (p := (y + Y, mo + 1)) (.inr hz)]
      have ht := toDayP (m := m) hg (y := y + Y) (d := d) (mo := mo) hbb.1 hbb.2 hmo hd1 hfit
      unfold Cal.laterR
      simp only [Nat.add_sub_cancel]
      rw [if_neg hb1, show min d ((calAt k).mlen (y + Y) ((mo + 1 : Nat) : Int)) = d by rw [show ((mo + 1 : Nat) : Int) = (mo : Int) + 1 by omega]; omega]
      by_cases hch : chkDay ((calAt k).first (y + Y) + d - 1 + (calAt k).bef (y + Y) mo) = 0
      · rw [if_pos hch] at ht ⊢
        exact .inr ⟨_, _, _, rfl, ht, fun _ => rfl⟩
      · rw [if_neg hch] at ht ⊢
        exact .inl rfl
    · have ht := toDay_arg (m := m) hg (y := y + Y) (d := d) (mo := mo) hbb.1 hbb.2 hmo (by omega)
      unfold Cal.laterR
      rw [if_neg hb]
      split
      · exact .inr ⟨_, _, _, rfl, ht, fun e => by cases e⟩
      · exact .inl rfl
  rcases hcase with hR | ⟨x, w, e, hR, ht, hxw⟩
  · rw [hR] at hl
    obtain ⟨y1, y2, y3, y4, y5, hy, ⟨o1, o2, o3, o4, o5⟩, n1, n2⟩ := (calAt k).A_parts
    have n4 : ∀ a b c, [AV.agg [y1, y2, y3, y4, y5], .i .i64 a, .i .i64 b, .i .i64 c].all (noid 12) = true := fun a b c => by
      simp only [List.all_cons, List.all_nil, Bool.and_true] at n1 ⊢
      rw [n1]; rfl
    rw [hy] at hc hf hl
    generalize D - (calAt k).first y + 1 - (calAt k).bef y mo = d at *
    unfold resD dateA at *
    refine meetsP (E := (EW m)) 123 [.tmp 8] (ew m) Tryz.func7 rfl (by decide) rfl rfl (by simp) ?_
    repeat' first
      | ((with_reducible refine wr_isCall ?_); refine wr_P hk rfl ?_)
      | ((with_reducible refine wr_isCall ?_); refine wr_P hn rfl ?_)
      | ((with_reducible refine wr_isCall ?_); refine wr_P hc rfl ?_)
      | ((with_reducible refine wr_isCall ?_); refine wr_P hct rfl ?_)
      | ((with_reducible refine wr_isCall ?_); refine wr_P hct2 rfl ?_)
      | ((with_reducible refine wr_isCall ?_); refine wr_P hct3 rfl ?_)
      | ((with_reducible refine wr_isCall ?_); refine wr_P hf (n2 _) ?_)
      | ((with_reducible refine wr_isCall ?_); refine wr_P hl (n4 _ _ _) ?_)
      | (with_reducible refine t_seq ?_)
      | (with_reducible refine t_skip ?_)
      | (with_reducible refine t_ret ?_)
      | (with_reducible refine t_end ?_)
      | (with_reducible refine t_cond ?_)
      | (with_reducible refine t_region ?_)
      | (with_reducible refine wr_done ?_)
      | ((with_reducible refine t_isDraw ?_); refine t_draw rfl (by kernel_rfl) ?_)
      | (with_reducible refine WD.done _ ?_)
      | (with_reducible refine wdp_done ?_)
      | (with_reducible refine tr_some ?_)
      | ((fail_if_success with_reducible refine t_bl ?_); (with_reducible refine t_block ?_))
      | (with_reducible refine t_inBlock ?_)
      | ((with_reducible refine t_isExit ?_); refine t_exit rfl ?_)
      | simp only [decide_eq_true_eq, decide_eq_false_iff_not, Bool.not_eq_true', Bool.not_eq_false'] at *
      | simp (disch := omega) only [go_sem, Nat.reduceLT, Nat.reduceEqDiff, Nat.reduceAdd, Nat.reduceLeDiff, Nat.reduceMul, Int.reduceLT, Int.reduceLE, Int.reduceAdd, Int.reduceSub, Int.reduceNeg, Int.reduceToNat, Int.reduceBEq, Int.reduceEq, reduceCtorEq, List.take_succ_cons, List.take_zero, List.take_nil, List.drop_succ_cons, List.drop_nil, List.cons_append, List.nil_append, List.set_cons_zero, List.set_cons_succ, ↓reduceIte, *]
      | (with_reducible refine tb_true ?_)
      | (with_reducible refine tb_false ?_)
      | (with_reducible refine tb_split (fun _ => ?_) (fun _ => ?_))
      | (with_reducible refine wg_f (fun _ => ?_) (fun _ => ?_))
      | (with_reducible refine wg_t (fun _ => ?_) (fun _ => ?_))
      | (with_reducible refine wd_f (fun _ => ?_) (fun _ => ?_))
      | (with_reducible refine wd_t (fun _ => ?_) (fun _ => ?_))
    exact ⟨rfl, rfl⟩
  rw [hR] at hl
  clear hR
  have hchain := Cal.chain hg.toOk hpos hfar hat ⟨hD1, hD2⟩
  have hto := fun n (hn : n ≤ 10000) => Cal.later_to hg hat (n := n) hn
  have hone : ∀ i, i ≤ 20 → (1 ≤ ((calAt k).walkM (y, mo + 1) i).2) → (calAt k).At ((calAt k).dayAt (D - (calAt k).first y + 1 - (calAt k).bef y mo) ((calAt k).walkM (y, mo + 1) i)) ((calAt k).walkM (y, mo + 1) i).1 (((calAt k).walkM (y, mo + 1) i).2 - 1) →
      (1 ≤ ((calAt k).walkM (y, mo + 1) (i + 1)).2) → (calAt k).At ((calAt k).dayAt (D - (calAt k).first y + 1 - (calAt k).bef y mo) ((calAt k).walkM (y, mo + 1) (i + 1))) ((calAt k).walkM (y, mo + 1) (i + 1)).1 (((calAt k).walkM (y, mo + 1) (i + 1)).2 - 1) →
      MeetsP Tryz.prog (glT m) 19 [(calAt k).A, .i .i64 ((calAt k).dayAt (D - (calAt k).first y + 1 - (calAt k).bef y mo) ((calAt k).walkM (y, mo + 1) i)), .i .i64 0, .i .i64 1] (resD (.i .i64 ((calAt k).dayAt (D - (calAt k).first y + 1 - (calAt k).bef y mo) ((calAt k).walkM (y, mo + 1) (i + 1)))) 0) := fun i _ h1 h2 h3 h4 => by
    have e : (calAt k).walkM (y, mo + 1) (i + 1) = (calAt k).stepM ((calAt k).walkM (y, mo + 1) i) := rfl
    rw [e] at h3 h4 ⊢
    generalize (calAt k).walkM (y, mo + 1) i = p at *
    obtain ⟨yi, Mi⟩ := p
    simp only at h1 h2
    obtain ⟨mi, rfl⟩ : ∃ k, Mi = k + 1 := ⟨Mi - 1, by omega⟩
    simp only [Nat.add_sub_cancel] at h2
    have e1 : (calAt k).dayAt (D - (calAt k).first y + 1 - (calAt k).bef y mo) (yi, mi + 1) - (calAt k).first yi + 1 - (calAt k).bef yi mi = D - (calAt k).first y + 1 - (calAt k).bef y mo := by
      unfold Cal.dayAt; simp only [Nat.add_sub_cancel]; omega
    have := Cal.later_to hg h2 (n := 1) (by omega) h3 (by rw [e1]; exact h4)
    rw [e1] at this
    exact this
  have hz0 : (calAt k).dayAt (D - (calAt k).first y + 1 - (calAt k).bef y mo) ((calAt k).walkM (y, mo + 1) 0) = D := by
    show (calAt k).dayAt _ (y, mo + 1) = D
    unfold Cal.dayAt; simp only [Nat.add_sub_cancel]; omega
  have hd1 : 1 ≤ D - (calAt k).first y + 1 - (calAt k).bef y mo := by have := hat.r1; omega
  have hmon := hg.mon
  have h20 := hg.len2
  have hdate : ((mo : Int) + 1) = ((mo : Int) + 1) := rfl
  clear hat hpos hfar
  generalize D - (calAt k).first y + 1 - (calAt k).bef y mo = d at *
  generalize hM : ((mo : Int) + 1) = M at *
  have hchain2 : (calAt k).Fits d → ∀ i, i < 20 → MeetsP Tryz.prog (glT m) 19 [(calAt k).A, .i .i64 ((calAt k).dayAt d ((calAt k).walkM (y, mo + 1) i)), .i .i64 0, .i .i64 1] (resD (.i .i64 ((calAt k).dayAt d ((calAt k).walkM (y, mo + 1) (i + 1)))) 0) := fun hf i hi =>
    hone i (by omega) (hchain hf i (by omega)).1 (hchain hf i (by omega)).2.1 (hchain hf (i + 1) (by omega)).1 (hchain hf (i + 1) (by omega)).2.1
  have hto2 : (calAt k).Fits d → MeetsP Tryz.prog (glT m) 19 [(calAt k).A, .i .i64 D, .i .i64 0, .i .i64 N] (resD (.i .i64 ((calAt k).dayAt d ((calAt k).walkM (y, mo + 1) N.toNat))) 0) := fun hf => by
    have := hto N.toNat (by omega) (hchain hf N.toNat (by omega)).1 (hchain hf N.toNat (by omega)).2.1
    rwa [show ((N.toNat : Nat) : Int) = N by omega] at this
  clear hone hto hchain
  generalize hda : (fun i => (calAt k).dayAt d ((calAt k).walkM (y, mo + 1) i)) = da
  have hda' : ∀ i, (calAt k).dayAt d ((calAt k).walkM (y, mo + 1) i) = da i := fun i => congrFun hda i
  simp only [hda'] at hchain2 hto2 hz0
  clear hda hda' hM hmo hg hdate
  unfold Cal.Fits at hchain2 hto2
  generalize calAt k = c at *
  obtain ⟨nm, ep, cy, ms, ls⟩ := c
  have n1 : ∀ a, [AV.agg [.s nm, .i .i64 ep, .i .i64 cy, .isl false 3 (ms.map fun q => [.s q.1, .i .i64 q.2.1, .i .i64 q.2.2]), .isl false 1 (ls.map fun y => [.i .i64 y])], a].all (noid 12) = noid 12 a := fun a => by
    simp only [List.all_cons, List.all_nil, Bool.and_true]; exact Bool.true_and _
  have n4 : ∀ a b c, [AV.agg [.s nm, .i .i64 ep, .i .i64 cy, .isl false 3 (ms.map fun q => [.s q.1, .i .i64 q.2.1, .i .i64 q.2.2]), .isl false 1 (ls.map fun y => [.i .i64 y])], .i .i64 a, .i .i64 b, .i .i64 c].all (noid 12) = true := fun a b c => rfl
  simp only [Cal.A, monF, intF] at *
  unfold resD dateA at *
  refine meetsP (E := (EW m)) 123 [.tmp 8] (ew m) Tryz.func7 rfl (by decide) rfl rfl (by simp) ?_
  repeat' first
    | ((with_reducible refine wr_isCall ?_); refine wr_P hk rfl ?_)
    | ((with_reducible refine wr_isCall ?_); refine wr_P hn rfl ?_)
    | ((with_reducible refine wr_isCall ?_); refine wr_P hc rfl ?_)
    | ((with_reducible refine wr_isCall ?_); refine wr_P hct rfl ?_)
    | ((with_reducible refine wr_isCall ?_); refine wr_P hct2 rfl ?_)
    | ((with_reducible refine wr_isCall ?_); refine wr_P hct3 rfl ?_)
    | ((with_reducible refine wr_isCall ?_); refine wr_P hf (n1 _) ?_)
    | ((with_reducible refine wr_isCall ?_); refine wr_P hl (n4 _ _ _) ?_)
    | ((with_reducible refine wr_isCall ?_); refine wr_P ht (n1 _) ?_)
    | (with_reducible refine t_seq ?_)
    | (with_reducible refine t_skip ?_)
    | (with_reducible refine t_ret ?_)
    | (with_reducible refine t_end ?_)
    | (with_reducible refine t_cond ?_)
    | (with_reducible refine t_region ?_)
    | (with_reducible refine wr_done ?_)
    | ((with_reducible refine t_isDraw ?_); refine t_draw rfl (by kernel_rfl) ?_)
    | (with_reducible refine WD.done _ ?_)
    | (with_reducible refine wdp_done ?_)
    | (with_reducible refine tr_some ?_)
    | ((fail_if_success with_reducible refine t_bl ?_); (with_reducible refine t_block ?_))
    | (with_reducible refine t_inBlock ?_)
    | ((with_reducible refine t_isExit ?_); refine t_exit rfl ?_)
    | simp only [decide_eq_true_eq, decide_eq_false_iff_not, Bool.not_eq_true', Bool.not_eq_false'] at *
    | simp (disch := omega) only [go_sem, Nat.reduceLT, Nat.reduceEqDiff, Nat.reduceAdd, Nat.reduceLeDiff, Nat.reduceMul, Int.reduceLT, Int.reduceLE, Int.reduceAdd, Int.reduceSub, Int.reduceNeg, Int.reduceToNat, Int.reduceBEq, Int.reduceEq, reduceCtorEq, List.take_succ_cons, List.take_zero, List.take_nil, List.drop_succ_cons, List.drop_nil, List.cons_append, List.nil_append, List.set_cons_zero, List.set_cons_succ, ↓reduceIte, *]
    | (with_reducible refine tb_true ?_)
    | (with_reducible refine tb_false ?_)
    | (with_reducible refine tb_split (fun _ => ?_) (fun _ => ?_))
    | (with_reducible refine wg_f (fun _ => ?_) (fun _ => ?_))
    | (with_reducible refine wg_t (fun _ => ?_) (fun _ => ?_))
    | (with_reducible refine wd_f (fun _ => ?_) (fun _ => ?_))
    | (with_reducible refine wd_t (fun _ => ?_) (fun _ => ?_))
  all_goals
    refine t_while (I := fun (i : Nat) t h => i ≤ ms.length ∧ (∃ n, 2 ≤ n ∧ h = ⟨[(1, .rows 3 [[.i .i64 y, .i .i64 M, .i .i64 d]]), (0, .rows 5 [[.s nm, .i .i64 ep, .i .i64 cy, .isl false 3 (ms.map fun q => [.s q.1, .i .i64 q.2.1, .i .i64 q.2.2]), .isl false 1 (ls.map fun y => [.i .i64 y])]])], n⟩) ∧ get t 75 = .isl false 3 (ms.map fun q => [.s q.1, .i .i64 q.2.1, .i .i64 q.2.2]) ∧ get t 76 = .i .i64 ms.length ∧ get t 77 = .i .i64 i ∧ get t 1 = .i .i64 D ∧ get t 3 = .i .i64 N ∧ get t 9 = .ptr 0 0 0 ∧ get t 11 = .ptr 1 0 0 ∧
        ∀ j (hj : j < ms.length), j < i → ¬ (min ms[j].2.1 ms[j].2.2 < d ∧ 0 < max ms[j].2.1 ms[j].2.2)) (m := fun i => ms.length - i)
      (J := fun t h => (∃ n, 2 ≤ n ∧ h = ⟨[(1, .rows 3 [[.i .i64 y, .i .i64 M, .i .i64 d]]), (0, .rows 5 [[.s nm, .i .i64 ep, .i .i64 cy, .isl false 3 (ms.map fun q => [.s q.1, .i .i64 q.2.1, .i .i64 q.2.2]), .isl false 1 (ls.map fun y => [.i .i64 y])]])], n⟩) ∧ get t 1 = .i .i64 D ∧ get t 3 = .i .i64 N ∧ get t 9 = .ptr 0 0 0 ∧ ∀ q ∈ ms, ¬ (min q.2.1 q.2.2 < d ∧ 0 < max q.2.1 q.2.2)) 0
      ⟨by omega, ⟨2, by omega, rfl⟩, by simp [get], by simp [get], by simp [get], by simp [get], by simp [get], by simp [get], by simp [get], fun j hj h => by omega⟩ ?_ ?_
    · rintro i t h ⟨hi, ⟨n, hn, rfl⟩, h75, h76, h77, h1, h3, h9, h11, hall⟩ hrec hex
      have hn1 : ¬ n = 0 := by omega
      have hn2 : ¬ 0 = n := by omega
      have hn3 : ¬ n = 1 := by omega
      have hn4 : ¬ 1 = n := by omega
      by_cases hi' : i < ms.length
      · have hb := hmon _ (List.getElem_mem hi')
        generalize hq1 : ms[i].2.1 = s1 at *
        generalize hq2 : ms[i].2.2 = s2 at *
        repeat' first
          | refine hex _ _ ?_
          | (with_reducible refine t_seq ?_)
          | (with_reducible refine t_skip ?_)
          | (with_reducible refine t_ret ?_)
          | (with_reducible refine t_end ?_)
          | (with_reducible refine t_cond ?_)
          | (with_reducible refine t_region ?_)
          | (with_reducible refine wr_done ?_)
          | ((with_reducible refine t_isDraw ?_); refine t_draw rfl (by kernel_rfl) ?_)
          | (with_reducible refine WD.done _ ?_)
          | (with_reducible refine wdp_done ?_)
          | (with_reducible refine tr_some ?_)
          | ((fail_if_success with_reducible refine t_bl ?_); (with_reducible refine t_block ?_))
          | (with_reducible refine t_inBlock ?_)
          | ((with_reducible refine t_isExit ?_); refine t_exit rfl ?_)
          | simp only [decide_eq_true_eq, decide_eq_false_iff_not, Bool.not_eq_true', Bool.not_eq_false'] at *
          | simp (disch := omega) only [go_sem, Nat.reduceLT, Nat.reduceEqDiff, Nat.reduceAdd, Nat.reduceLeDiff, Nat.reduceMul, Int.reduceLT, Int.reduceLE, Int.reduceAdd, Int.reduceSub, Int.reduceNeg, Int.reduceToNat, Int.reduceBEq, Int.reduceEq, reduceCtorEq, List.take_succ_cons, List.take_zero, List.take_nil, List.drop_succ_cons, List.drop_nil, List.cons_append, List.nil_append, List.set_cons_zero, List.set_cons_succ, ↓reduceIte, *]
          | (with_reducible refine tb_true ?_)
          | (with_reducible refine tb_false ?_)
          | (with_reducible refine tb_split (fun _ => ?_) (fun _ => ?_))
          | (with_reducible refine wg_f (fun _ => ?_) (fun _ => ?_))
          | (with_reducible refine wg_t (fun _ => ?_) (fun _ => ?_))
          | (with_reducible refine wd_f (fun _ => ?_) (fun _ => ?_))
          | (with_reducible refine wd_t (fun _ => ?_) (fun _ => ?_))
        all_goals first | (exfalso; omega) | (exact ⟨rfl, rfl⟩) | skip
        all_goals refine t_pop ?_
        all_goals refine hrec (i + 1) _ _ ⟨by omega, ⟨n + 1, by omega, rfl⟩, by simp [get, h75], by simp [get, h76], by simp [get], by simp [get, h1], by simp [get, h3], by simp [get, h9], by simp [get, h11], fun j hj hji => ?_⟩ (by omega)
        all_goals
          by_cases e : j = i
          · subst e; rw [hq1, hq2]; omega
          · exact hall j hj (by omega)
      · repeat' first
          | refine hex _ _ ?_
          | (with_reducible refine t_seq ?_)
          | (with_reducible refine t_skip ?_)
          | (with_reducible refine t_ret ?_)
          | (with_reducible refine t_end ?_)
          | (with_reducible refine t_cond ?_)
          | (with_reducible refine t_region ?_)
          | (with_reducible refine wr_done ?_)
          | ((with_reducible refine t_isDraw ?_); refine t_draw rfl (by kernel_rfl) ?_)
          | (with_reducible refine WD.done _ ?_)
          | (with_reducible refine wdp_done ?_)
          | (with_reducible refine tr_some ?_)
          | ((fail_if_success with_reducible refine t_bl ?_); (with_reducible refine t_block ?_))
          | (with_reducible refine t_inBlock ?_)
          | ((with_reducible refine t_isExit ?_); refine t_exit rfl ?_)
          | simp only [decide_eq_true_eq, decide_eq_false_iff_not, Bool.not_eq_true', Bool.not_eq_false'] at *
          | simp (disch := omega) only [go_sem, Nat.reduceLT, Nat.reduceEqDiff, Nat.reduceAdd, Nat.reduceLeDiff, Nat.reduceMul, Int.reduceLT, Int.reduceLE, Int.reduceAdd, Int.reduceSub, Int.reduceNeg, Int.reduceToNat, Int.reduceBEq, Int.reduceEq, reduceCtorEq, List.take_succ_cons, List.take_zero, List.take_nil, List.drop_succ_cons, List.drop_nil, List.cons_append, List.nil_append, List.set_cons_zero, List.set_cons_succ, ↓reduceIte, *]
          | (with_reducible refine tb_true ?_)
          | (with_reducible refine tb_false ?_)
          | (with_reducible refine tb_split (fun _ => ?_) (fun _ => ?_))
          | (with_reducible refine wg_f (fun _ => ?_) (fun _ => ?_))
          | (with_reducible refine wg_t (fun _ => ?_) (fun _ => ?_))
          | (with_reducible refine wd_f (fun _ => ?_) (fun _ => ?_))
          | (with_reducible refine wd_t (fun _ => ?_) (fun _ => ?_))
        all_goals first | (exfalso; omega) | skip
        refine ⟨⟨n, hn, rfl⟩, fun q hq => ?_⟩
        obtain ⟨j, hj, rfl⟩ := List.mem_iff_getElem.1 hq
        exact hall j hj (by omega)
    rintro t h ⟨⟨n, hn, rfl⟩, h1, h3, h9, hfit⟩
    have hn1 : ¬ n = 0 := by omega
    have hn2 : ¬ 0 = n := by omega
    have hn3 : ¬ n = 1 := by omega
    have hn4 : ¬ 1 = n := by omega
    have hc2 := hchain2 hfit
    have ht2 := hto2 hfit
    clear hchain2 hto2
    repeat' first
      | (with_reducible refine t_seq ?_)
      | (with_reducible refine t_skip ?_)
      | (with_reducible refine t_ret ?_)
      | (with_reducible refine t_end ?_)
      | (with_reducible refine t_cond ?_)
      | (with_reducible refine t_region ?_)
      | (with_reducible refine wr_done ?_)
      | ((with_reducible refine t_isDraw ?_); refine t_draw rfl (by kernel_rfl) ?_)
      | (with_reducible refine WD.done _ ?_)
      | (with_reducible refine wdp_done ?_)
      | (with_reducible refine tr_some ?_)
      | ((fail_if_success with_reducible refine t_bl ?_); (with_reducible refine t_block ?_))
      | (with_reducible refine t_inBlock ?_)
      | ((with_reducible refine t_isExit ?_); refine t_exit rfl ?_)
      | simp only [decide_eq_true_eq, decide_eq_false_iff_not, Bool.not_eq_true', Bool.not_eq_false'] at *
      | simp (disch := omega) only [go_sem, Nat.reduceLT, Nat.reduceEqDiff, Nat.reduceAdd, Nat.reduceLeDiff, Nat.reduceMul, Int.reduceLT, Int.reduceLE, Int.reduceAdd, Int.reduceSub, Int.reduceNeg, Int.reduceToNat, Int.reduceBEq, Int.reduceEq, reduceCtorEq, List.take_succ_cons, List.take_zero, List.take_nil, List.drop_succ_cons, List.drop_nil, List.cons_append, List.nil_append, List.set_cons_zero, List.set_cons_succ, ↓reduceIte, *]
      | (with_reducible refine tb_true ?_)
      | (with_reducible refine tb_false ?_)
      | (with_reducible refine tb_split (fun _ => ?_) (fun _ => ?_))
      | (with_reducible refine wg_f (fun _ => ?_) (fun _ => ?_))
      | (with_reducible refine wg_t (fun _ => ?_) (fun _ => ?_))
      | (with_reducible refine wd_f (fun _ => ?_) (fun _ => ?_))
      | (with_reducible refine wd_t (fun _ => ?_) (fun _ => ?_))
    refine t_while (I := fun (i : Nat) t h => i ≤ N.toNat ∧ h = ⟨[(1, .rows 3 [[.i .i64 y, .i .i64 M, .i .i64 d]]), (0, .rows 5 [[.s nm, .i .i64 ep, .i .i64 cy, .isl false 3 (ms.map fun q => [.s q.1, .i .i64 q.2.1, .i .i64 q.2.2]), .isl false 1 (ls.map fun y => [.i .i64 y])]])], n⟩ ∧ get t 99 = .i .i64 N ∧ get t 100 = .i .i64 i ∧ get t 18 = .i .i64 (da i) ∧ get t 1 = .i .i64 D ∧ get t 3 = .i .i64 N ∧ get t 9 = .ptr 0 0 0) (m := fun i => N.toNat - i)
      (J := fun t h => h = ⟨[(1, .rows 3 [[.i .i64 y, .i .i64 M, .i .i64 d]]), (0, .rows 5 [[.s nm, .i .i64 ep, .i .i64 cy, .isl false 3 (ms.map fun q => [.s q.1, .i .i64 q.2.1, .i .i64 q.2.2]), .isl false 1 (ls.map fun y => [.i .i64 y])]])], n⟩ ∧ get t 18 = .i .i64 (da N.toNat) ∧ get t 1 = .i .i64 D ∧ get t 3 = .i .i64 N ∧ get t 9 = .ptr 0 0 0) 0
      ⟨by omega, rfl, by simp [get], by simp [get], by simp [get, hz0], by simp [get, h1], by simp [get, h3], by simp [get, h9]⟩ ?_ ?_
    · rintro i t h ⟨hi, rfl, h99, h100, h18, h1, h3, h9⟩ hrec hex
      by_cases hi' : i < N.toNat
      · have hL := hc2 i (by omega)
        repeat' first
          | ((with_reducible refine wr_isCall ?_); refine wr_P hL (n4 _ _ _) ?_)
          | (with_reducible refine t_seq ?_)
          | (with_reducible refine t_skip ?_)
          | (with_reducible refine t_ret ?_)
          | (with_reducible refine t_end ?_)
          | (with_reducible refine t_cond ?_)
          | (with_reducible refine t_region ?_)
          | (with_reducible refine wr_done ?_)
          | ((with_reducible refine t_isDraw ?_); refine t_draw rfl (by kernel_rfl) ?_)
          | (with_reducible refine WD.done _ ?_)
          | (with_reducible refine wdp_done ?_)
          | (with_reducible refine tr_some ?_)
          | ((fail_if_success with_reducible refine t_bl ?_); (with_reducible refine t_block ?_))
          | (with_reducible refine t_inBlock ?_)
          | ((with_reducible refine t_isExit ?_); refine t_exit rfl ?_)
          | simp only [decide_eq_true_eq, decide_eq_false_iff_not, Bool.not_eq_true', Bool.not_eq_false'] at *
          | simp (disch := omega) only [go_sem, Nat.reduceLT, Nat.reduceEqDiff, Nat.reduceAdd, Nat.reduceLeDiff, Nat.reduceMul, Int.reduceLT, Int.reduceLE, Int.reduceAdd, Int.reduceSub, Int.reduceNeg, Int.reduceToNat, Int.reduceBEq, Int.reduceEq, reduceCtorEq, List.take_succ_cons, List.take_zero, List.take_nil, List.drop_succ_cons, List.drop_nil, List.cons_append, List.nil_append, List.set_cons_zero, List.set_cons_succ, ↓reduceIte, *]
          | (with_reducible refine tb_true ?_)
          | (with_reducible refine tb_false ?_)
          | (with_reducible refine tb_split (fun _ => ?_) (fun _ => ?_))
          | (with_reducible refine wg_f (fun _ => ?_) (fun _ => ?_))
          | (with_reducible refine wg_t (fun _ => ?_) (fun _ => ?_))
          | (with_reducible refine wd_f (fun _ => ?_) (fun _ => ?_))
          | (with_reducible refine wd_t (fun _ => ?_) (fun _ => ?_))
        all_goals first | (exfalso; omega) | skip
        exact hrec (i + 1) _ _ ⟨by omega, rfl, by simp [get, h99], by simp [get], by simp [get], by simp [get, h1], by simp [get, h3], by simp [get, h9]⟩ (by omega)
      · have e : i = N.toNat := by omega
        subst e
        repeat' first
          | refine hex _ _ ?_
          | (with_reducible refine t_seq ?_)
          | (with_reducible refine t_skip ?_)
          | (with_reducible refine t_ret ?_)
          | (with_reducible refine t_end ?_)
          | (with_reducible refine t_cond ?_)
          | (with_reducible refine t_region ?_)
          | (with_reducible refine wr_done ?_)
          | ((with_reducible refine t_isDraw ?_); refine t_draw rfl (by kernel_rfl) ?_)
          | (with_reducible refine WD.done _ ?_)
          | (with_reducible refine wdp_done ?_)
          | (with_reducible refine tr_some ?_)
          | ((fail_if_success with_reducible refine t_bl ?_); (with_reducible refine t_block ?_))
          | (with_reducible refine t_inBlock ?_)
          | ((with_reducible refine t_isExit ?_); refine t_exit rfl ?_)
          | simp only [decide_eq_true_eq, decide_eq_false_iff_not, Bool.not_eq_true', Bool.not_eq_false'] at *
          | simp (disch := omega) only [go_sem, Nat.reduceLT, Nat.reduceEqDiff, Nat.reduceAdd, Nat.reduceLeDiff, Nat.reduceMul, Int.reduceLT, Int.reduceLE, Int.reduceAdd, Int.reduceSub, Int.reduceNeg, Int.reduceToNat, Int.reduceBEq, Int.reduceEq, reduceCtorEq, List.take_succ_cons, List.take_zero, List.take_nil, List.drop_succ_cons, List.drop_nil, List.cons_append, List.nil_append, List.set_cons_zero, List.set_cons_succ, ↓reduceIte, *]
          | (with_reducible refine tb_true ?_)
          | (with_reducible refine tb_false ?_)
          | (with_reducible refine tb_split (fun _ => ?_) (fun _ => ?_))
          | (with_reducible refine wg_f (fun _ => ?_) (fun _ => ?_))
          | (with_reducible refine wg_t (fun _ => ?_) (fun _ => ?_))
          | (with_reducible refine wd_f (fun _ => ?_) (fun _ => ?_))
          | (with_reducible refine wd_t (fun _ => ?_) (fun _ => ?_))
        all_goals first | (exfalso; omega) | skip
    rintro t h ⟨rfl, h18, h1, h3, h9⟩
    repeat' first
      | ((with_reducible refine wr_isCall ?_); refine wr_P ht2 (n4 _ _ _) ?_)
      | (with_reducible refine t_seq ?_)
      | (with_reducible refine t_skip ?_)
      | (with_reducible refine t_ret ?_)
      | (with_reducible refine t_end ?_)
      | (with_reducible refine t_cond ?_)
      | (with_reducible refine t_region ?_)
      | (with_reducible refine wr_done ?_)
      | ((with_reducible refine t_isDraw ?_); refine t_draw rfl (by kernel_rfl) ?_)
      | (with_reducible refine WD.done _ ?_)
      | (with_reducible refine wdp_done ?_)
      | (with_reducible refine tr_some ?_)
      | ((fail_if_success with_reducible refine t_bl ?_); (with_reducible refine t_block ?_))
      | (with_reducible refine t_inBlock ?_)
      | ((with_reducible refine t_isExit ?_); refine t_exit rfl ?_)
      | simp only [decide_eq_true_eq, decide_eq_false_iff_not, Bool.not_eq_true', Bool.not_eq_false'] at *
      | simp (disch := omega) only [go_sem, Nat.reduceLT, Nat.reduceEqDiff, Nat.reduceAdd, Nat.reduceLeDiff, Nat.reduceMul, Int.reduceLT, Int.reduceLE, Int.reduceAdd, Int.reduceSub, Int.reduceNeg, Int.reduceToNat, Int.reduceBEq, Int.reduceEq, reduceCtorEq, List.take_succ_cons, List.take_zero, List.take_nil, List.drop_succ_cons, List.drop_nil, List.cons_append, List.nil_append, List.set_cons_zero, List.set_cons_succ, ↓reduceIte, *]
      | (with_reducible refine tb_true ?_)
      | (with_reducible refine tb_false ?_)
      | (with_reducible refine tb_split (fun _ => ?_) (fun _ => ?_))
      | (with_reducible refine wg_f (fun _ => ?_) (fun _ => ?_))
      | (with_reducible refine wg_t (fun _ => ?_) (fun _ => ?_))
      | (with_reducible refine wd_f (fun _ => ?_) (fun _ => ?_))
      | (with_reducible refine wd_t (fun _ => ?_) (fun _ => ?_))
    exact ⟨rfl, rfl⟩
end Go.Proofs.YtdkifonomakcbaaGreatDoorA
