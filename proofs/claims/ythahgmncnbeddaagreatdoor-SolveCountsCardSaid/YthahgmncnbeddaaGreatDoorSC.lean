/- The finder's dates. -/
import Derived.Test.YthahgmncnbeddaaGreatDoorPS5
set_option linter.unusedVariables false
set_option linter.unusedSimpArgs false
namespace Go.Proofs.YthahgmncnbeddaaGreatDoorA
open Go Go.RowKit Go.Proofs.YthahgmncnbeddaaGreatDoorFx Go.Proofs
attribute [local go_sem] List.take_succ_cons List.take_zero List.take_nil List.drop_succ_cons List.drop_nil List.cons_append List.nil_append List.set_cons_zero List.set_cons_succ
variable {m : Int}
/-- The date of a day, as cells. -/
def daR (d : Int × Int × Int) : List AV := [.i .i64 d.1, .i .i64 d.2.1, .i .i64 d.2.2]
/-- The dates of the first k of N days from a day on; the others are not there yet. -/
def daL (D : Int → Int × Int × Int) (lo : Int) (k N : Nat) : List (List AV) := (List.range N).map fun i => if i < k then daR (D (lo + i)) else [.i .i64 0, .i .i64 0, .i .i64 0]
theorem daL_len (D : Int → Int × Int × Int) (lo : Int) (k N : Nat) : (daL D lo k N).length = N := by simp [daL]
theorem daL_zero (D : Int → Int × Int × Int) (lo : Int) (N : Nat) : daL D lo 0 N = List.replicate N [.i .i64 0, .i .i64 0, .i .i64 0] := by
  refine List.ext_getElem (by simp [daL]) fun i h1 h2 => ?_
  simp [daL]
theorem daL_none {D : Int → Int × Int × Int} {lo : Int} {k N : Nat} (h : D (lo + k) = (0, 0, 0)) : daL D lo (k + 1) N = daL D lo k N := by
  refine List.ext_getElem (by simp [daL]) fun i h1 h2 => ?_
  simp only [daL, List.getElem_map, List.getElem_range]
  by_cases q : i = k
  · subst q
    rw [if_pos (by omega), if_neg (by omega), h]; rfl
  · by_cases q2 : i < k
    · rw [if_pos (show i < k + 1 by omega), if_pos q2]
    · rw [if_neg (show ¬ i < k + 1 by omega), if_neg q2]
theorem daL_set {D : Int → Int × Int × Int} {lo : Int} {k N : Nat} (hk : k < N) : (daL D lo k N).set k (daR (D (lo + k))) = daL D lo (k + 1) N := by
  refine List.ext_getElem (by simp [daL]) fun i h1 h2 => ?_
  rw [List.getElem_set]
  simp only [daL, List.getElem_map, List.getElem_range]
  by_cases q : k = i
  · subst q
    rw [if_pos rfl, if_pos (by omega)]
  · rw [if_neg q]
    by_cases q2 : i < k
    · rw [if_pos q2, if_pos (show i < k + 1 by omega)]
    · rw [if_neg q2, if_neg (show ¬ i < k + 1 by omega)]
theorem daL_at {D : Int → Int × Int × Int} {lo : Int} {k N i : Nat} (h : i < N) : ∃ a b c, (daL D lo k N)[i]? = some [.i .i64 a, .i .i64 b, .i .i64 c] := by
  simp only [daL, List.getElem?_map, List.getElem?_range h, Option.map_some]
  split
  · exact ⟨_, _, _, rfl⟩
  · exact ⟨_, _, _, rfl⟩
/-- What is known of the day before: the date that is kept, and the length of its month. -/
def keptD (c : Cal) (day : Int) (d : Int × Int × Int) (len : Int) : Prop := d.2.1 = 0 ∨ ∃ (y : Int) (mo : Nat), c.At (day - 1) y mo ∧ d = (y, (mo : Int) + 1, day - 1 - c.first y + 1 - c.bef y mo) ∧ len = c.mlen y (mo + 1)
set_option maxRecDepth 100000 in
set_option maxHeartbeats 8000000 in
theorem datesP {s : List UInt8} (hs : ¬ Unknown s) {L : List (List UInt8)} (hlen : L.length ≤ 10000) {lo hi : Int} {N : Nat} (hN : hi - lo + 1 = N) (b1 : -100000000 ≤ lo) (b2 : lo ≤ 100000000) (b3 : N ≤ 100000) {fid b n : Nat} (hb : fid < b) (hn : b + 2 ≤ n) :
    MeetsH (EW m) 45 [.ptr fid 0 0, .s s, .i .i64 lo, .i .i64 hi] ⟨finI fid L b (b + 1), n⟩ (Is (.ret (.osl (n + 9) 0 N)) ⟨(n + 9, .rows 3 (daL (dN s) lo N N)) :: finI fid (addN L s) (n + 6) (n + 7), n + 11 + N⟩) := by
  have hc0 := calN_good (m := m) hs
  have hcal := calendarP (m := m) hs hlen hb hn
  have hrun := fun day => fromDay_all hc0 day
  have hmon := fun y (k : Nat) (h : k < (calN s).ms.length) => monthLenP (m := m) hc0 y ((k : Int) + 1) (by omega) (by omega)
  have hat := fun {day y : Int} {mo : Nat} (h : (calN s).At day y mo) => h.run hc0
  have hck := fun d => lineCheck (m := m) d
  have hD : ∀ x, dN s x = dOf (calN s) x := fun _ => rfl
  obtain ⟨y1, y2, y3, y4, y5, hy, hr, ⟨o1, o2, o3, o4, o5⟩, ⟨n1, n2, n3, n4, n5⟩⟩ := cal_row (calN s)
  refine (show MeetsH _ _ _ _ (fun o h0 => o = .ret (.osl (n + 9) 0 N) ∧ Sub ⟨(n + 9, .rows 3 (daL (dN s) lo N N)) :: finI fid (addN L s) (n + 6) (n + 7), n + 11 + N⟩ h0) from ?_).forget (fun o h0 q => ⟨_, q.2, q.1, rfl⟩)
  rw [hy] at hcal
  have w0 : hi - lo + 1 = (N : Int) := hN
  obtain ⟨i1, hi1, hb1⟩ := Option.map_eq_some_iff.1 (show (Tryz.prog.info? 41).map (·.bytes) = some 24 by kernel_rfl)
  have w1 : ((24 : Nat) : Int) * N ≤ 70368744177664 := by omega
  have w2 : (N : Int) ≤ 9223372036854775807 := by omega
  have e0 := daL_zero (dN s) lo N
  refine meetsH (E := (EW m)) 75 [.tmp 8] Tryz.func45 rfl (by decide) rfl rfl (by simp) ?_
  repeat' first | ((with_reducible refine wr_isCall ?_); refine wr_ret hcal ?_) | (with_reducible first | refine t_seq ?_ | refine t_skip ?_ | refine t_ret ?_ | refine t_end ?_ | refine t_cond ?_ | refine t_region ?_ | refine wr_done ?_ | refine WD.done _ ?_ | refine wdp_done ?_ | refine tr_some ?_ | refine t_inBlock ?_) | ((fail_if_success with_reducible refine t_bl ?_); (with_reducible refine t_block ?_)) | ((with_reducible refine t_isExit ?_); refine t_exit rfl ?_) | simp only [decide_eq_true_eq, decide_eq_false_iff_not, Bool.not_eq_true', Bool.not_eq_false'] at * | simp (disch := omega) only [go_sem, Nat.reduceLT, Nat.reduceEqDiff, Nat.reduceAdd, Nat.reduceLeDiff, Nat.reduceMul, Int.reduceLT, Int.reduceLE, Int.reduceAdd, Int.reduceSub, Int.reduceNeg, Int.reduceToNat, Int.reduceBEq, Int.reduceEq, reduceCtorEq, ↓reduceIte, *] | (with_reducible first | refine tb_true ?_ | refine tb_false ?_) | ((with_reducible first | refine tb_split ?_ ?_ | refine wg_f ?_ ?_ | refine wg_t ?_ ?_ | refine wd_f ?_ ?_ | refine wd_t ?_ ?_) <;> intro _)
  clear hcal
  rw [← e0]
  generalize finI fid (addN L s) (n + 6) (n + 7) = FI
  refine t_while (I := fun (k : Nat) t h => k ≤ N ∧ ∃ n1 dy dm dd len, n + 8 + 1 + 1 + 1 ≤ n1 ∧ n1 ≤ n + 11 + k ∧ keptD (calN s) (lo + k) (dy, dm, dd) len ∧ h = ⟨(n + 8 + 1 + 1, .rows 3 [[.i .i64 dy, .i .i64 dm, .i .i64 dd]]) :: (n + 8 + 1, .rows 3 (daL (dN s) lo k N)) :: (n + 8, .rows 5 [[y1, y2, y3, y4, y5]]) :: FI, n1⟩ ∧ get t 2 = .i .i64 lo ∧ get t 9 = .ptr (n + 8) 0 0 ∧ get t 10 = .osl (n + 8 + 1) 0 N ∧ get t 11 = .ptr (n + 8 + 1 + 1) 0 0 ∧ get t 12 = .i .i64 len ∧ get t 26 = .i .i64 N ∧ get t 27 = .i .i64 k) (m := fun k => N - k)
    (J := fun t h => ∃ n1 x, n1 ≤ n + 11 + N ∧ h = ⟨(n + 8 + 1 + 1, x) :: (n + 8 + 1, .rows 3 (daL (dN s) lo N N)) :: (n + 8, .rows 5 [[y1, y2, y3, y4, y5]]) :: FI, n1⟩ ∧ get t 10 = .osl (n + 8 + 1) 0 N) 0
    ⟨by omega, n + 8 + 1 + 1 + 1, 0, 0, 0, 0, by omega, by omega, .inl rfl, rfl, by simp [get], by simp [get], by simp [get], by simp [get], by simp [get], by simp [get], by simp [get]⟩ ?_ ?_
  · rintro k t h ⟨hk, n1, dy, dm, dd, len, hn1, hn2, hkept, rfl, t2, t9, t10, t11, t12, t26, t27⟩ hrec hex
    have z1 : ¬ n1 = n + 8 := by omega
    have z2 : ¬ n1 = n + 8 + 1 := by omega
    have z3 : ¬ n1 = n + 8 + 1 + 1 := by omega
    by_cases hk' : k < N
    · have hlen' := daL_len (dN s) lo k N
      obtain ⟨u1, u2, u3, hu⟩ := daL_at (D := dN s) (lo := lo) (k := k) hk'
      have hset := daL_set (D := dN s) (lo := lo) hk'
      have hnone := daL_none (D := dN s) (lo := lo) (k := k) (N := N)
      have e1 : lo + ((k + 1 : Nat) : Int) - 1 = lo + k := by omega
      have hch := hck (lo + k)
      have hnx : ∀ (n2 : Nat) (dy dm dd len : Int) (D' : List (List AV)), n1 ≤ n2 → n2 ≤ n1 + 1 → keptD (calN s) (lo + ((k + 1 : Nat) : Int)) (dy, dm, dd) len → D' = daL (dN s) lo (k + 1) N → ∀ t', get t' 2 = .i .i64 lo → get t' 9 = .ptr (n + 8) 0 0 → get t' 10 = .osl (n + 8 + 1) 0 N → get t' 11 = .ptr (n + 8 + 1 + 1) 0 0 → get t' 12 = .i .i64 len → get t' 26 = .i .i64 N → get t' 27 = .i .i64 ((k : Int) + 1) → _ := fun n2 dy dm dd len D' a1 a2 a3 a4 t' a5 a6 a7 a8 a9 a10 a11 =>
        hrec (k + 1) t' ⟨(n + 8 + 1 + 1, .rows 3 [[.i .i64 dy, .i .i64 dm, .i .i64 dd]]) :: (n + 8 + 1, .rows 3 D') :: (n + 8, .rows 5 [[y1, y2, y3, y4, y5]]) :: FI, n2⟩ ⟨by omega, n2, dy, dm, dd, len, by omega, by omega, a3, by rw [a4], a5, a6, a7, a8, a9, a10, by rw [a11]; rfl⟩ (by omega)
      clear hrec hex hck
      generalize hDL : daL (dN s) lo k N = DL at *
      by_cases hfar : chkDay (lo + k) = 0
      case neg =>
        have hz := hnone (by rw [hD]; exact dOf_no (fun y mo h => hfar h.far))
        generalize chkDay (lo + k) = ck at *
        clear hrun hmon hat hset hnone
        repeat' first | ((with_reducible refine wr_isCall ?_); refine wr_P hch rfl ?_) | (with_reducible first | refine t_seq ?_ | refine t_skip ?_ | refine t_ret ?_ | refine t_end ?_ | refine t_cond ?_ | refine t_region ?_ | refine wr_done ?_ | refine WD.done _ ?_ | refine wdp_done ?_ | refine tr_some ?_ | refine t_inBlock ?_) | ((with_reducible refine t_isDraw ?_); refine t_draw rfl (by kernel_rfl) ?_) | ((fail_if_success with_reducible refine t_bl ?_); (with_reducible refine t_block ?_)) | ((with_reducible refine t_isExit ?_); refine t_exit rfl ?_) | simp only [decide_eq_true_eq, decide_eq_false_iff_not, Bool.not_eq_true', Bool.not_eq_false'] at * | simp (disch := omega) only [go_sem, Nat.reduceLT, Nat.reduceEqDiff, Nat.reduceAdd, Nat.reduceLeDiff, Nat.reduceMul, Int.reduceLT, Int.reduceLE, Int.reduceAdd, Int.reduceSub, Int.reduceNeg, Int.reduceToNat, Int.reduceBEq, Int.reduceEq, reduceCtorEq, ↓reduceIte, *] | (with_reducible first | refine tb_true ?_ | refine tb_false ?_) | ((with_reducible first | refine tb_split ?_ ?_ | refine wg_f ?_ ?_ | refine wg_t ?_ ?_ | refine wd_f ?_ ?_ | refine wd_t ?_ ?_) <;> intro _)
        all_goals first | (exfalso; omega) | skip
        exact hnx n1 dy 0 dd len DL (by omega) (by omega) (.inl rfl) hz.symm _ (by simp [get, t2]) (by simp [get, t9]) (by simp [get, t10]) (by simp [get, t11]) (by simp [get, t12]) (by simp [get, t26]) (by simp [get])
      rw [hfar] at hch
      by_cases hin : dm ≠ 0 ∧ dd < len
      · obtain ⟨y, mo, hA, hd, hl⟩ := hkept.resolve_left hin.1
        obtain ⟨h1, h2⟩ := hin
        simp only [Prod.mk.injEq] at hd
        obtain ⟨rfl, rfl, hdd⟩ := hd
        have hA' := hA.stay hc0.toOk (by omega) (by rw [show lo + (k : Int) - 1 + 1 = lo + k by omega]; exact hfar)
        rw [show lo + (k : Int) - 1 + 1 = lo + k by omega] at hA'
        have hday := dOf_at hc0.toOk hA'
        rw [← hD] at hday
        rw [hday, show lo + (k : Int) - (calN s).first dy + 1 - (calN s).bef dy mo = dd + 1 by omega] at hset
        have hkp : keptD (calN s) (lo + ((k + 1 : Nat) : Int)) (dy, (mo : Int) + 1, dd + 1) len := .inr ⟨dy, mo, by rw [e1]; exact hA', by rw [e1]; simp only [Prod.mk.injEq, true_and]; omega, hl⟩
        have hb := hc0.toOk.mlen_bounds dy (mo + 1)
        have hmol := hA.hmo
        have h20 := hc0.len2
        have hdd1 : 1 ≤ dd := by have := hA.r1; omega
        generalize hM : (mo : Int) + 1 = M at *
        have hM2 : 0 < M := by omega
        have hl2 : len ≤ 400 := by omega
        clear hrun hmon hat hnone hkept hA hA' hday hdd hl hb
        repeat' first | ((with_reducible refine wr_isCall ?_); refine wr_P hch rfl ?_) | (with_reducible first | refine t_seq ?_ | refine t_skip ?_ | refine t_ret ?_ | refine t_end ?_ | refine t_cond ?_ | refine t_region ?_ | refine wr_done ?_ | refine WD.done _ ?_ | refine wdp_done ?_ | refine tr_some ?_ | refine t_inBlock ?_) | ((with_reducible refine t_isDraw ?_); refine t_draw rfl (by kernel_rfl) ?_) | ((fail_if_success with_reducible refine t_bl ?_); (with_reducible refine t_block ?_)) | ((with_reducible refine t_isExit ?_); refine t_exit rfl ?_) | simp only [decide_eq_true_eq, decide_eq_false_iff_not, Bool.not_eq_true', Bool.not_eq_false'] at * | simp (disch := omega) only [go_sem, Nat.reduceLT, Nat.reduceEqDiff, Nat.reduceAdd, Nat.reduceLeDiff, Nat.reduceMul, Int.reduceLT, Int.reduceLE, Int.reduceAdd, Int.reduceSub, Int.reduceNeg, Int.reduceToNat, Int.reduceBEq, Int.reduceEq, reduceCtorEq, ↓reduceIte, *] | (with_reducible first | refine tb_true ?_ | refine tb_false ?_) | ((with_reducible first | refine tb_split ?_ ?_ | refine wg_f ?_ ?_ | refine wg_t ?_ ?_ | refine wd_f ?_ ?_ | refine wd_t ?_ ?_) <;> intro _)
        all_goals first | (exfalso; omega) | skip
        exact hnx n1 dy M (dd + 1) len _ (by omega) (by omega) hkp hset _ (by simp [get, t2]) (by simp [get, t9]) (by simp [get, t10]) (by simp [get, t11]) (by simp [get, t12]) (by simp [get, t26]) (by simp [get])
      · by_cases hex : ∃ y mo, (calN s).At (lo + k) y mo
        · obtain ⟨y, mo, hA⟩ := hex
          have hF := hat hA
          have hMo := hmon y mo hA.hmo
          rw [show chkYear y = 0 from if_neg (by have := hA.y1; have := hA.y2; omega), if_pos rfl] at hMo
          have hday := dOf_at hc0.toOk hA
          rw [← hD] at hday
          rw [hday] at hset
          have hkp : keptD (calN s) (lo + ((k + 1 : Nat) : Int)) (y, (mo : Int) + 1, lo + k - (calN s).first y + 1 - (calN s).bef y mo) ((calN s).mlen y (mo + 1)) := .inr ⟨y, mo, by rw [e1]; exact hA, by rw [e1], rfl⟩
          have hmol := hA.hmo
          have h20 := hc0.len2
          generalize hM : (mo : Int) + 1 = M at *
          generalize lo + (k : Int) - (calN s).first y + 1 - (calN s).bef y mo = dd' at *
          generalize (calN s).mlen y M = len' at *
          unfold resD dateA at hF
          have hM2 : 0 < M := by omega
          rw [hy] at hF hMo
          clear hrun hmon hat hnone hkept hA hday
          repeat' first | ((with_reducible refine wr_isCall ?_); first | refine wr_P hch rfl ?_ | refine wr_P hF (by simp only [List.all_cons, List.all_nil, noid_agg, noid_i, Bool.and_true, *]) ?_ | refine wr_P hMo (by simp only [List.all_cons, List.all_nil, noid_agg, noid_i, Bool.and_true, *]) ?_) | (with_reducible first | refine t_seq ?_ | refine t_skip ?_ | refine t_ret ?_ | refine t_end ?_ | refine t_cond ?_ | refine t_region ?_ | refine wr_done ?_ | refine WD.done _ ?_ | refine wdp_done ?_ | refine tr_some ?_ | refine t_inBlock ?_) | ((with_reducible refine t_isDraw ?_); refine t_draw rfl (by kernel_rfl) ?_) | ((fail_if_success with_reducible refine t_bl ?_); (with_reducible refine t_block ?_)) | ((with_reducible refine t_isExit ?_); refine t_exit rfl ?_) | simp only [decide_eq_true_eq, decide_eq_false_iff_not, Bool.not_eq_true', Bool.not_eq_false'] at * | simp (disch := omega) only [go_sem, Nat.reduceLT, Nat.reduceEqDiff, Nat.reduceAdd, Nat.reduceLeDiff, Nat.reduceMul, Int.reduceLT, Int.reduceLE, Int.reduceAdd, Int.reduceSub, Int.reduceNeg, Int.reduceToNat, Int.reduceBEq, Int.reduceEq, reduceCtorEq, ↓reduceIte, *] | (with_reducible first | refine tb_true ?_ | refine tb_false ?_) | ((with_reducible first | refine tb_split ?_ ?_ | refine wg_f ?_ ?_ | refine wg_t ?_ ?_ | refine wd_f ?_ ?_ | refine wd_t ?_ ?_) <;> intro _)
          all_goals first | (exfalso; omega) | skip
          all_goals refine t_pop ?_
          all_goals exact hnx (n1 + 1) y M dd' len' _ (by omega) (by omega) hkp hset _ (by simp [get, t2]) (by simp [get, t9]) (by simp [get, t10]) (by simp [get, t11]) (by simp [get]) (by simp [get, t26]) (by simp [get])
        · have hF := (hrun (lo + k)).resolve_right hex
          have hz := hnone (by rw [hD]; exact dOf_no (fun y mo h => hex ⟨y, mo, h⟩))
          unfold resD dateA at hF
          rw [hy] at hF
          clear hrun hmon hat hset hnone hkept
          repeat' first | ((with_reducible refine wr_isCall ?_); first | refine wr_P hch rfl ?_ | refine wr_P hF (by simp only [List.all_cons, List.all_nil, noid_agg, noid_i, Bool.and_true, *]) ?_) | (with_reducible first | refine t_seq ?_ | refine t_skip ?_ | refine t_ret ?_ | refine t_end ?_ | refine t_cond ?_ | refine t_region ?_ | refine wr_done ?_ | refine WD.done _ ?_ | refine wdp_done ?_ | refine tr_some ?_ | refine t_inBlock ?_) | ((with_reducible refine t_isDraw ?_); refine t_draw rfl (by kernel_rfl) ?_) | ((fail_if_success with_reducible refine t_bl ?_); (with_reducible refine t_block ?_)) | ((with_reducible refine t_isExit ?_); refine t_exit rfl ?_) | simp only [decide_eq_true_eq, decide_eq_false_iff_not, Bool.not_eq_true', Bool.not_eq_false'] at * | simp (disch := omega) only [go_sem, Nat.reduceLT, Nat.reduceEqDiff, Nat.reduceAdd, Nat.reduceLeDiff, Nat.reduceMul, Int.reduceLT, Int.reduceLE, Int.reduceAdd, Int.reduceSub, Int.reduceNeg, Int.reduceToNat, Int.reduceBEq, Int.reduceEq, reduceCtorEq, ↓reduceIte, *] | (with_reducible first | refine tb_true ?_ | refine tb_false ?_) | ((with_reducible first | refine tb_split ?_ ?_ | refine wg_f ?_ ?_ | refine wg_t ?_ ?_ | refine wd_f ?_ ?_ | refine wd_t ?_ ?_) <;> intro _)
          all_goals first | (exfalso; omega) | skip
          all_goals refine t_pop ?_
          all_goals exact hnx (n1 + 1) 0 0 0 len DL (by omega) (by omega) (.inl rfl) hz.symm _ (by simp [get, t2]) (by simp [get, t9]) (by simp [get, t10]) (by simp [get, t11]) (by simp [get, t12]) (by simp [get, t26]) (by simp [get])
    · have hkN : k = N := by omega
      subst hkN
      clear hrun hmon hat hck hrec
      repeat' first | refine hex _ _ ?_ | (with_reducible first | refine t_seq ?_ | refine t_skip ?_ | refine t_ret ?_ | refine t_end ?_ | refine t_cond ?_ | refine t_region ?_ | refine wr_done ?_ | refine WD.done _ ?_ | refine wdp_done ?_ | refine tr_some ?_ | refine t_inBlock ?_) | ((with_reducible refine t_isDraw ?_); refine t_draw rfl (by kernel_rfl) ?_) | ((fail_if_success with_reducible refine t_bl ?_); (with_reducible refine t_block ?_)) | ((with_reducible refine t_isExit ?_); refine t_exit rfl ?_) | simp only [decide_eq_true_eq, decide_eq_false_iff_not, Bool.not_eq_true', Bool.not_eq_false'] at * | simp (disch := omega) only [go_sem, Nat.reduceLT, Nat.reduceEqDiff, Nat.reduceAdd, Nat.reduceLeDiff, Nat.reduceMul, Int.reduceLT, Int.reduceLE, Int.reduceAdd, Int.reduceSub, Int.reduceNeg, Int.reduceToNat, Int.reduceBEq, Int.reduceEq, reduceCtorEq, ↓reduceIte, *] | (with_reducible first | refine tb_true ?_ | refine tb_false ?_) | ((with_reducible first | refine tb_split ?_ ?_ | refine wg_f ?_ ?_ | refine wg_t ?_ ?_ | refine wd_f ?_ ?_ | refine wd_t ?_ ?_) <;> intro _)
      all_goals first | (exfalso; omega) | skip
      exact ⟨n1, _, by omega, rfl⟩
  · rintro t h ⟨n1, x, hn1, rfl, t10⟩
    clear hrun hmon hat hck
    repeat' first | (with_reducible first | refine t_seq ?_ | refine t_skip ?_ | refine t_ret ?_ | refine t_end ?_ | refine t_cond ?_ | refine t_region ?_ | refine wr_done ?_ | refine WD.done _ ?_ | refine wdp_done ?_ | refine tr_some ?_ | refine t_inBlock ?_) | ((with_reducible refine t_isDraw ?_); refine t_draw rfl (by kernel_rfl) ?_) | ((fail_if_success with_reducible refine t_bl ?_); (with_reducible refine t_block ?_)) | ((with_reducible refine t_isExit ?_); refine t_exit rfl ?_) | simp only [decide_eq_true_eq, decide_eq_false_iff_not, Bool.not_eq_true', Bool.not_eq_false'] at * | simp (disch := omega) only [go_sem, Nat.reduceLT, Nat.reduceEqDiff, Nat.reduceAdd, Nat.reduceLeDiff, Nat.reduceMul, Int.reduceLT, Int.reduceLE, Int.reduceAdd, Int.reduceSub, Int.reduceNeg, Int.reduceToNat, Int.reduceBEq, Int.reduceEq, reduceCtorEq, ↓reduceIte, *] | (with_reducible first | refine tb_true ?_ | refine tb_false ?_) | ((with_reducible first | refine tb_split ?_ ?_ | refine wg_f ?_ ?_ | refine wg_t ?_ ?_ | refine wd_f ?_ ?_ | refine wd_t ?_ ?_) <;> intro _)
    exact Sub.of (.cons _ (.cons_cons _ (.cons _ (List.Sublist.refl _)))) (by omega)
end Go.Proofs.YthahgmncnbeddaaGreatDoorA
/- The closures of the finder's days. -/
set_option linter.unusedVariables false
set_option linter.unusedSimpArgs false
namespace Go.Proofs.YthahgmncnbeddaaGreatDoorA
open Go Go.RowKit Go.Proofs.YthahgmncnbeddaaGreatDoorFx Go.Proofs
attribute [local go_sem] List.take_succ_cons List.take_zero List.take_nil List.drop_succ_cons List.drop_nil List.cons_append List.nil_append List.set_cons_zero List.set_cons_succ
variable {m : Int}
section
variable {k a b day lo : Int} {nm : List UInt8} {ks : AV}
set_option maxRecDepth 100000 in
theorem inDate (hks : one ks = true) (d1 : -1000000000 ≤ day) (d2 : day ≤ 1000000000) (e1 : -1000000000 ≤ lo) (e2 : lo ≤ 1000000000) {D : List (List AV)} {y mo d : Int} (hlo : lo ≤ day) (hD : D[(day - lo).toNat]? = some [.i .i64 y, .i .i64 mo, .i .i64 d]) : MeetsP Tryz.prog (glT m) 46 [.i .i64 day, .ip [.isl true 3 D] 0, .ip [.i .i64 lo] 0, .ip [.i .i64 k, .i .i64 a, .i .i64 b, .s nm, ks] 0] (.b (decide (mo = a) && (decide (k = 2) || decide (d = b)))) := by
  have hl : (day - lo).toNat < D.length := (List.getElem?_eq_some_iff.1 hD).1
  refine meetsP (E := (EW m)) 30 [.tmp 5] (ew m) Tryz.func46 rfl (by decide) rfl rfl (by simp) ?_
  repeat' first | (with_reducible first | refine t_seq ?_ | refine t_skip ?_ | refine t_ret ?_ | refine t_end ?_ | refine t_cond ?_ | refine t_region ?_ | refine wr_done ?_ | refine WD.done _ ?_ | refine wdp_done ?_ | refine tr_some ?_ | refine t_inBlock ?_) | ((with_reducible refine t_isDraw ?_); refine t_draw rfl (by kernel_rfl) ?_) | ((fail_if_success with_reducible refine t_bl ?_); (with_reducible refine t_block ?_)) | ((with_reducible refine t_isExit ?_); refine t_exit rfl ?_) | simp only [decide_eq_true_eq, decide_eq_false_iff_not, Bool.not_eq_true', Bool.not_eq_false'] at * | simp (disch := omega) only [go_sem, Nat.reduceLT, Nat.reduceEqDiff, Nat.reduceAdd, Nat.reduceLeDiff, Nat.reduceMul, Int.reduceLT, Int.reduceLE, Int.reduceAdd, Int.reduceSub, Int.reduceNeg, Int.reduceToNat, Int.reduceBEq, Int.reduceEq, reduceCtorEq, ↓reduceIte, *] | (with_reducible first | refine tb_true ?_ | refine tb_false ?_) | ((with_reducible first | refine tb_split ?_ ?_ | refine wg_f ?_ ?_ | refine wg_t ?_ ?_ | refine wd_f ?_ ?_ | refine wd_t ?_ ?_) <;> intro _)
  all_goals first | (exfalso; omega) | exact ⟨by simp [fz, *], rfl⟩
set_option maxRecDepth 100000 in
theorem inWeekday (hks : one ks = true) (d1 : -1000000000 ≤ day) (d2 : day ≤ 1000000000) (e1 : -1000000000 ≤ lo) (e2 : lo ≤ 1000000000) : MeetsP Tryz.prog (glT m) 47 [.i .i64 day, .ip [.i .i64 k, .i .i64 a, .i .i64 b, .s nm, ks] 0] (.b (decide ((day - 1) % 7 = a))) := by
  have h := modP (m := m) (a := day - 1) (b := 7) (by omega) (by omega) (by omega) (by omega)
  refine meetsP (E := (EW m)) 10 [.tmp 3] (ew m) Tryz.func47 rfl (by decide) rfl rfl (by simp) ?_
  repeat' first | ((with_reducible refine t_isDraw ?_); refine t_draw1 h (by kernel_rfl) ?_) | (with_reducible first | refine t_seq ?_ | refine t_skip ?_ | refine t_ret ?_ | refine t_end ?_ | refine t_cond ?_ | refine t_region ?_ | refine wr_done ?_ | refine WD.done _ ?_ | refine wdp_done ?_ | refine tr_some ?_ | refine t_inBlock ?_) | ((with_reducible refine t_isDraw ?_); refine t_draw rfl (by kernel_rfl) ?_) | ((fail_if_success with_reducible refine t_bl ?_); (with_reducible refine t_block ?_)) | ((with_reducible refine t_isExit ?_); refine t_exit rfl ?_) | simp only [decide_eq_true_eq, decide_eq_false_iff_not, Bool.not_eq_true', Bool.not_eq_false'] at * | simp (disch := omega) only [go_sem, Nat.reduceLT, Nat.reduceEqDiff, Nat.reduceAdd, Nat.reduceLeDiff, Nat.reduceMul, Int.reduceLT, Int.reduceLE, Int.reduceAdd, Int.reduceSub, Int.reduceNeg, Int.reduceToNat, Int.reduceBEq, Int.reduceEq, reduceCtorEq, ↓reduceIte, *] | (with_reducible first | refine tb_true ?_ | refine tb_false ?_) | ((with_reducible first | refine tb_split ?_ ?_ | refine wg_f ?_ ?_ | refine wg_t ?_ ?_ | refine wd_f ?_ ?_ | refine wd_t ?_ ?_) <;> intro _)
  all_goals first | (exfalso; omega) | exact ⟨by simp [fz, *], rfl⟩
set_option maxRecDepth 100000 in
theorem inEvery (hks : one ks = true) (d1 : -1000000000 ≤ day) (d2 : day ≤ 1000000000) (e1 : -1000000000 ≤ lo) (e2 : lo ≤ 1000000000) (h1 : 1 ≤ a) (h2 : a ≤ 100000) (h3 : 0 ≤ b) (h4 : b < a) : MeetsP Tryz.prog (glT m) 48 [.i .i64 day, .ip [.i .i64 k, .i .i64 a, .i .i64 b, .s nm, ks] 0] (.b (decide ((day - b) % a = 0))) := by
  have h := modP (m := m) (a := day - b) (b := a) (by omega) (by omega) (by omega) (by omega)
  refine meetsP (E := (EW m)) 12 [.tmp 3] (ew m) Tryz.func48 rfl (by decide) rfl rfl (by simp) ?_
  repeat' first | ((with_reducible refine wr_isCall ?_); refine wr_P h rfl ?_) | (with_reducible first | refine t_seq ?_ | refine t_skip ?_ | refine t_ret ?_ | refine t_end ?_ | refine t_cond ?_ | refine t_region ?_ | refine wr_done ?_ | refine WD.done _ ?_ | refine wdp_done ?_ | refine tr_some ?_ | refine t_inBlock ?_) | ((with_reducible refine t_isDraw ?_); refine t_draw rfl (by kernel_rfl) ?_) | ((fail_if_success with_reducible refine t_bl ?_); (with_reducible refine t_block ?_)) | ((with_reducible refine t_isExit ?_); refine t_exit rfl ?_) | simp only [decide_eq_true_eq, decide_eq_false_iff_not, Bool.not_eq_true', Bool.not_eq_false'] at * | simp (disch := omega) only [go_sem, Nat.reduceLT, Nat.reduceEqDiff, Nat.reduceAdd, Nat.reduceLeDiff, Nat.reduceMul, Int.reduceLT, Int.reduceLE, Int.reduceAdd, Int.reduceSub, Int.reduceNeg, Int.reduceToNat, Int.reduceBEq, Int.reduceEq, reduceCtorEq, ↓reduceIte, *] | (with_reducible first | refine tb_true ?_ | refine tb_false ?_) | ((with_reducible first | refine tb_split ?_ ?_ | refine wg_f ?_ ?_ | refine wg_t ?_ ?_ | refine wd_f ?_ ?_ | refine wd_t ?_ ?_) <;> intro _)
  all_goals first | (exfalso; omega) | exact ⟨by simp [fz, *], rfl⟩
set_option maxRecDepth 100000 in
theorem inDay (hks : one ks = true) (d1 : -1000000000 ≤ day) (d2 : day ≤ 1000000000) (e1 : -1000000000 ≤ lo) (e2 : lo ≤ 1000000000) : MeetsP Tryz.prog (glT m) 49 [.i .i64 day, .ip [.i .i64 k, .i .i64 a, .i .i64 b, .s nm, ks] 0] (.b (decide (day = a))) := by
  refine meetsP (E := (EW m)) 8 [.tmp 3] (ew m) Tryz.func49 rfl (by decide) rfl rfl (by simp) ?_
  repeat' first | (with_reducible first | refine t_seq ?_ | refine t_skip ?_ | refine t_ret ?_ | refine t_end ?_ | refine t_cond ?_ | refine t_region ?_ | refine wr_done ?_ | refine WD.done _ ?_ | refine wdp_done ?_ | refine tr_some ?_ | refine t_inBlock ?_) | ((with_reducible refine t_isDraw ?_); refine t_draw rfl (by kernel_rfl) ?_) | ((fail_if_success with_reducible refine t_bl ?_); (with_reducible refine t_block ?_)) | ((with_reducible refine t_isExit ?_); refine t_exit rfl ?_) | simp only [decide_eq_true_eq, decide_eq_false_iff_not, Bool.not_eq_true', Bool.not_eq_false'] at * | simp (disch := omega) only [go_sem, Nat.reduceLT, Nat.reduceEqDiff, Nat.reduceAdd, Nat.reduceLeDiff, Nat.reduceMul, Int.reduceLT, Int.reduceLE, Int.reduceAdd, Int.reduceSub, Int.reduceNeg, Int.reduceToNat, Int.reduceBEq, Int.reduceEq, reduceCtorEq, ↓reduceIte, *] | (with_reducible first | refine tb_true ?_ | refine tb_false ?_) | ((with_reducible first | refine tb_split ?_ ?_ | refine wg_f ?_ ?_ | refine wg_t ?_ ?_ | refine wd_f ?_ ?_ | refine wd_t ?_ ?_) <;> intro _)
  all_goals first | (exfalso; omega) | exact ⟨by simp [fz, *], rfl⟩
set_option maxRecDepth 100000 in
theorem inBetween (hks : one ks = true) (d1 : -1000000000 ≤ day) (d2 : day ≤ 1000000000) (e1 : -1000000000 ≤ lo) (e2 : lo ≤ 1000000000) : MeetsP Tryz.prog (glT m) 50 [.i .i64 day, .ip [.i .i64 k, .i .i64 a, .i .i64 b, .s nm, ks] 0] (.b (decide (a ≤ day) && decide (day ≤ b))) := by
  refine meetsP (E := (EW m)) 14 [.tmp 3] (ew m) Tryz.func50 rfl (by decide) rfl rfl (by simp) ?_
  repeat' first | (with_reducible first | refine t_seq ?_ | refine t_skip ?_ | refine t_ret ?_ | refine t_end ?_ | refine t_cond ?_ | refine t_region ?_ | refine wr_done ?_ | refine WD.done _ ?_ | refine wdp_done ?_ | refine tr_some ?_ | refine t_inBlock ?_) | ((with_reducible refine t_isDraw ?_); refine t_draw rfl (by kernel_rfl) ?_) | ((fail_if_success with_reducible refine t_bl ?_); (with_reducible refine t_block ?_)) | ((with_reducible refine t_isExit ?_); refine t_exit rfl ?_) | simp only [decide_eq_true_eq, decide_eq_false_iff_not, Bool.not_eq_true', Bool.not_eq_false'] at * | simp (disch := omega) only [go_sem, Nat.reduceLT, Nat.reduceEqDiff, Nat.reduceAdd, Nat.reduceLeDiff, Nat.reduceMul, Int.reduceLT, Int.reduceLE, Int.reduceAdd, Int.reduceSub, Int.reduceNeg, Int.reduceToNat, Int.reduceBEq, Int.reduceEq, reduceCtorEq, ↓reduceIte, *] | (with_reducible first | refine tb_true ?_ | refine tb_false ?_) | ((with_reducible first | refine tb_split ?_ ?_ | refine wg_f ?_ ?_ | refine wg_t ?_ ?_ | refine wd_f ?_ ?_ | refine wd_t ?_ ?_) <;> intro _)
  all_goals first | (exfalso; omega) | exact ⟨by simp [fz, *], rfl⟩
set_option maxRecDepth 100000 in
theorem inShift (hks : one ks = true) (d1 : -1000000000 ≤ day) (d2 : day ≤ 1000000000) (e1 : -1000000000 ≤ lo) (e2 : lo ≤ 1000000000) {B : List (List AV)} {x : Bool} (hlo : lo ≤ day) (hB : B[(day - lo).toNat]? = some [.b x]) : MeetsP Tryz.prog (glT m) 51 [.i .i64 day, .ip [.isl true 1 B] 0, .ip [.i .i64 lo] 0] (.b x) := by
  have hl : (day - lo).toNat < B.length := (List.getElem?_eq_some_iff.1 hB).1
  refine meetsP (E := (EW m)) 11 [.tmp 4] (ew m) Tryz.func51 rfl (by decide) rfl rfl (by simp) ?_
  repeat' first | (with_reducible first | refine t_seq ?_ | refine t_skip ?_ | refine t_ret ?_ | refine t_end ?_ | refine t_cond ?_ | refine t_region ?_ | refine wr_done ?_ | refine WD.done _ ?_ | refine wdp_done ?_ | refine tr_some ?_ | refine t_inBlock ?_) | ((with_reducible refine t_isDraw ?_); refine t_draw rfl (by kernel_rfl) ?_) | ((fail_if_success with_reducible refine t_bl ?_); (with_reducible refine t_block ?_)) | ((with_reducible refine t_isExit ?_); refine t_exit rfl ?_) | simp only [decide_eq_true_eq, decide_eq_false_iff_not, Bool.not_eq_true', Bool.not_eq_false'] at * | simp (disch := omega) only [go_sem, Nat.reduceLT, Nat.reduceEqDiff, Nat.reduceAdd, Nat.reduceLeDiff, Nat.reduceMul, Int.reduceLT, Int.reduceLE, Int.reduceAdd, Int.reduceSub, Int.reduceNeg, Int.reduceToNat, Int.reduceBEq, Int.reduceEq, reduceCtorEq, ↓reduceIte, *] | (with_reducible first | refine tb_true ?_ | refine tb_false ?_) | ((with_reducible first | refine tb_split ?_ ?_ | refine wg_f ?_ ?_ | refine wg_t ?_ ?_ | refine wd_f ?_ ?_ | refine wd_t ?_ ?_) <;> intro _)
  all_goals first | (exfalso; omega) | exact ⟨by simp [fz, *], rfl⟩
end
/-- The truths of the first j of N days from a day on; the others are not there yet. -/
def boL (g : Int → Bool) (lo : Int) (j N : Nat) : List (List AV) := (List.range N).map fun i => [.b (decide (i < j) && g (lo + i))]
theorem boL_len (g : Int → Bool) (lo : Int) (j N : Nat) : (boL g lo j N).length = N := by simp [boL]
theorem boL_zero (g : Int → Bool) (lo : Int) (N : Nat) : boL g lo 0 N = List.replicate N [.b false] := by
  refine List.ext_getElem (by simp [boL]) fun i h1 h2 => ?_
  simp [boL]
theorem boL_at {g : Int → Bool} {lo : Int} {j N i : Nat} (h : i < N) : (boL g lo j N)[i]? = some [.b (decide (i < j) && g (lo + i))] := by
  simp [boL, h]
theorem boL_set {g : Int → Bool} {lo : Int} {j N : Nat} (hj : j < N) : (boL g lo j N).set j [.b (g (lo + j))] = boL g lo (j + 1) N := by
  refine List.ext_getElem (by simp [boL]) fun i h1 h2 => ?_
  rw [List.getElem_set]
  simp only [boL, List.getElem_map, List.getElem_range]
  by_cases q : j = i
  · subst q; simp
  · rw [if_neg q]
    by_cases q2 : i < j
    · simp [q2, show i < j + 1 by omega]
    · simp [q2, show ¬ i < j + 1 by omega]
section
variable {E : Env} {f : FuncId} {args : List AV} {h h1 : Hp}
theorem MeetsH.pre {R : Out → Hp → Prop} (s : Sub h1 h) (hm : MeetsH E f args h1 R) : MeetsH E f args h R :=
  ⟨hm.1, fun F G ok w vals q1 q2 q3 q4 q5 => hm.2 F G ok w vals q1 q2 (q3.sub s) q4 q5⟩
theorem sub_comm (c e : List (Nat × Ent)) (n : Nat) : Sub ⟨e ++ c, n⟩ ⟨c ++ e, n⟩ := ⟨fun x q => by simp only [List.mem_append] at *; exact q.symm, fun q => by
  simp only [List.map_append] at *
  exact (List.perm_append_comm.nodup_iff).1 q, Nat.le_refl _⟩
/-- A contract with further own blocks behind those that it speaks of. -/
theorem MeetsH.frameR {c c' : List (Nat × Ent)} {n n' : Nat} {o : Out} (e : List (Nat × Ent)) (hm : MeetsH E f args ⟨c, n⟩ (Is o ⟨c', n'⟩)) : MeetsH E f args ⟨c ++ e, n⟩ (Is o ⟨c' ++ e, n'⟩) :=
  ((hm.frameI e).pre (sub_comm c e n)).forget (fun o' h0 q => by obtain ⟨rfl, rfl⟩ := q; exact ⟨_, sub_comm e c' n', rfl, rfl⟩)
end
set_option maxRecDepth 100000 in
set_option maxHeartbeats 2000000 in
theorem eachP {G : Int → Bool} {lo : Int} {N : Nat} {g : FuncId} {caps : List AV} (hg : ¬ 32 = g) (hcaps : caps.all (noid 12) = true) (b1 : -100000000 ≤ lo) (b2 : lo ≤ 100000000) (b3 : N ≤ 100000) {oc ob n : Nat} (hne : ¬ oc = ob)
    (hin : ∀ i : Nat, i < N → chkDay (lo + i) = 0 → MeetsP Tryz.prog (glT m) g (.i .i64 (lo + i) :: caps) (.b (G (lo + i)))) :
    MeetsH (EW m) 44 [.fn g [] caps, .ptr oc 0 0, .ip [.i .i64 lo] 0] ⟨[(oc, .rows 1 [[.osl ob 0 N]]), (ob, .rows 1 (boL G lo 0 N))], n⟩ (Is (.ret (.tup [])) ⟨[(oc, .rows 1 [[.osl ob 0 N]]), (ob, .rows 1 (boL (fun x => decide (chkDay x = 0) && G x) lo N N))], n⟩) := by
  rw [boL_zero, ← boL_zero (fun x => decide (chkDay x = 0) && G x) lo N]
  have hck := fun d => lineCheck (m := m) d
  have hne2 : ¬ ob = oc := fun q => hne q.symm
  refine meetsH (E := (EW m)) 26 [] Tryz.func44 rfl (by decide) rfl rfl (by simp) ?_
  repeat' first | (with_reducible first | refine t_seq ?_ | refine t_skip ?_ | refine t_ret ?_ | refine t_end ?_ | refine t_cond ?_ | refine t_region ?_ | refine wr_done ?_ | refine WD.done _ ?_ | refine wdp_done ?_ | refine tr_some ?_ | refine t_inBlock ?_) | ((fail_if_success with_reducible refine t_bl ?_); (with_reducible refine t_block ?_)) | ((with_reducible refine t_isExit ?_); refine t_exit rfl ?_) | simp only [decide_eq_true_eq, decide_eq_false_iff_not, Bool.not_eq_true', Bool.not_eq_false'] at * | simp (disch := omega) only [go_sem, Nat.reduceLT, Nat.reduceEqDiff, Nat.reduceAdd, Nat.reduceLeDiff, Nat.reduceMul, Int.reduceLT, Int.reduceLE, Int.reduceAdd, Int.reduceSub, Int.reduceNeg, Int.reduceToNat, Int.reduceBEq, Int.reduceEq, reduceCtorEq, ↓reduceIte, *] | (with_reducible first | refine tb_true ?_ | refine tb_false ?_) | ((with_reducible first | refine tb_split ?_ ?_ | refine wg_f ?_ ?_ | refine wg_t ?_ ?_ | refine wd_f ?_ ?_ | refine wd_t ?_ ?_) <;> intro _)
  refine t_while (I := fun (j : Nat) t h => j ≤ N ∧ h = ⟨[(oc, .rows 1 [[.osl ob 0 N]]), (ob, .rows 1 (boL (fun x => decide (chkDay x = 0) && G x) lo j N))], n⟩ ∧ get t 0 = .fn g [] caps ∧ get t 1 = .ptr oc 0 0 ∧ get t 2 = .ip [.i .i64 lo] 0 ∧ get t 6 = .i .i64 N ∧ get t 7 = .i .i64 j) (m := fun j => N - j)
    (J := fun t h => h = ⟨[(oc, .rows 1 [[.osl ob 0 N]]), (ob, .rows 1 (boL (fun x => decide (chkDay x = 0) && G x) lo N N))], n⟩) 0 ⟨by omega, rfl, by simp [get], by simp [get], by simp [get], by simp [get], by simp [get]⟩ ?_ ?_
  · rintro j t h ⟨hj, rfl, t0, t1, t2, t6, t7⟩ hrec hex
    by_cases hj' : j < N
    · have hset := boL_set (g := fun x => decide (chkDay x = 0) && G x) (lo := lo) hj'
      have hlen := boL_len (fun x => decide (chkDay x = 0) && G x) lo j N
      have hat := boL_at (g := fun x => decide (chkDay x = 0) && G x) (lo := lo) (j := j) hj'
      have hch := hck (lo + j)
      have hi := hin j hj'
      have hnx : ∀ (R : List (List AV)), R = boL (fun x => decide (chkDay x = 0) && G x) lo (j + 1) N → ∀ t', get t' 0 = .fn g [] caps → get t' 1 = .ptr oc 0 0 → get t' 2 = .ip [.i .i64 lo] 0 → get t' 6 = .i .i64 N → get t' 7 = .i .i64 ((j : Int) + 1) → _ := fun R a1 t' a2 a3 a4 a5 a6 =>
        hrec (j + 1) t' ⟨[(oc, .rows 1 [[.osl ob 0 N]]), (ob, .rows 1 R)], n⟩ ⟨by omega, by rw [a1], a2, a3, a4, a5, by rw [a6]; rfl⟩ (by omega)
      clear hin hrec hex hck
      generalize boL (fun x => decide (chkDay x = 0) && G x) lo j N = BL at *
      generalize G (lo + j) = gx at *
      have hn1 : ((.i .i64 (lo + (j : Int)) : AV) :: caps).all (noid 12) = true := by
        simp only [List.all_cons, noid_i, Bool.true_and]; exact hcaps
      by_cases hc0 : chkDay (lo + j) = 0
      · have hi' := hi hc0
        rw [hc0] at hch
        simp only [hc0, decide_true, Bool.true_and] at hset
        repeat' first | ((with_reducible refine t_isDraw ?_); refine t_draw2 hch hi' (by kernel_rfl) ?_) | (with_reducible first | refine t_seq ?_ | refine t_skip ?_ | refine t_ret ?_ | refine t_end ?_ | refine t_cond ?_ | refine t_region ?_ | refine wr_done ?_ | refine WD.done _ ?_ | refine wdp_done ?_ | refine tr_some ?_ | refine t_inBlock ?_) | ((with_reducible refine t_isDraw ?_); refine t_draw rfl (by kernel_rfl) ?_) | ((fail_if_success with_reducible refine t_bl ?_); (with_reducible refine t_block ?_)) | ((with_reducible refine t_isExit ?_); refine t_exit rfl ?_) | simp only [decide_eq_true_eq, decide_eq_false_iff_not, Bool.not_eq_true', Bool.not_eq_false'] at * | simp (disch := omega) only [go_sem, Nat.reduceLT, Nat.reduceEqDiff, Nat.reduceAdd, Nat.reduceLeDiff, Nat.reduceMul, Int.reduceLT, Int.reduceLE, Int.reduceAdd, Int.reduceSub, Int.reduceNeg, Int.reduceToNat, Int.reduceBEq, Int.reduceEq, reduceCtorEq, ↓reduceIte, *] | (with_reducible first | refine tb_true ?_ | refine tb_false ?_) | ((with_reducible first | refine tb_split ?_ ?_ | refine wg_f ?_ ?_ | refine wg_t ?_ ?_ | refine wd_f ?_ ?_ | refine wd_t ?_ ?_) <;> intro _)
        all_goals first | (exfalso; omega) | skip
        all_goals exact hnx _ rfl _ (by simp [get, t0]) (by simp [get, t1]) (by simp [get, t2]) (by simp [get, t6]) (by simp [get])
      · simp only [hc0, decide_false, Bool.false_and] at hset
        generalize chkDay (lo + j) = ck at *
        repeat' first | ((with_reducible refine t_isDraw ?_); refine t_draw1 hch (by kernel_rfl) ?_) | (with_reducible first | refine t_seq ?_ | refine t_skip ?_ | refine t_ret ?_ | refine t_end ?_ | refine t_cond ?_ | refine t_region ?_ | refine wr_done ?_ | refine WD.done _ ?_ | refine wdp_done ?_ | refine tr_some ?_ | refine t_inBlock ?_) | ((with_reducible refine t_isDraw ?_); refine t_draw rfl (by kernel_rfl) ?_) | ((fail_if_success with_reducible refine t_bl ?_); (with_reducible refine t_block ?_)) | ((with_reducible refine t_isExit ?_); refine t_exit rfl ?_) | simp only [decide_eq_true_eq, decide_eq_false_iff_not, Bool.not_eq_true', Bool.not_eq_false'] at * | simp (disch := omega) only [go_sem, Nat.reduceLT, Nat.reduceEqDiff, Nat.reduceAdd, Nat.reduceLeDiff, Nat.reduceMul, Int.reduceLT, Int.reduceLE, Int.reduceAdd, Int.reduceSub, Int.reduceNeg, Int.reduceToNat, Int.reduceBEq, Int.reduceEq, reduceCtorEq, ↓reduceIte, *] | (with_reducible first | refine tb_true ?_ | refine tb_false ?_) | ((with_reducible first | refine tb_split ?_ ?_ | refine wg_f ?_ ?_ | refine wg_t ?_ ?_ | refine wd_f ?_ ?_ | refine wd_t ?_ ?_) <;> intro _)
        all_goals first | (exfalso; omega) | skip
        all_goals exact hnx _ rfl _ (by simp [get, t0]) (by simp [get, t1]) (by simp [get, t2]) (by simp [get, t6]) (by simp [get])
    · have : j = N := by omega
      subst this
      clear hin
      repeat' first | refine hex _ _ ?_ | (with_reducible first | refine t_seq ?_ | refine t_skip ?_ | refine t_ret ?_ | refine t_end ?_ | refine t_cond ?_ | refine t_region ?_ | refine wr_done ?_ | refine WD.done _ ?_ | refine wdp_done ?_ | refine tr_some ?_ | refine t_inBlock ?_) | ((with_reducible refine t_isDraw ?_); refine t_draw rfl (by kernel_rfl) ?_) | ((fail_if_success with_reducible refine t_bl ?_); (with_reducible refine t_block ?_)) | ((with_reducible refine t_isExit ?_); refine t_exit rfl ?_) | simp only [decide_eq_true_eq, decide_eq_false_iff_not, Bool.not_eq_true', Bool.not_eq_false'] at * | simp (disch := omega) only [go_sem, Nat.reduceLT, Nat.reduceEqDiff, Nat.reduceAdd, Nat.reduceLeDiff, Nat.reduceMul, Int.reduceLT, Int.reduceLE, Int.reduceAdd, Int.reduceSub, Int.reduceNeg, Int.reduceToNat, Int.reduceBEq, Int.reduceEq, reduceCtorEq, ↓reduceIte, *] | (with_reducible first | refine tb_true ?_ | refine tb_false ?_) | ((with_reducible first | refine tb_split ?_ ?_ | refine wg_f ?_ ?_ | refine wg_t ?_ ?_ | refine wd_f ?_ ?_ | refine wd_t ?_ ?_) <;> intro _)
      all_goals first | (exfalso; omega) | skip
  · rintro t h rfl
    repeat' first | (with_reducible first | refine t_seq ?_ | refine t_skip ?_ | refine t_ret ?_ | refine t_end ?_ | refine t_cond ?_ | refine t_region ?_ | refine wr_done ?_ | refine WD.done _ ?_ | refine wdp_done ?_ | refine tr_some ?_ | refine t_inBlock ?_) | ((with_reducible refine t_isDraw ?_); refine t_draw rfl (by kernel_rfl) ?_) | ((fail_if_success with_reducible refine t_bl ?_); (with_reducible refine t_block ?_)) | ((with_reducible refine t_isExit ?_); refine t_exit rfl ?_) | simp only [decide_eq_true_eq, decide_eq_false_iff_not, Bool.not_eq_true', Bool.not_eq_false'] at * | simp (disch := omega) only [go_sem, Nat.reduceLT, Nat.reduceEqDiff, Nat.reduceAdd, Nat.reduceLeDiff, Nat.reduceMul, Int.reduceLT, Int.reduceLE, Int.reduceAdd, Int.reduceSub, Int.reduceNeg, Int.reduceToNat, Int.reduceBEq, Int.reduceEq, reduceCtorEq, ↓reduceIte, *] | (with_reducible first | refine tb_true ?_ | refine tb_false ?_) | ((with_reducible first | refine tb_split ?_ ?_ | refine wg_f ?_ ?_ | refine wg_t ?_ ?_ | refine wd_f ?_ ?_ | refine wd_t ?_ ?_) <;> intro _)
    exact ⟨rfl, rfl⟩
end Go.Proofs.YthahgmncnbeddaaGreatDoorA
/- The finder's days: kinds that look at single days. -/
set_option linter.unusedVariables false
set_option linter.unusedSimpArgs false
namespace Go.Proofs.YthahgmncnbeddaaGreatDoorA
open Go Go.RowKit Go.Proofs.YthahgmncnbeddaaGreatDoorFx Go.Proofs
attribute [local go_sem] List.take_succ_cons List.take_zero List.take_nil List.drop_succ_cons List.drop_nil List.cons_append List.nil_append List.set_cons_zero List.set_cons_succ
variable {m : Int}
def Fs.row : Fs → List AV
  | .leaf k a b nm => [.i .i64 k, .i .i64 a, .i .i64 b, .s nm, .isl false 5 []]
  | .one k a b nm x => [.i .i64 k, .i .i64 a, .i .i64 b, .s nm, .isl false 5 [x.row]]
  | .two k a b nm x y => [.i .i64 k, .i .i64 a, .i .i64 b, .s nm, .isl false 5 [x.row, y.row]]
theorem Fs.row5 (t : Fs) : ∃ k a b nm ks, t.row = [.i .i64 k, .i .i64 a, .i .i64 b, .s nm, .isl false 5 ks] := by
  cases t <;> exact ⟨_, _, _, _, _, rfl⟩
theorem frzC_fin {id k : Nat} {l : List (List AV)} {fid i j : Nat} {L : List (List UInt8)} (h1 : id ≠ i) (h2 : id ≠ j) : frzC id k l (finI fid L i j) = finI fid L i j := by
  have e1 : frzR id k l (nmR L) = nmR L := by
    simp [frzR, nmR, frz]
  have e2 : frzR id k l (caR L) = caR L := by
    simp [frzR, caR, Cal.row, frz, monF, intF]
  unfold finI
  split
  · simp [frzC, frzE, frzR, frz]
  · simp only [frzC, List.map_cons, List.map_nil, frzE, e1, e2]
    simp [frzR, frz, Ne.symm h1, Ne.symm h2]
theorem rmv_fin {id fid i j : Nat} {L : List (List UInt8)} (h0 : id ≠ fid) (h1 : id ≠ i) (h2 : id ≠ j) : rmv (finI fid L i j) id = finI fid L i j := by
  unfold finI
  split
  · simp [rmv, Ne.symm h0]
  · simp [rmv, Ne.symm h0, Ne.symm h1, Ne.symm h2]
section
variable {E : Env} {f : FuncId} {K : List Item} {S : St} {X : Ex → St → Prop}
theorem t_freezeF (id : Nat) {k : Nat} {l : List (List AV)} {t' : List (Nat × AV)} (hl : look S.h.c id = some (.rows k l)) (hno : l.all (fun row => row.all (noid 12)) = true)
    (ht : ∀ j, get t' j = get S.t j ∨ get t' j = frz id k l 12 (get S.t j)) (h : T E f K ⟨t', S.N, ⟨frzC id k l (rmv S.h.c id), S.h.n⟩⟩ X) : T E f K S X := by
  intro F G ok w a b cs q2 q3 q5 I R
  obtain ⟨p, hp, hh, hno'⟩ := I.rel.look' hl
  obtain ⟨e00, hm, _⟩ := look_mem hl
  have A : Adv G ok w G (fun b i => ok b i ∨ (b = p.b ∧ p.base ≤ i)) w := ⟨fun _ _ e => e, fun b i e => ⟨.inl e, rfl⟩, fun _ _ e => e⟩
  have hmem : ∀ {id' e'}, (id', e') ∈ frzC id k l (rmv S.h.c id) → ∃ e'', e' = frzE id k l e'' ∧ id' ≠ id ∧ (id', e'') ∈ S.h.c := fun {id' e'} hm' => by
    obtain ⟨⟨i0, e0⟩, hq, he⟩ := List.mem_map.1 hm'
    cases he
    obtain ⟨hne, hm'⟩ := mem_rmv I.rel.nodup hq
    exact ⟨e0, rfl, hne, hm'⟩
  have I' : Inv F G (fun b i => ok b i ∨ (b = p.b ∧ p.base ≤ i)) w ⟨frzC id k l (rmv S.h.c id), S.h.n⟩ := by
    refine ⟨I.os, I.tape, I.output, I.size, I.keep, fun b hb hd i q => ?_, I.adv.trans A, fun b i q => ?_, fun id' e q hm' hq => ?_, fun id' e' hm' => ?_, fun i1 i2 a1 a2 q1 q2 m1 m2 => ?_, ?_, I.rel.fresh⟩
    · rcases q with q | ⟨rfl, _⟩
      · exact I.okeep b hb hd i q
      · rcases I.own id e00 p hm hp with q | q
        · exact absurd q hd
        · omega
    · rcases q with q | ⟨rfl, _⟩
      · exact I.lt b i q
      · exact Holds.lt hh
    · obtain ⟨e0, _, _, hm0⟩ := hmem hm'
      exact I.own id' e0 q hm0 hq
    · obtain ⟨e0, rfl, hne, hm0⟩ := hmem hm'
      obtain ⟨q, hq, h1, h2⟩ := I.rel.look id' e0 hm0
      refine ⟨q, hq, frzE_holds hp hh hno (fun b i e => .inl e) (fun o ho => .inr ⟨rfl, ho⟩) h1, fun o ho q' => ?_⟩
      rcases q' with q' | ⟨hb, _⟩
      · exact h2 o ho q'
      · exact I.rel.inj id' id _ _ q p hm0 hm hne hq hp hb
    · obtain ⟨e1, _, _, n1⟩ := hmem m1
      obtain ⟨e2, _, _, n2⟩ := hmem m2
      exact I.rel.inj i1 i2 e1 e2 q1 q2 n1 n2
    · have e : (frzC id k l (rmv S.h.c id)).map (·.1) = (rmv S.h.c id).map (·.1) := by simp [frzC]
      rw [e]
      exact (sub_rmv id S.h.c).nodup I.rel.nodup
  refine h F G _ w a b cs q2 q3 q5 I' ⟨R.size, fun j => ?_⟩
  show Rep _ w G _ (get t' j)
  rcases ht j with q | q
  · rw [q]; exact (R.r j).adv A
  · rw [q]; exact frz_rep hp hh hno (fun b i q => .inl q) (fun o ho => .inr ⟨rfl, ho⟩) 12 _ _ (R.r j)
/-- Two boxes that are not written any more. -/
theorem t_boxes {n n2 N : Nat} {x : AV} {row : List AV} {t : List (Nat × AV)} {FI : List (Nat × Ent)} (hx : noid 12 x = true) (hrow : row.all (noid 12) = true) (g6 : get t 6 = .ptr (n + 1) 0 0) (g5 : get t 5 = .ptr n 0 0)
    (h : T E f K ⟨(6, .ip [x] 0) :: (5, .ip row 0) :: t, N, ⟨FI, n2⟩⟩ X) : T E f K ⟨t, N, ⟨(n + 1, .rows 1 [[x]]) :: (n, .rows 5 [row]) :: FI, n2⟩⟩ X := by
  have hn : ¬ n + 1 = n := by omega
  refine t_freeze (S := ⟨t, N, ⟨(n + 1, .rows 1 [[x]]) :: (n, .rows 5 [row]) :: FI, n2⟩⟩) n (k := 5) (l := [row]) (t' := (5, .ip row 0) :: t) (by simp [look, Ent.plain]) (by simp [hrow]) (fun j => ?_) ?_
  · rw [get_cons]
    by_cases q : 5 = j
    · subst q
      rw [if_pos rfl]
      refine .inr ?_
      show _ = frz n 5 [row] 12 (get t 5)
      rw [g5]
      simp [frz]
    · rw [if_neg q]; exact .inl rfl
  have hr : rmv ((n + 1, Ent.rows 1 [[x]]) :: (n, .rows 5 [row]) :: FI) n = (n + 1, .rows 1 [[x]]) :: FI := by
    simp only [rmv, if_neg hn, if_pos]
  simp only [hr]
  refine t_freeze (S := ⟨(5, .ip row 0) :: t, N, ⟨(n + 1, .rows 1 [[x]]) :: FI, n2⟩⟩) (n + 1) (k := 1) (l := [[x]]) (t' := (6, .ip [x] 0) :: (5, .ip row 0) :: t) (by simp [look, Ent.plain]) (by simp [hx]) (fun j => ?_) ?_
  · rw [get_cons]
    by_cases q : 6 = j
    · subst q
      rw [if_pos rfl]
      refine .inr ?_
      show _ = frz (n + 1) 1 [[x]] 12 (get ((5, .ip row 0) :: t) 6)
      rw [get_cons, if_neg (by omega), g6]
      simp [frz]
    · rw [if_neg q]; exact .inl rfl
  have hr2 : rmv ((n + 1, Ent.rows 1 [[x]]) :: FI) (n + 1) = FI := by simp only [rmv, if_pos]
  simp only [hr2]
  exact h
/-- A variable that holds a slice, both not written any more. -/
theorem t_lcell (d : Nat) {c id kk M n2 N : Nat} {rows : List (List AV)} {t : List (Nat × AV)} {C C' : List (Nat × Ent)} (hne : ¬ c = id) (hl : look C id = some (.rows kk rows)) (hr : rmv C id = C') (hf : frzC id kk rows C' = C') (hno : rows.all (fun row => row.all (noid 12)) = true) (hM : rows.length = M) (hd : get t d = .ptr c 0 0)
    (h : T E f K ⟨(d, .ip [.isl true kk rows] 0) :: t, N, ⟨C', n2⟩⟩ X) : T E f K ⟨t, N, ⟨(c, .rows 1 [[.osl id 0 M]]) :: C, n2⟩⟩ X := by
  refine t_freezeF (S := ⟨t, N, ⟨(c, .rows 1 [[.osl id 0 M]]) :: C, n2⟩⟩) id (k := kk) (l := rows) (t' := t) (by simp only [look]; rw [if_neg hne]; exact hl) hno (fun j => .inl rfl) ?_
  have h1 : rmv ((c, Ent.rows 1 [[.osl id 0 M]]) :: C) id = (c, .rows 1 [[.osl id 0 M]]) :: C' := by simp only [rmv, if_neg hne, hr]
  have h2 : frzC id kk rows ((c, .rows 1 [[.osl id 0 M]]) :: C') = (c, .rows 1 [[.isl true kk rows]]) :: C' := by
    rw [frzC_rows, hf]
    simp only [frzR, List.map_cons, List.map_nil, frz]
    rw [if_pos ⟨trivial, by omega⟩, List.drop_zero, ← hM, List.take_length]
  simp only [h1, h2]
  refine t_freeze (S := ⟨t, N, ⟨(c, .rows 1 [[.isl true kk rows]]) :: C', n2⟩⟩) c (k := 1) (l := [[.isl true kk rows]]) (t' := (d, .ip [.isl true kk rows] 0) :: t) (by simp [look, Ent.plain]) rfl (fun j => ?_) ?_
  · rw [get_cons]
    by_cases q : d = j
    · subst q
      rw [if_pos rfl]
      refine .inr ?_
      show _ = frz c 1 _ 12 (get t d)
      rw [hd]
      simp [frz]
    · rw [if_neg q]; exact .inl rfl
  have hr2 : rmv ((c, Ent.rows 1 [[.isl true kk rows]]) :: C') c = C' := by simp only [rmv, if_pos]
  simp only [hr2]
  exact h
end
/-- The names that the finder knows behind the days of a set. -/
def Fs.add : Fs → List (List UInt8) → List (List UInt8)
  | .leaf k _ _ nm, L => if k = 1 ∨ k = 2 then addN L nm else L
  | .one k _ _ nm x, L => if k = 12 then x.add (addN L nm) else x.add L
  | .two _ _ _ _ x y, L => y.add (x.add L)
theorem addN_len (L : List (List UInt8)) (s : List UInt8) : (addN L s).length ≤ L.length + 1 := by
  unfold addN
  split
  · omega
  · simp
theorem Fs.add_len : ∀ (t : Fs) (L : List (List UInt8)), (t.add L).length ≤ L.length + t.size
  | .leaf k _ _ nm, L => by
    simp only [Fs.add, Fs.size]
    split
    · exact addN_len L nm
    · omega
  | .one k _ _ nm x, L => by
    simp only [Fs.add, Fs.size]
    split
    · have := x.add_len (addN L nm); have := addN_len L nm; omega
    · have := x.add_len L; omega
  | .two _ _ _ _ x y, L => by
    simp only [Fs.add, Fs.size]
    have := x.add_len L; have := y.add_len (x.add L); omega
/-- What is proved of the days of a set. -/
def DaysOk (m : Int) (t : Fs) : Prop := ∀ (lo hi : Int) (N : Nat), hi - lo + 1 = N → -90000000 + 1000 * t.depth ≤ lo → lo ≤ 90000000 - 1000 * (t.depth : Int) → N + 1000 * t.depth ≤ 90000 → 1 ≤ N → ∀ (L : List (List UInt8)), L.length + t.size ≤ 10000 → ∀ (fid b n : Nat), fid < b → b + 2 ≤ n →
  ∃ id b' n', n ≤ id ∧ id < n' ∧ id ≠ b' ∧ id ≠ b' + 1 ∧ (b' = b ∨ n ≤ b') ∧ fid < b' ∧ b' + 2 ≤ n' ∧ n ≤ n' ∧
    MeetsH (EW m) 33 [.ptr fid 0 0, .agg t.row, .i .i64 lo, .i .i64 hi] ⟨finI fid L b (b + 1), n⟩ (Is (.ret (.osl id 0 N)) ⟨(id, .rows 1 (boL (t.on dN) lo N N)) :: finI fid (t.add L) b' (b' + 1), n'⟩)
theorem MeetsH.subI {E : Env} {f : FuncId} {args : List AV} {h h1 : Hp} {o : Out} (hm : MeetsH E f args h (fun o' h0 => o' = o ∧ Sub h1 h0)) : MeetsH E f args h (Is o h1) :=
  hm.forget fun o' h0 q => ⟨_, q.2, q.1, rfl⟩
set_option maxRecDepth 100000 in
set_option maxHeartbeats 4000000 in
theorem days3 {k a b : Int} {nm : List UInt8} (hk : k = 3 ∨ k = 4 ∨ k = 5 ∨ k = 6) (h4 : k = 4 → 1 ≤ a ∧ a ≤ 100000 ∧ 0 ≤ b ∧ b < a) : DaysOk m (.leaf k a b nm) := by
  intro lo hi N hN b1 b2 b3 b4 L hL fid bb n hb hn
  simp only [Fs.depth, Fs.size] at b1 b2 b3 hL
  refine ⟨n + 2, bb, n + 4, by omega, by omega, by omega, by omega, .inl rfl, by omega, by omega, by omega, MeetsH.subI ?_⟩
  rw [show Fs.add (.leaf k a b nm) L = L from if_neg (by omega)]
  have z0 := boL_zero (Fs.on dN (.leaf k a b nm)) lo N
  have z1 := boL_zero (fun day => if k = 3 then decide ((day - 1) % 7 = a) else if k = 4 then decide ((day - b) % a = 0) else if k = 5 then decide (day = a) else (decide (a ≤ day) && decide (day ≤ b))) lo N
  have hfin : (fun x => decide (chkDay x = 0) && (fun day => if k = 3 then decide ((day - 1) % 7 = a) else if k = 4 then decide ((day - b) % a = 0) else if k = 5 then decide (day = a) else (decide (a ≤ day) && decide (day ≤ b))) x) = Fs.on dN (.leaf k a b nm) := by
    funext x
    simp only [Fs.on]
    rw [if_neg (show ¬ (k = 1 ∨ k = 2) by omega)]
  have heach := fun g caps hg hc hin => MeetsH.frameR (finI fid L bb (bb + 1)) (eachP (m := m) (G := fun day => if k = 3 then decide ((day - 1) % 7 = a) else if k = 4 then decide ((day - b) % a = 0) else if k = 5 then decide (day = a) else (decide (a ≤ day) && decide (day ≤ b))) (lo := lo) (N := N) (g := g) (caps := caps) hg hc (by omega) (by omega) (by omega) (oc := n + 1 + 1 + 1) (ob := n + 1 + 1) (n := n + 1 + 1 + 1 + 1) (by omega) hin)
  rw [hfin] at heach
  simp only [List.cons_append, List.nil_append] at heach
  rw [z1] at heach
  simp only [Fs.row]
  generalize hFI : finI fid L bb (bb + 1) = FI at *
  generalize boL (Fs.on dN (.leaf k a b nm)) lo N N = BL at *
  obtain ⟨i1, hi1, hb1⟩ := Option.map_eq_some_iff.1 (show (Tryz.prog.info? 4).map (·.bytes) = some 1 by kernel_rfl)
  have w1 : (1 : Int) * N ≤ 70368744177664 := by omega
  have w2 : (N : Int) ≤ 9223372036854775807 := by omega
  have w0 : hi - lo + 1 = (N : Int) := hN
  clear z0 z1 hfin hFI hn hb hL
  rcases hk with rfl | rfl | rfl | rfl
  · have he := heach 47 [.ip [.i .i64 3, .i .i64 a, .i .i64 b, .s nm, .isl false 5 []] 0] (by decide) rfl (fun i hi _ => by
      simp only [↓reduceIte]; exact inWeekday rfl (by omega) (by omega) (lo := 0) (by omega) (by omega))
    clear heach
    refine meetsH (E := (EW m)) 211 [.tmp 8] Tryz.func33 rfl (by decide) rfl rfl (by simp) ?_
    repeat' first | (with_reducible refine t_boxes (t := _) rfl rfl rfl rfl ?_) | ((with_reducible refine wr_isCall ?_); refine wr_ret he ?_) | (with_reducible first | refine t_seq ?_ | refine t_skip ?_ | refine t_ret ?_ | refine t_end ?_ | refine t_cond ?_ | refine t_region ?_ | refine wr_done ?_ | refine WD.done _ ?_ | refine wdp_done ?_ | refine tr_some ?_ | refine t_inBlock ?_) | ((with_reducible refine t_isDraw ?_); refine t_draw rfl (by kernel_rfl) ?_) | ((fail_if_success with_reducible refine t_bl ?_); (with_reducible refine t_block ?_)) | ((with_reducible refine t_isExit ?_); refine t_exit rfl ?_) | simp only [decide_eq_true_eq, decide_eq_false_iff_not, Bool.not_eq_true', Bool.not_eq_false'] at * | simp (disch := omega) only [go_sem, Nat.reduceLT, Nat.reduceEqDiff, Nat.reduceAdd, Nat.reduceLeDiff, Nat.reduceMul, Int.reduceLT, Int.reduceLE, Int.reduceAdd, Int.reduceSub, Int.reduceNeg, Int.reduceToNat, Int.reduceBEq, Int.reduceEq, reduceCtorEq, ↓reduceIte, *] | (with_reducible first | refine tb_true ?_ | refine tb_false ?_) | ((with_reducible first | refine tb_split ?_ ?_ | refine wg_f ?_ ?_ | refine wg_t ?_ ?_ | refine wd_f ?_ ?_ | refine wd_t ?_ ?_) <;> intro _)
    exact Sub.of (.cons _ (List.Sublist.refl _)) (by omega)
  · have he := heach 48 [.ip [.i .i64 4, .i .i64 a, .i .i64 b, .s nm, .isl false 5 []] 0] (by decide) rfl (fun i hi _ => by
      have := h4 rfl; simp only [show ¬ (4 : Int) = 3 by decide, ↓reduceIte]; exact inEvery rfl (by omega) (by omega) (lo := 0) (by omega) (by omega) this.1 this.2.1 this.2.2.1 this.2.2.2)
    clear heach
    refine meetsH (E := (EW m)) 211 [.tmp 8] Tryz.func33 rfl (by decide) rfl rfl (by simp) ?_
    repeat' first | (with_reducible refine t_boxes (t := _) rfl rfl rfl rfl ?_) | ((with_reducible refine wr_isCall ?_); refine wr_ret he ?_) | (with_reducible first | refine t_seq ?_ | refine t_skip ?_ | refine t_ret ?_ | refine t_end ?_ | refine t_cond ?_ | refine t_region ?_ | refine wr_done ?_ | refine WD.done _ ?_ | refine wdp_done ?_ | refine tr_some ?_ | refine t_inBlock ?_) | ((with_reducible refine t_isDraw ?_); refine t_draw rfl (by kernel_rfl) ?_) | ((fail_if_success with_reducible refine t_bl ?_); (with_reducible refine t_block ?_)) | ((with_reducible refine t_isExit ?_); refine t_exit rfl ?_) | simp only [decide_eq_true_eq, decide_eq_false_iff_not, Bool.not_eq_true', Bool.not_eq_false'] at * | simp (disch := omega) only [go_sem, Nat.reduceLT, Nat.reduceEqDiff, Nat.reduceAdd, Nat.reduceLeDiff, Nat.reduceMul, Int.reduceLT, Int.reduceLE, Int.reduceAdd, Int.reduceSub, Int.reduceNeg, Int.reduceToNat, Int.reduceBEq, Int.reduceEq, reduceCtorEq, ↓reduceIte, *] | (with_reducible first | refine tb_true ?_ | refine tb_false ?_) | ((with_reducible first | refine tb_split ?_ ?_ | refine wg_f ?_ ?_ | refine wg_t ?_ ?_ | refine wd_f ?_ ?_ | refine wd_t ?_ ?_) <;> intro _)
    exact Sub.of (.cons _ (List.Sublist.refl _)) (by omega)
  · have he := heach 49 [.ip [.i .i64 5, .i .i64 a, .i .i64 b, .s nm, .isl false 5 []] 0] (by decide) rfl (fun i hi _ => by
      simp only [show ¬ (5 : Int) = 3 by decide, show ¬ (5 : Int) = 4 by decide, ↓reduceIte]; exact inDay rfl (by omega) (by omega) (lo := 0) (by omega) (by omega))
    clear heach
    refine meetsH (E := (EW m)) 211 [.tmp 8] Tryz.func33 rfl (by decide) rfl rfl (by simp) ?_
    repeat' first | (with_reducible refine t_boxes (t := _) rfl rfl rfl rfl ?_) | ((with_reducible refine wr_isCall ?_); refine wr_ret he ?_) | (with_reducible first | refine t_seq ?_ | refine t_skip ?_ | refine t_ret ?_ | refine t_end ?_ | refine t_cond ?_ | refine t_region ?_ | refine wr_done ?_ | refine WD.done _ ?_ | refine wdp_done ?_ | refine tr_some ?_ | refine t_inBlock ?_) | ((with_reducible refine t_isDraw ?_); refine t_draw rfl (by kernel_rfl) ?_) | ((fail_if_success with_reducible refine t_bl ?_); (with_reducible refine t_block ?_)) | ((with_reducible refine t_isExit ?_); refine t_exit rfl ?_) | simp only [decide_eq_true_eq, decide_eq_false_iff_not, Bool.not_eq_true', Bool.not_eq_false'] at * | simp (disch := omega) only [go_sem, Nat.reduceLT, Nat.reduceEqDiff, Nat.reduceAdd, Nat.reduceLeDiff, Nat.reduceMul, Int.reduceLT, Int.reduceLE, Int.reduceAdd, Int.reduceSub, Int.reduceNeg, Int.reduceToNat, Int.reduceBEq, Int.reduceEq, reduceCtorEq, ↓reduceIte, *] | (with_reducible first | refine tb_true ?_ | refine tb_false ?_) | ((with_reducible first | refine tb_split ?_ ?_ | refine wg_f ?_ ?_ | refine wg_t ?_ ?_ | refine wd_f ?_ ?_ | refine wd_t ?_ ?_) <;> intro _)
    exact Sub.of (.cons _ (List.Sublist.refl _)) (by omega)
  · have he := heach 50 [.ip [.i .i64 6, .i .i64 a, .i .i64 b, .s nm, .isl false 5 []] 0] (by decide) rfl (fun i hi _ => by
      simp only [show ¬ (6 : Int) = 3 by decide, show ¬ (6 : Int) = 4 by decide, show ¬ (6 : Int) = 5 by decide, ↓reduceIte]; exact inBetween rfl (by omega) (by omega) (lo := 0) (by omega) (by omega))
    clear heach
    refine meetsH (E := (EW m)) 211 [.tmp 8] Tryz.func33 rfl (by decide) rfl rfl (by simp) ?_
    repeat' first | (with_reducible refine t_boxes (t := _) rfl rfl rfl rfl ?_) | ((with_reducible refine wr_isCall ?_); refine wr_ret he ?_) | (with_reducible first | refine t_seq ?_ | refine t_skip ?_ | refine t_ret ?_ | refine t_end ?_ | refine t_cond ?_ | refine t_region ?_ | refine wr_done ?_ | refine WD.done _ ?_ | refine wdp_done ?_ | refine tr_some ?_ | refine t_inBlock ?_) | ((with_reducible refine t_isDraw ?_); refine t_draw rfl (by kernel_rfl) ?_) | ((fail_if_success with_reducible refine t_bl ?_); (with_reducible refine t_block ?_)) | ((with_reducible refine t_isExit ?_); refine t_exit rfl ?_) | simp only [decide_eq_true_eq, decide_eq_false_iff_not, Bool.not_eq_true', Bool.not_eq_false'] at * | simp (disch := omega) only [go_sem, Nat.reduceLT, Nat.reduceEqDiff, Nat.reduceAdd, Nat.reduceLeDiff, Nat.reduceMul, Int.reduceLT, Int.reduceLE, Int.reduceAdd, Int.reduceSub, Int.reduceNeg, Int.reduceToNat, Int.reduceBEq, Int.reduceEq, reduceCtorEq, ↓reduceIte, *] | (with_reducible first | refine tb_true ?_ | refine tb_false ?_) | ((with_reducible first | refine tb_split ?_ ?_ | refine wg_f ?_ ?_ | refine wg_t ?_ ?_ | refine wd_f ?_ ?_ | refine wd_t ?_ ?_) <;> intro _)
    exact Sub.of (.cons _ (List.Sublist.refl _)) (by omega)
end Go.Proofs.YthahgmncnbeddaaGreatDoorA
