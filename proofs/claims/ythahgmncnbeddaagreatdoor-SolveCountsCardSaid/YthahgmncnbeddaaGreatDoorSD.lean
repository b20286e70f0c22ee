/- The finder's days: kinds that look at dates. -/
import Derived.Test.YthahgmncnbeddaaGreatDoorSC
set_option linter.unusedVariables false
set_option linter.unusedSimpArgs false
namespace Go.Proofs.YthahgmncnbeddaaGreatDoorA
open Go Go.RowKit Go.Proofs.YthahgmncnbeddaaGreatDoorFx Go.Proofs
attribute [local go_sem] List.take_succ_cons List.take_zero List.take_nil List.drop_succ_cons List.drop_nil List.cons_append List.nil_append List.set_cons_zero List.set_cons_succ
variable {m : Int}
theorem frzR_rep (id k : Nat) (l : List (List AV)) (N : Nat) (x : Bool) : frzR id k l (List.replicate N [.b x]) = List.replicate N [.b x] := by simp [frzR, frz]
theorem daL_noid (D : Int → Int × Int × Int) (lo : Int) (N : Nat) : ((daL D lo N N).all fun row => row.all (noid 12)) = true := by
  refine List.all_eq_true.2 fun row hr => ?_
  obtain ⟨i, _, rfl⟩ := List.mem_map.1 hr
  split <;> rfl
set_option maxRecDepth 100000 in
set_option maxHeartbeats 4000000 in
theorem days1 {k a b : Int} {nm : List UInt8} (hk : k = 1 ∨ k = 2) (hnm : ¬ Unknown nm) : DaysOk m (.leaf k a b nm) := by
  intro lo hi N hN b1 b2 b3 b4 L hL fid bb n hb hn
  simp only [Fs.depth, Fs.size] at b1 b2 b3 hL
  refine ⟨n + 2, n + 1 + 1 + 1 + 1 + 6, n + 1 + 1 + 1 + 1 + 11 + N + 1, by omega, by omega, by omega, by omega, .inr (by omega), by omega, by omega, by omega, MeetsH.subI ?_⟩
  rw [show Fs.add (.leaf k a b nm) L = addN L nm from if_pos hk]
  have hdt := (datesP (m := m) hnm (L := L) (by omega) hN (by omega) (by omega) (by omega) (fid := fid) (b := bb) (n := n + 1 + 1 + 1 + 1) hb (by omega)).frameI [(n + 1 + 1 + 1, .rows 1 [[.osl (n + 1 + 1) 0 N]]), (n + 1 + 1, .rows 1 (List.replicate N [.b false]))]
  have z1 := boL_zero (fun day => decide ((dN nm day).2.1 = a) && (decide (k = 2) || decide ((dN nm day).2.2 = b))) lo N
  have hfin : (fun x => decide (chkDay x = 0) && (fun day => decide ((dN nm day).2.1 = a) && (decide (k = 2) || decide ((dN nm day).2.2 = b))) x) = Fs.on dN (.leaf k a b nm) := by
    funext x
    simp only [Fs.on]
    rw [if_pos hk]
  have heach := fun g caps hg hc hin => MeetsH.frameR (finI fid (addN L nm) (n + 1 + 1 + 1 + 1 + 6) (n + 1 + 1 + 1 + 1 + 7)) (eachP (m := m) (G := fun day => decide ((dN nm day).2.1 = a) && (decide (k = 2) || decide ((dN nm day).2.2 = b))) (lo := lo) (N := N) (g := g) (caps := caps) hg hc (by omega) (by omega) (by omega) (oc := n + 1 + 1 + 1) (ob := n + 1 + 1) (n := n + 1 + 1 + 1 + 1 + 11 + N + 1) (by omega) hin)
  rw [hfin] at heach
  simp only [List.cons_append, List.nil_append] at heach hdt
  rw [z1] at heach
  have hDat : ∀ i, i < N → (daL (dN nm) lo N N)[i]? = some (daR (dN nm (lo + i))) := fun i hi => by
    simp [daL, hi]
  have hDno := daL_noid (dN nm) lo N
  have hDl := daL_len (dN nm) lo N N
  have hF1 : ∀ kk l, frzC (n + 1 + 1 + 1 + 1 + 9) kk l (finI fid (addN L nm) (n + 1 + 1 + 1 + 1 + 6) (n + 1 + 1 + 1 + 1 + 7)) = finI fid (addN L nm) (n + 1 + 1 + 1 + 1 + 6) (n + 1 + 1 + 1 + 1 + 7) := fun kk l => frzC_fin (by omega) (by omega)
  have hF2 : rmv (finI fid (addN L nm) (n + 1 + 1 + 1 + 1 + 6) (n + 1 + 1 + 1 + 1 + 7)) (n + 1 + 1 + 1 + 1 + 9) = finI fid (addN L nm) (n + 1 + 1 + 1 + 1 + 6) (n + 1 + 1 + 1 + 1 + 7) := rmv_fin (by omega) (by omega) (by omega)
  simp only [Fs.row]
  generalize daL (dN nm) lo N N = D at *
  have he := heach 46 [.ip [.isl true 3 D] 0, .ip [.i .i64 lo] 0, .ip [.i .i64 k, .i .i64 a, .i .i64 b, .s nm, .isl false 5 []] 0] (by decide) rfl (fun i hi _ => by
    have := hDat i hi
    exact inDate rfl (by omega) (by omega) (by omega) (by omega) (by omega) (by rw [show (lo + (i : Int) - lo).toNat = i by omega]; exact this))
  clear heach hDat
  generalize finI fid L bb (bb + 1) = FI at *
  show MeetsH _ _ _ _ (fun o' h0 => o' = _ ∧ Sub ⟨(n + 2, _) :: finI fid (addN L nm) (n + 1 + 1 + 1 + 1 + 6) (n + 1 + 1 + 1 + 1 + 7), _⟩ h0)
  generalize finI fid (addN L nm) (n + 1 + 1 + 1 + 1 + 6) (n + 1 + 1 + 1 + 1 + 7) = FI2 at *
  generalize boL (Fs.on dN (.leaf k a b nm)) lo N N = BL at *
  obtain ⟨i1, hi1, hb1⟩ := Option.map_eq_some_iff.1 (show (Tryz.prog.info? 4).map (·.bytes) = some 1 by kernel_rfl)
  have w1 : (1 : Int) * N ≤ 70368744177664 := by omega
  have w2 : (N : Int) ≤ 9223372036854775807 := by omega
  have w0 : hi - lo + 1 = (N : Int) := hN
  have q1 : ¬ n + 1 + 1 + 1 + 1 + 11 + N = n + 1 + 1 + 1 + 1 + 9 := by omega
  have q2 : ¬ n + 1 + 1 + 1 = n + 1 + 1 + 1 + 1 + 9 := by omega
  have q3 : ¬ n + 1 + 1 = n + 1 + 1 + 1 + 1 + 9 := by omega
  have q4 : ¬ n + 1 + 1 + 1 + 1 + 11 + N = n + 1 + 1 + 1 := by omega
  have q5 : ¬ n + 1 + 1 + 1 + 1 + 11 + N = n + 1 + 1 := by omega
  clear z1 hfin hn hb hL
  have hFz := hF1 3 D
  clear hF1
  rcases hk with rfl | rfl
  all_goals
    refine meetsH (E := (EW m)) 211 [.tmp 8] Tryz.func33 rfl (by decide) rfl rfl (by simp) ?_
    repeat' first | (with_reducible refine t_boxes (t := _) rfl rfl rfl rfl ?_) | (with_reducible refine t_lcell 11 (C' := (n + 1 + 1 + 1, .rows 1 [[.osl (n + 1 + 1) 0 N]]) :: (n + 1 + 1, .rows 1 (List.replicate N [.b false])) :: FI2) (kk := 3) q1 (by simp [look, Ent.plain, q2, q3]) (by simp [rmv, q2, q3, hF2]) (by simp [frzC_rows, frzR_rep, hFz]; simp [frzR, frz, q3]) hDno hDl rfl ?_) | ((with_reducible refine wr_isCall ?_); first | refine wr_ret he ?_ | refine wr_ret hdt ?_) | (with_reducible first | refine t_seq ?_ | refine t_skip ?_ | refine t_ret ?_ | refine t_end ?_ | refine t_cond ?_ | refine t_region ?_ | refine wr_done ?_ | refine WD.done _ ?_ | refine wdp_done ?_ | refine tr_some ?_ | refine t_inBlock ?_) | ((with_reducible refine t_isDraw ?_); refine t_draw rfl (by kernel_rfl) ?_) | ((fail_if_success with_reducible refine t_bl ?_); (with_reducible refine t_block ?_)) | ((with_reducible refine t_isExit ?_); refine t_exit rfl ?_) | simp only [decide_eq_true_eq, decide_eq_false_iff_not, Bool.not_eq_true', Bool.not_eq_false'] at * | simp (disch := omega) only [go_sem, Nat.reduceLT, Nat.reduceEqDiff, Nat.reduceAdd, Nat.reduceLeDiff, Nat.reduceMul, Int.reduceLT, Int.reduceLE, Int.reduceAdd, Int.reduceSub, Int.reduceNeg, Int.reduceToNat, Int.reduceBEq, Int.reduceEq, reduceCtorEq, ↓reduceIte, *] | (with_reducible first | refine tb_true ?_ | refine tb_false ?_) | ((with_reducible first | refine tb_split ?_ ?_ | refine wg_f ?_ ?_ | refine wg_t ?_ ?_ | refine wd_f ?_ ?_ | refine wd_t ?_ ?_) <;> intro _)
    exact Sub.of (.cons _ (List.Sublist.refl _)) (by omega)
end Go.Proofs.YthahgmncnbeddaaGreatDoorA
/- The finder's days: a set that is shifted. -/
set_option linter.unusedVariables false
set_option linter.unusedSimpArgs false
namespace Go.Proofs.YthahgmncnbeddaaGreatDoorA
open Go Go.RowKit Go.Proofs.YthahgmncnbeddaaGreatDoorFx Go.Proofs
attribute [local go_sem] List.take_succ_cons List.take_zero List.take_nil List.drop_succ_cons List.drop_nil List.cons_append List.nil_append List.set_cons_zero List.set_cons_succ
variable {m : Int}
theorem boL_noid (g : Int → Bool) (lo : Int) (j N : Nat) : ((boL g lo j N).all fun row => row.all (noid 12)) = true := by
  refine List.all_eq_true.2 fun row hr => ?_
  obtain ⟨i, _, rfl⟩ := List.mem_map.1 hr
  rfl
set_option maxRecDepth 100000 in
set_option maxHeartbeats 4000000 in
theorem days7 {a b : Int} {nm : List UInt8} {x : Fs} (ha1 : -400 ≤ a) (ha2 : a ≤ 400) (ih : DaysOk m x) : DaysOk m (.one 7 a b nm x) := by
  intro lo hi N hN b1 b2 b3 b4 L hL fid bb n hb hn
  have hd := x.depth
  simp only [Fs.depth, Fs.size] at b1 b2 b3 hL
  obtain ⟨id1, c1, n1, p1, p2, p3, p4, p0, p5, p6, p7, h1⟩ := ih (lo - a) (hi - a) N (by omega) (by omega) (by omega) (by omega) b4 L (by omega) fid bb (n + 1 + 1 + 1 + 1) hb (by omega)
  obtain ⟨id2, c2, n2, r1, r2, r3, r4, r0, r5, r6, r7, h2⟩ := ih (lo - a) (hi - a) N (by omega) (by omega) (by omega) (by omega) b4 L (by omega) fid bb (n + 1 + 1 + 1 + 1 + 1) hb (by omega)
  have ha : Fs.add (.one 7 a b nm x) L = x.add L := if_neg (by decide)
  refine ⟨n + 2, n1 + n2 + 1, n1 + n2 + 3, by omega, by omega, by omega, by omega, .inr (by omega), by omega, by omega, by omega, ?_⟩
  rw [ha]
  refine MeetsH.canon (v := .osl (n + 2) 0 N) (o1 := [(n + 2, .rows 1 (boL (Fs.on dN (.one 7 a b nm x)) lo N N))]) (fid := fid) (nb := n1 + n2 + 1) (L := x.add L) ?_
  have k1 := h1.frameI [(n + 1 + 1 + 1, .rows 1 [[.osl (n + 1 + 1) 0 N]]), (n + 1 + 1, .rows 1 (List.replicate N [.b false]))]
  have k2 := h2.frameI [(n + 1 + 1 + 1 + 1, .rows 1 [[.nils]]), (n + 1 + 1 + 1, .rows 1 [[.osl (n + 1 + 1) 0 N]]), (n + 1 + 1, .rows 1 (List.replicate N [.b false]))]
  have z1 := boL_zero (fun day => x.on dN (day - a)) lo N
  have hfin : (fun y => decide (chkDay y = 0) && (fun day => x.on dN (day - a)) y) = Fs.on dN (.one 7 a b nm x) := by
    funext y
    simp only [Fs.on]
    rfl
  have heach := fun FI nn g caps hg hc hin => MeetsH.frameR FI (eachP (m := m) (G := fun day => x.on dN (day - a)) (lo := lo) (N := N) (g := g) (caps := caps) hg hc (by omega) (by omega) (by omega) (oc := n + 1 + 1 + 1) (ob := n + 1 + 1) (n := nn) (by omega) hin)
  rw [hfin] at heach
  simp only [List.cons_append, List.nil_append] at heach k1 k2
  rw [z1] at heach
  have hB := fun i (hi : i < N) => boL_at (g := x.on dN) (lo := lo - a) (j := N) hi
  have hBno := boL_noid (x.on dN) (lo - a) N N
  have hBl := boL_len (x.on dN) (lo - a) N N
  have f1 : ∀ kk l, frzC id1 kk l (finI fid (x.add L) c1 (c1 + 1)) = finI fid (x.add L) c1 (c1 + 1) := fun kk l => frzC_fin (by omega) (by omega)
  have f2 : rmv (finI fid (x.add L) c1 (c1 + 1)) id1 = finI fid (x.add L) c1 (c1 + 1) := rmv_fin (by omega) (by omega) (by omega)
  have g1 : ∀ kk l, frzC id2 kk l (finI fid (x.add L) c2 (c2 + 1)) = finI fid (x.add L) c2 (c2 + 1) := fun kk l => frzC_fin (by omega) (by omega)
  have g2 : rmv (finI fid (x.add L) c2 (c2 + 1)) id2 = finI fid (x.add L) c2 (c2 + 1) := rmv_fin (by omega) (by omega) (by omega)
  generalize boL (x.on dN) (lo - a) N N = B at *
  have he := fun FI nn => heach FI nn 51 [.ip [.isl true 1 B] 0, .ip [.i .i64 lo] 0] (by decide) rfl (fun i hi _ => by
    have := hB i hi
    simp only [hi, decide_true, Bool.true_and] at this
    rw [show lo - a + (i : Int) = lo + i - a by omega] at this
    exact inShift (ks := .b true) rfl (by omega) (by omega) (by omega) (by omega) (by omega) (by rw [show (lo + (i : Int) - lo).toNat = i by omega]; exact this))
  clear heach hB
  obtain ⟨xk, xa, xb, xn, xs, hx⟩ := x.row5
  simp only [Fs.row]
  rw [hx] at k1 k2 ⊢
  generalize finI fid L bb (bb + 1) = FI at *
  have s1 := he (finI fid (x.add L) c1 (c1 + 1)) (n1 + 1)
  have s2 := he (finI fid (x.add L) c2 (c2 + 1)) n2
  have t1 : ∃ i j, finI fid (x.add L) i j = finI fid (x.add L) c1 (c1 + 1) := ⟨_, _, rfl⟩
  have t2 : ∃ i j, finI fid (x.add L) i j = finI fid (x.add L) c2 (c2 + 1) := ⟨_, _, rfl⟩
  generalize finI fid (x.add L) c1 (c1 + 1) = F1 at *
  generalize finI fid (x.add L) c2 (c2 + 1) = F2 at *
  have u1 := f1 1 B
  have u2 := g1 1 B
  generalize boL (Fs.on dN (.one 7 a b nm x)) lo N N = BL at *
  obtain ⟨i1, hi1, hb1⟩ := Option.map_eq_some_iff.1 (show (Tryz.prog.info? 4).map (·.bytes) = some 1 by kernel_rfl)
  have w1 : (1 : Int) * N ≤ 70368744177664 := by omega
  have w2 : (N : Int) ≤ 9223372036854775807 := by omega
  have w0 : hi - lo + 1 = (N : Int) := hN
  have q1 : ¬ n + 1 + 1 + 1 = id1 := by omega
  have q2 : ¬ n + 1 + 1 = id1 := by omega
  have q3 : ¬ n1 = id1 := by omega
  have q4 : ¬ n + 1 + 1 + 1 = id2 := by omega
  have q5 : ¬ n + 1 + 1 = id2 := by omega
  have q6 : ¬ n + 1 + 1 + 1 + 1 = id2 := by omega
  have q7 : ¬ n1 = n + 1 + 1 + 1 := by omega
  have q8 : ¬ n1 = n + 1 + 1 := by omega
  clear he z1 hfin h1 h2 f1 g1 ih
  refine meetsH (E := (EW m)) 211 [.tmp 8] Tryz.func33 rfl (by decide) rfl rfl (by simp) ?_
  repeat' first | (with_reducible refine t_boxes (t := _) rfl rfl rfl rfl ?_) | (with_reducible first | refine t_seq ?_ | refine t_skip ?_ | refine t_ret ?_ | refine t_end ?_ | refine t_cond ?_ | refine t_region ?_ | refine wr_done ?_ | refine WD.done _ ?_ | refine wdp_done ?_ | refine tr_some ?_ | refine t_inBlock ?_) | ((fail_if_success with_reducible refine t_bl ?_); (with_reducible refine t_block ?_)) | ((with_reducible refine t_isExit ?_); refine t_exit rfl ?_) | simp only [decide_eq_true_eq, decide_eq_false_iff_not, Bool.not_eq_true', Bool.not_eq_false'] at * | simp (disch := omega) only [go_sem, Nat.reduceLT, Nat.reduceEqDiff, Nat.reduceAdd, Nat.reduceLeDiff, Nat.reduceMul, Int.reduceLT, Int.reduceLE, Int.reduceAdd, Int.reduceSub, Int.reduceNeg, Int.reduceToNat, Int.reduceBEq, Int.reduceEq, reduceCtorEq, ↓reduceIte, *] | (with_reducible first | refine tb_true ?_ | refine tb_false ?_) | ((with_reducible first | refine tb_split ?_ ?_ | refine wg_f ?_ ?_ | refine wg_t ?_ ?_ | refine wd_f ?_ ?_ | refine wd_t ?_ ?_) <;> intro _)
  refine t_paths 211 [13, 14, 15] [(⟨[(130, .ptr fid 0 0), (131, .ip [.i .i64 7, .i .i64 a, .i .i64 b, .s nm, .isl false 5 [[.i .i64 xk, .i .i64 xa, .i .i64 xb, .s xn, .isl false 5 xs]]] 4), (132, .isl false 5 [[.i .i64 xk, .i .i64 xa, .i .i64 xb, .s xn, .isl false 5 xs]]), (133, .ip [.i .i64 xk, .i .i64 xa, .i .i64 xb, .s xn, .isl false 5 xs] 0), (134, .agg [.i .i64 xk, .i .i64 xa, .i .i64 xb, .s xn, .isl false 5 xs]), (135, .i .i64 lo), (136, .ip [.i .i64 7, .i .i64 a, .i .i64 b, .s nm, .isl false 5 [[.i .i64 xk, .i .i64 xa, .i .i64 xb, .s xn, .isl false 5 xs]]] 1), (137, .i .i64 a), (138, .i .i64 (lo - a)), (139, .i .i64 hi), (140, .ip [.i .i64 7, .i .i64 a, .i .i64 b, .s nm, .isl false 5 [[.i .i64 xk, .i .i64 xa, .i .i64 xb, .s xn, .isl false 5 xs]]] 1), (141, .i .i64 a), (142, .i .i64 (hi - a)), (143, .osl id1 0 N), (12, .ptr (n1) 0 0)], [⟨(n + 1 + 1 + 1, .rows 1 [[.osl (n + 1 + 1) 0 N]]) :: (n + 1 + 1, .rows 1 (List.replicate N [.b false])) :: FI, n + 1 + 1 + 1 + 1⟩, ⟨(n + 1 + 1 + 1, .rows 1 [[.osl (n + 1 + 1) 0 N]]) :: (n + 1 + 1, .rows 1 (List.replicate N [.b false])) :: (id1, .rows 1 B) :: F1, n1⟩, ⟨(n1, .rows 1 [[.nils]]) :: (n + 1 + 1 + 1, .rows 1 [[.osl (n + 1 + 1) 0 N]]) :: (n + 1 + 1, .rows 1 (List.replicate N [.b false])) :: (id1, .rows 1 B) :: F1, n1 + 1⟩, ⟨(n1, .rows 1 [[.osl id1 0 N]]) :: (n + 1 + 1 + 1, .rows 1 [[.osl (n + 1 + 1) 0 N]]) :: (n + 1 + 1, .rows 1 (List.replicate N [.b false])) :: (id1, .rows 1 B) :: F1, n1 + 1⟩], [13, 14, 15]⟩, [(3, 3), (3, 3), (0, 0), (0, 0), (0, 0), (0, 0), (3, 3), (0, 0), (3, 3), (3, 3), (3, 3), (0, 0), (3, 3), (1, 0), (1, 0), (1, 0)]), (⟨[(130, .ptr fid 0 0), (131, .ip [.i .i64 7, .i .i64 a, .i .i64 b, .s nm, .isl false 5 [[.i .i64 xk, .i .i64 xa, .i .i64 xb, .s xn, .isl false 5 xs]]] 4), (132, .isl false 5 [[.i .i64 xk, .i .i64 xa, .i .i64 xb, .s xn, .isl false 5 xs]]), (133, .ip [.i .i64 xk, .i .i64 xa, .i .i64 xb, .s xn, .isl false 5 xs] 0), (134, .agg [.i .i64 xk, .i .i64 xa, .i .i64 xb, .s xn, .isl false 5 xs]), (135, .i .i64 lo), (136, .ip [.i .i64 7, .i .i64 a, .i .i64 b, .s nm, .isl false 5 [[.i .i64 xk, .i .i64 xa, .i .i64 xb, .s xn, .isl false 5 xs]]] 1), (137, .i .i64 a), (138, .i .i64 (lo - a)), (139, .i .i64 hi), (140, .ip [.i .i64 7, .i .i64 a, .i .i64 b, .s nm, .isl false 5 [[.i .i64 xk, .i .i64 xa, .i .i64 xb, .s xn, .isl false 5 xs]]] 1), (141, .i .i64 a), (142, .i .i64 (hi - a)), (143, .osl id2 0 N), (12, .ptr (n + 1 + 1 + 1 + 1) 0 0)], [⟨(n + 1 + 1 + 1, .rows 1 [[.osl (n + 1 + 1) 0 N]]) :: (n + 1 + 1, .rows 1 (List.replicate N [.b false])) :: FI, n + 1 + 1 + 1 + 1⟩, ⟨(n + 1 + 1 + 1 + 1, .rows 1 [[.nils]]) :: (n + 1 + 1 + 1, .rows 1 [[.osl (n + 1 + 1) 0 N]]) :: (n + 1 + 1, .rows 1 (List.replicate N [.b false])) :: FI, n + 1 + 1 + 1 + 1 + 1⟩, ⟨(n + 1 + 1 + 1 + 1, .rows 1 [[.nils]]) :: (n + 1 + 1 + 1, .rows 1 [[.osl (n + 1 + 1) 0 N]]) :: (n + 1 + 1, .rows 1 (List.replicate N [.b false])) :: (id2, .rows 1 B) :: F2, n2⟩, ⟨(n + 1 + 1 + 1 + 1, .rows 1 [[.osl id2 0 N]]) :: (n + 1 + 1 + 1, .rows 1 [[.osl (n + 1 + 1) 0 N]]) :: (n + 1 + 1, .rows 1 (List.replicate N [.b false])) :: (id2, .rows 1 B) :: F2, n2⟩], [14, 13, 15]⟩, [(3, 3), (3, 3), (0, 1), (0, 1), (0, 1), (0, 1), (3, 3), (0, 1), (3, 3), (3, 3), (3, 3), (0, 1), (3, 3), (1, 0), (1, 0), (1, 0)])] [[13, 14, 15], [14, 13, 15]] [[(3, 3), (3, 3), (0, 0), (0, 0), (0, 0), (0, 0), (3, 3), (0, 0), (3, 3), (3, 3), (3, 3), (0, 0), (3, 3), (1, 0), (1, 0), (1, 0)], [(3, 3), (3, 3), (0, 1), (0, 1), (0, 1), (0, 1), (3, 3), (0, 1), (3, 3), (3, 3), (3, 3), (0, 1), (3, 3), (1, 0), (1, 0), (1, 0)]] [[130, 131, 132, 133, 134, 135, 136, 137, 138, 139, 140, 141, 142, 143, 12], [130, 131, 132, 133, 134, 135, 136, 137, 138, 139, 140, 141, 142, 143, 12]] rfl (by kernel_rfl) rfl rfl rfl rfl ?_ ?_ ?_ ?_ ?_
  · intro p hp; simp only [List.mem_cons, List.not_mem_nil, or_false] at hp; rcases hp with rfl | rfl <;> rfl
  · intro p hp; simp only [List.mem_cons, List.not_mem_nil, or_false] at hp; rcases hp with rfl | rfl <;> rfl
  · intro p hp; simp only [List.mem_cons, List.not_mem_nil, or_false] at hp
    rcases hp with rfl | rfl
    all_goals simp (disch := omega) only [freeN, effN, FreeM, EffM, dstM, DP.st, get_cons, List.forall_mem_cons, List.forall_mem_nil, List.getElem?_cons_zero, List.getElem?_cons_succ, List.mem_cons, List.not_mem_nil, false_implies, implies_true, and_true, true_and, forall_eq, forall_eq_or_imp, or_false, OR.val.injEq, go_sem, Nat.reduceLT, Nat.reduceEqDiff, Nat.reduceAdd, Nat.reduceSub, Nat.reduceLeDiff, Nat.reduceMul, Int.reduceLT, Int.reduceLE, Int.reduceAdd, Int.reduceSub, Int.reduceNeg, Int.reduceToNat, Int.reduceBEq, Int.reduceEq, reduceCtorEq, List.take_succ_cons, List.take_zero, List.take_nil, List.drop_succ_cons, List.drop_zero, List.drop_nil, List.cons_append, List.nil_append, List.set_cons_zero, List.set_cons_succ, ↓reduceIte, *]
  · intro p hp; simp only [List.mem_cons, List.not_mem_nil, or_false] at hp
    rcases hp with rfl | rfl
    · simp (disch := omega) only [freeN, effN, FreeM, EffM, dstM, DP.st, get_cons, List.forall_mem_cons, List.forall_mem_nil, List.getElem?_cons_zero, List.getElem?_cons_succ, List.mem_cons, List.not_mem_nil, false_implies, implies_true, and_true, true_and, forall_eq, forall_eq_or_imp, or_false, OR.val.injEq, go_sem, Nat.reduceLT, Nat.reduceEqDiff, Nat.reduceAdd, Nat.reduceSub, Nat.reduceLeDiff, Nat.reduceMul, Int.reduceLT, Int.reduceLE, Int.reduceAdd, Int.reduceSub, Int.reduceNeg, Int.reduceToNat, Int.reduceBEq, Int.reduceEq, reduceCtorEq, List.take_succ_cons, List.take_zero, List.take_nil, List.drop_succ_cons, List.drop_zero, List.drop_nil, List.cons_append, List.nil_append, List.set_cons_zero, List.set_cons_succ, ↓reduceIte, q1, q2]
      exact ⟨_, k1, rfl⟩
    · simp (disch := omega) only [freeN, effN, FreeM, EffM, dstM, DP.st, get_cons, List.forall_mem_cons, List.forall_mem_nil, List.getElem?_cons_zero, List.getElem?_cons_succ, List.mem_cons, List.not_mem_nil, false_implies, implies_true, and_true, true_and, forall_eq, forall_eq_or_imp, or_false, OR.val.injEq, go_sem, Nat.reduceLT, Nat.reduceEqDiff, Nat.reduceAdd, Nat.reduceSub, Nat.reduceLeDiff, Nat.reduceMul, Int.reduceLT, Int.reduceLE, Int.reduceAdd, Int.reduceSub, Int.reduceNeg, Int.reduceToNat, Int.reduceBEq, Int.reduceEq, reduceCtorEq, List.take_succ_cons, List.take_zero, List.take_nil, List.drop_succ_cons, List.drop_zero, List.drop_nil, List.cons_append, List.nil_append, List.set_cons_zero, List.set_cons_succ, ↓reduceIte, q1, q2]
      exact ⟨_, k2, rfl⟩
  · intro p hp; simp only [List.mem_cons, List.not_mem_nil, or_false] at hp
    rcases hp with rfl | rfl
    all_goals intro g hg
    all_goals simp only [List.length_cons, List.length_nil, Nat.reduceAdd, List.getElem?_cons_zero, List.getElem?_cons_succ, Option.some.injEq] at hg
    all_goals subst hg
    all_goals unfold DP.st
    all_goals simp only [List.cons_append, List.nil_append]
    · clear s2 k1 k2
      repeat' first | (with_reducible refine t_lcell 12 (C' := (n + 1 + 1 + 1, .rows 1 [[.osl (n + 1 + 1) 0 N]]) :: (n + 1 + 1, .rows 1 (List.replicate N [.b false])) :: F1) (kk := 1) q3 (by simp [look, Ent.plain, q1, q2]) (by simp [rmv, q1, q2, f2]) (by simp [frzC_rows, frzR_rep, u1]; simp [frzR, frz, q2]) hBno hBl rfl ?_) | ((with_reducible refine wr_isCall ?_); refine wr_ret s1 ?_) | (with_reducible first | refine t_seq ?_ | refine t_skip ?_ | refine t_ret ?_ | refine t_end ?_ | refine t_cond ?_ | refine t_region ?_ | refine wr_done ?_ | refine WD.done _ ?_ | refine wdp_done ?_ | refine tr_some ?_ | refine t_inBlock ?_) | ((with_reducible refine t_isDraw ?_); refine t_draw rfl (by kernel_rfl) ?_) | ((fail_if_success with_reducible refine t_bl ?_); (with_reducible refine t_block ?_)) | ((with_reducible refine t_isExit ?_); refine t_exit rfl ?_) | simp only [decide_eq_true_eq, decide_eq_false_iff_not, Bool.not_eq_true', Bool.not_eq_false'] at * | simp (disch := omega) only [go_sem, Nat.reduceLT, Nat.reduceEqDiff, Nat.reduceAdd, Nat.reduceLeDiff, Nat.reduceMul, Int.reduceLT, Int.reduceLE, Int.reduceAdd, Int.reduceSub, Int.reduceNeg, Int.reduceToNat, Int.reduceBEq, Int.reduceEq, reduceCtorEq, ↓reduceIte, *] | (with_reducible first | refine tb_true ?_ | refine tb_false ?_) | ((with_reducible first | refine tb_split ?_ ?_ | refine wg_f ?_ ?_ | refine wg_t ?_ ?_ | refine wd_f ?_ ?_ | refine wd_t ?_ ?_) <;> intro _)
      obtain ⟨i, j, e⟩ := t1
      exact ⟨i, j, by rw [e]; exact Sub.of (.cons _ (List.Sublist.refl _)) (by omega)⟩
    · clear s1 k1 k2
      repeat' first | (with_reducible refine t_lcell 12 (C' := (n + 1 + 1 + 1, .rows 1 [[.osl (n + 1 + 1) 0 N]]) :: (n + 1 + 1, .rows 1 (List.replicate N [.b false])) :: F2) (kk := 1) q6 (by simp [look, Ent.plain, q4, q5]) (by simp [rmv, q4, q5, g2]) (by simp [frzC_rows, frzR_rep, u2]; simp [frzR, frz, q5]) hBno hBl rfl ?_) | ((with_reducible refine wr_isCall ?_); refine wr_ret s2 ?_) | (with_reducible first | refine t_seq ?_ | refine t_skip ?_ | refine t_ret ?_ | refine t_end ?_ | refine t_cond ?_ | refine t_region ?_ | refine wr_done ?_ | refine WD.done _ ?_ | refine wdp_done ?_ | refine tr_some ?_ | refine t_inBlock ?_) | ((with_reducible refine t_isDraw ?_); refine t_draw rfl (by kernel_rfl) ?_) | ((fail_if_success with_reducible refine t_bl ?_); (with_reducible refine t_block ?_)) | ((with_reducible refine t_isExit ?_); refine t_exit rfl ?_) | simp only [decide_eq_true_eq, decide_eq_false_iff_not, Bool.not_eq_true', Bool.not_eq_false'] at * | simp (disch := omega) only [go_sem, Nat.reduceLT, Nat.reduceEqDiff, Nat.reduceAdd, Nat.reduceLeDiff, Nat.reduceMul, Int.reduceLT, Int.reduceLE, Int.reduceAdd, Int.reduceSub, Int.reduceNeg, Int.reduceToNat, Int.reduceBEq, Int.reduceEq, reduceCtorEq, ↓reduceIte, *] | (with_reducible first | refine tb_true ?_ | refine tb_false ?_) | ((with_reducible first | refine tb_split ?_ ?_ | refine wg_f ?_ ?_ | refine wg_t ?_ ?_ | refine wd_f ?_ ?_ | refine wd_t ?_ ?_) <;> intro _)
      obtain ⟨i, j, e⟩ := t2
      exact ⟨i, j, by rw [e]; exact Sub.of (.cons _ (List.Sublist.refl _)) (by omega)⟩
end Go.Proofs.YthahgmncnbeddaaGreatDoorA
