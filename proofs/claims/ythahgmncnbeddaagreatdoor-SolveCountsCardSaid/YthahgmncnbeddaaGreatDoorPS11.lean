/- The finder's days: or, and, not. -/
import Derived.Test.YthahgmncnbeddaaGreatDoorSC
set_option linter.unusedVariables false
set_option linter.unusedSimpArgs false
namespace Go.Proofs.YthahgmncnbeddaaGreatDoorA
open Go Go.RowKit Go.Proofs.YthahgmncnbeddaaGreatDoorFx Go.Proofs
attribute [local go_sem] List.take_succ_cons List.take_zero List.take_nil List.drop_succ_cons List.drop_nil List.cons_append List.nil_append List.set_cons_zero List.set_cons_succ
variable {m : Int}
theorem boL_full {g : Int → Bool} {lo : Int} {N i : Nat} (h : i < N) : (boL g lo N N)[i]? = some [.b (g (lo + i))] := by
  rw [boL_at h]; simp [h]
set_option maxRecDepth 100000 in
set_option maxHeartbeats 8000000 in
theorem days9 {k a b : Int} {nm : List UInt8} {x y : Fs} (hk : k = 9 ∨ k = 10 ∨ k = 11) (ih : DaysOk m x) (jh : DaysOk m y) : DaysOk m (.two k a b nm x y) := by
  intro lo hi N hN b1 b2 b3 b4 L hL fid bb n hb hn
  simp only [Fs.depth, Fs.size] at b1 b2 b3 hL
  have hxl := x.add_len L
  obtain ⟨id1, c1, n1, p1, p2, p3, p4, p0, p5, p6, p7, h1⟩ := ih lo hi N hN (by omega) (by omega) (by omega) b4 L (by omega) fid bb (n + 1 + 1 + 1 + 1) hb (by omega)
  obtain ⟨id2, c2, n2, r1, r2, r3, r4, r0, r5, r6, r7, h2⟩ := jh lo hi N hN (by omega) (by omega) (by omega) b4 (x.add L) (by omega) fid c1 n1 p5 p6
  refine ⟨n + 2, c2, n2, by omega, by omega, by omega, by omega, by omega, by omega, by omega, by omega, MeetsH.subI ?_⟩
  rw [show Fs.add (.two k a b nm x y) L = y.add (x.add L) from rfl]
  have k1 := h1.frameI [(n + 1 + 1 + 1, .rows 1 [[.osl (n + 1 + 1) 0 N]]), (n + 1 + 1, .rows 1 (List.replicate N [.b false]))]
  have k2 := h2.frameI [(n + 1 + 1 + 1, .rows 1 [[.osl (n + 1 + 1) 0 N]]), (n + 1 + 1, .rows 1 (List.replicate N [.b false])), (id1, .rows 1 (boL (x.on dN) lo N N))]
  have z1 := boL_zero (Fs.on dN (.two k a b nm x y)) lo N
  simp only [List.cons_append, List.nil_append] at k1 k2
  have hA := fun i (hi : i < N) => boL_full (g := x.on dN) (lo := lo) hi
  have hB := fun i (hi : i < N) => boL_full (g := y.on dN) (lo := lo) hi
  have hAl := boL_len (x.on dN) lo N N
  have hBl := boL_len (y.on dN) lo N N
  have hOn : ∀ d, Fs.on dN (.two k a b nm x y) d = if k = 9 then x.on dN d || y.on dN d else if k = 10 then x.on dN d && y.on dN d else x.on dN d && !y.on dN d := fun d => rfl
  have hset := fun j (hj : j < N) => boL_set (g := Fs.on dN (.two k a b nm x y)) (lo := lo) hj
  have hlen := fun j => boL_len (Fs.on dN (.two k a b nm x y)) lo j N
  have hat := fun j (hj : j < N) => boL_at (g := Fs.on dN (.two k a b nm x y)) (lo := lo) (j := j) hj
  generalize boL (x.on dN) lo N N = BA at *
  generalize boL (y.on dN) lo N N = BB at *
  obtain ⟨xk, xa, xb, xn, xs, hx⟩ := x.row5
  obtain ⟨yk, ya, yb, yn, ys, hy⟩ := y.row5
  simp only [Fs.row]
  rw [hx] at k1 ⊢
  rw [hy] at k2 ⊢
  generalize finI fid L bb (bb + 1) = FI at *
  generalize finI fid (x.add L) c1 (c1 + 1) = F1 at *
  generalize finI fid (y.add (x.add L)) c2 (c2 + 1) = F2 at *
  generalize hOnG : Fs.on dN (.two k a b nm x y) = on at *
  obtain ⟨i1, hi1, hb1⟩ := Option.map_eq_some_iff.1 (show (Tryz.prog.info? 4).map (·.bytes) = some 1 by kernel_rfl)
  have w1 : (1 : Int) * N ≤ 70368744177664 := by omega
  have w2 : (N : Int) ≤ 9223372036854775807 := by omega
  have w0 : hi - lo + 1 = (N : Int) := hN
  have q1 : ¬ n + 1 + 1 + 1 = id1 := by omega
  have q2 : ¬ n + 1 + 1 = id1 := by omega
  have q3 : ¬ n + 1 + 1 + 1 = id2 := by omega
  have q4 : ¬ n + 1 + 1 = id2 := by omega
  have q5 : ¬ id1 = id2 := by omega
  have k9 : ¬ k = 1 := by omega
  have k10 : ¬ k = 2 := by omega
  have k11 : ¬ k = 3 := by omega
  have k12 : ¬ k = 4 := by omega
  have k13 : ¬ k = 5 := by omega
  have k14 : ¬ k = 6 := by omega
  have k15 : ¬ k = 7 := by omega
  have k16 : ¬ k = 8 := by omega
  have k17 : ¬ k = 12 := by omega
  have v1 : -90000000 ≤ lo := by omega
  have v2 : lo ≤ 90000000 := by omega
  have v3 : N ≤ 90000 := by omega
  clear h1 h2 ih jh hOnG p1 p2 p3 p4 p0 p5 p6 p7 r1 r2 r3 r4 r0 r5 r6 r7 b1 b2 b3 b4 hL hn hb hN hxl hx hy
  refine meetsH (E := (EW m)) 211 [.tmp 8] Tryz.func33 rfl (by decide) rfl rfl (by simp) ?_
  repeat' first | (with_reducible refine t_boxes (t := _) rfl rfl rfl rfl ?_) | (with_reducible first | refine t_seq ?_ | refine t_skip ?_ | refine t_ret ?_ | refine t_end ?_ | refine t_cond ?_ | refine t_region ?_ | refine wr_done ?_ | refine WD.done _ ?_ | refine wdp_done ?_ | refine tr_some ?_ | refine t_inBlock ?_) | ((fail_if_success with_reducible refine t_bl ?_); (with_reducible refine t_block ?_)) | ((with_reducible refine t_isExit ?_); refine t_exit rfl ?_) | simp only [decide_eq_true_eq, decide_eq_false_iff_not, Bool.not_eq_true', Bool.not_eq_false'] at * | simp (disch := omega) only [go_sem, Nat.reduceLT, Nat.reduceEqDiff, Nat.reduceAdd, Nat.reduceLeDiff, Nat.reduceMul, Int.reduceLT, Int.reduceLE, Int.reduceAdd, Int.reduceSub, Int.reduceNeg, Int.reduceToNat, Int.reduceBEq, Int.reduceEq, reduceCtorEq, ↓reduceIte, *] | (with_reducible first | refine tb_true ?_ | refine tb_false ?_) | ((with_reducible first | refine tb_split ?_ ?_ | refine wg_f ?_ ?_ | refine wg_t ?_ ?_ | refine wd_f ?_ ?_ | refine wd_t ?_ ?_) <;> intro _)
  refine t_paths 211 [7, 15] [(⟨[(28, .ptr fid 0 0), (29, .ip [.i .i64 k, .i .i64 a, .i .i64 b, .s nm, .isl false 5 [[.i .i64 xk, .i .i64 xa, .i .i64 xb, .s xn, .isl false 5 xs], [.i .i64 yk, .i .i64 ya, .i .i64 yb, .s yn, .isl false 5 ys]]] 4), (30, .isl false 5 [[.i .i64 xk, .i .i64 xa, .i .i64 xb, .s xn, .isl false 5 xs], [.i .i64 yk, .i .i64 ya, .i .i64 yb, .s yn, .isl false 5 ys]]), (31, .ip [.i .i64 xk, .i .i64 xa, .i .i64 xb, .s xn, .isl false 5 xs] 0), (32, .agg [.i .i64 xk, .i .i64 xa, .i .i64 xb, .s xn, .isl false 5 xs]), (33, .i .i64 lo), (34, .i .i64 hi), (35, .osl id1 0 N), (36, .ptr fid 0 0), (37, .ip [.i .i64 k, .i .i64 a, .i .i64 b, .s nm, .isl false 5 [[.i .i64 xk, .i .i64 xa, .i .i64 xb, .s xn, .isl false 5 xs], [.i .i64 yk, .i .i64 ya, .i .i64 yb, .s yn, .isl false 5 ys]]] 4), (38, .isl false 5 [[.i .i64 xk, .i .i64 xa, .i .i64 xb, .s xn, .isl false 5 xs], [.i .i64 yk, .i .i64 ya, .i .i64 yb, .s yn, .isl false 5 ys]]), (39, .ip [.i .i64 yk, .i .i64 ya, .i .i64 yb, .s yn, .isl false 5 ys] 0), (40, .agg [.i .i64 yk, .i .i64 ya, .i .i64 yb, .s yn, .isl false 5 ys]), (41, .i .i64 lo), (42, .i .i64 hi), (43, .osl id2 0 N), (17, .osl id1 0 N), (18, .osl id2 0 N)], [⟨(n + 1 + 1 + 1, .rows 1 [[.osl (n + 1 + 1) 0 N]]) :: (n + 1 + 1, .rows 1 (List.replicate N [.b false])) :: FI, n + 1 + 1 + 1 + 1⟩, ⟨(n + 1 + 1 + 1, .rows 1 [[.osl (n + 1 + 1) 0 N]]) :: (n + 1 + 1, .rows 1 (List.replicate N [.b false])) :: (id1, .rows 1 BA) :: F1, n1⟩, ⟨(n + 1 + 1 + 1, .rows 1 [[.osl (n + 1 + 1) 0 N]]) :: (n + 1 + 1, .rows 1 (List.replicate N [.b false])) :: (id1, .rows 1 BA) :: (id2, .rows 1 BB) :: F2, n2⟩], [7, 15]⟩, [(2, 2), (2, 2), (0, 0), (0, 0), (0, 0), (0, 0), (2, 2), (1, 0), (2, 2), (2, 2), (0, 1), (0, 1), (0, 1), (0, 1), (2, 2), (1, 0), (2, 2), (2, 2)])] [[7, 15]] [[(2, 2), (2, 2), (0, 0), (0, 0), (0, 0), (0, 0), (2, 2), (1, 0), (2, 2), (2, 2), (0, 1), (0, 1), (0, 1), (0, 1), (2, 2), (1, 0), (2, 2), (2, 2)]] [[28, 29, 30, 31, 32, 33, 34, 35, 36, 37, 38, 39, 40, 41, 42, 43, 17, 18]] rfl (by kernel_rfl) rfl rfl rfl rfl ?_ ?_ ?_ ?_ ?_
  · intro p hp; simp only [List.mem_cons, List.not_mem_nil, or_false] at hp; rcases hp with rfl; rfl
  · intro p hp; simp only [List.mem_cons, List.not_mem_nil, or_false] at hp; rcases hp with rfl; rfl
  · intro p hp; simp only [List.mem_cons, List.not_mem_nil, or_false] at hp
    rcases hp with rfl
    clear hset hlen hat hA hB hOn k1 k2 hk q1 q2 q3 q4 q5 k9 k10 k11 k12 k13 k14 k15 k16 k17 w0 w1 w2 hi1 hb1 hAl hBl z1
    simp (disch := omega) only [freeN, effN, FreeM, EffM, dstM, DP.st, get_cons, List.forall_mem_cons, List.forall_mem_nil, List.getElem?_cons_zero, List.getElem?_cons_succ, List.mem_cons, List.not_mem_nil, false_implies, implies_true, and_true, true_and, forall_eq, forall_eq_or_imp, or_false, OR.val.injEq, go_sem, Nat.reduceLT, Nat.reduceEqDiff, Nat.reduceAdd, Nat.reduceSub, Nat.reduceLeDiff, Nat.reduceMul, Int.reduceLT, Int.reduceLE, Int.reduceAdd, Int.reduceSub, Int.reduceNeg, Int.reduceToNat, Int.reduceBEq, Int.reduceEq, reduceCtorEq, List.take_succ_cons, List.take_zero, List.take_nil, List.drop_succ_cons, List.drop_zero, List.drop_nil, List.cons_append, List.nil_append, List.set_cons_zero, List.set_cons_succ, ↓reduceIte]
  · intro p hp; simp only [List.mem_cons, List.not_mem_nil, or_false] at hp
    rcases hp with rfl
    clear hset hlen hat hA hB hOn hk k9 k10 k11 k12 k13 k14 k15 k16 k17 w0 w1 w2 hi1 hb1 hAl hBl z1
    simp (disch := omega) only [freeN, effN, FreeM, EffM, dstM, DP.st, get_cons, List.forall_mem_cons, List.forall_mem_nil, List.getElem?_cons_zero, List.getElem?_cons_succ, List.mem_cons, List.not_mem_nil, false_implies, implies_true, and_true, true_and, forall_eq, forall_eq_or_imp, or_false, OR.val.injEq, go_sem, Nat.reduceLT, Nat.reduceEqDiff, Nat.reduceAdd, Nat.reduceSub, Nat.reduceLeDiff, Nat.reduceMul, Int.reduceLT, Int.reduceLE, Int.reduceAdd, Int.reduceSub, Int.reduceNeg, Int.reduceToNat, Int.reduceBEq, Int.reduceEq, reduceCtorEq, List.take_succ_cons, List.take_zero, List.take_nil, List.drop_succ_cons, List.drop_zero, List.drop_nil, List.cons_append, List.nil_append, List.set_cons_zero, List.set_cons_succ, ↓reduceIte, q1, q2]
    exact ⟨⟨_, k1, rfl⟩, ⟨_, k2, rfl⟩⟩
  · intro p hp; simp only [List.mem_cons, List.not_mem_nil, or_false] at hp
    rcases hp with rfl
    intro g hg
    simp only [List.length_cons, List.length_nil, Nat.reduceAdd, List.getElem?_cons_zero, List.getElem?_cons_succ, Option.some.injEq] at hg
    subst hg
    unfold DP.st
    simp only [List.cons_append, List.nil_append]
    clear k1 k2 w1 hi1 hb1
    rw [← z1]
    clear z1
    repeat' first | (with_reducible first | refine t_seq ?_ | refine t_skip ?_ | refine t_ret ?_ | refine t_end ?_ | refine t_cond ?_ | refine t_region ?_ | refine wr_done ?_ | refine WD.done _ ?_ | refine wdp_done ?_ | refine tr_some ?_ | refine t_inBlock ?_) | ((with_reducible refine t_isDraw ?_); refine t_draw rfl (by kernel_rfl) ?_) | ((fail_if_success with_reducible refine t_bl ?_); (with_reducible refine t_block ?_)) | ((with_reducible refine t_isExit ?_); refine t_exit rfl ?_) | simp only [decide_eq_true_eq, decide_eq_false_iff_not, Bool.not_eq_true', Bool.not_eq_false'] at * | simp (disch := omega) only [go_sem, Nat.reduceLT, Nat.reduceEqDiff, Nat.reduceAdd, Nat.reduceLeDiff, Nat.reduceMul, Int.reduceLT, Int.reduceLE, Int.reduceAdd, Int.reduceSub, Int.reduceNeg, Int.reduceToNat, Int.reduceBEq, Int.reduceEq, reduceCtorEq, ↓reduceIte, *] | (with_reducible first | refine tb_true ?_ | refine tb_false ?_) | ((with_reducible first | refine tb_split ?_ ?_ | refine wg_f ?_ ?_ | refine wg_t ?_ ?_ | refine wd_f ?_ ?_ | refine wd_t ?_ ?_) <;> intro _)
    refine t_while (I := fun (j : Nat) t h => j ≤ N ∧ h = ⟨(n + 1 + 1 + 1, .rows 1 [[.osl (n + 1 + 1) 0 N]]) :: (n + 1 + 1, .rows 1 (boL on lo j N)) :: (id1, .rows 1 BA) :: (id2, .rows 1 BB) :: F2, n2⟩ ∧ get t 5 = .ip [.i .i64 k, .i .i64 a, .i .i64 b, .s nm, .isl false 5 [[.i .i64 xk, .i .i64 xa, .i .i64 xb, .s xn, .isl false 5 xs], [.i .i64 yk, .i .i64 ya, .i .i64 yb, .s yn, .isl false 5 ys]]] 0 ∧ get t 9 = .ptr (n + 1 + 1 + 1) 0 0 ∧ get t 17 = .osl id1 0 N ∧ get t 18 = .osl id2 0 N ∧ get t 45 = .i .i64 N ∧ get t 46 = .i .i64 j) (m := fun j => N - j)
      (J := fun t h => h = ⟨(n + 1 + 1 + 1, .rows 1 [[.osl (n + 1 + 1) 0 N]]) :: (n + 1 + 1, .rows 1 (boL on lo N N)) :: (id1, .rows 1 BA) :: (id2, .rows 1 BB) :: F2, n2⟩ ∧ get t 9 = .ptr (n + 1 + 1 + 1) 0 0) 0 ⟨by omega, rfl, by simp [get], by simp [get], by simp [get], by simp [get], by simp [get], by simp [get]⟩ ?_ ?_
    · rintro j t h ⟨hj, rfl, t5, t9, t17, t18, t45, t46⟩ hrec hex
      by_cases hj' : j < N
      · have ga := hA j hj'
        have gb := hB j hj'
        have gs := hset j hj'
        have gl := hlen j
        have gt := hat j hj'
        have go := hOn (lo + j)
        have hnx : ∀ (R : List (List AV)), R = boL on lo (j + 1) N → ∀ t', get t' 5 = .ip [.i .i64 k, .i .i64 a, .i .i64 b, .s nm, .isl false 5 [[.i .i64 xk, .i .i64 xa, .i .i64 xb, .s xn, .isl false 5 xs], [.i .i64 yk, .i .i64 ya, .i .i64 yb, .s yn, .isl false 5 ys]]] 0 → get t' 9 = .ptr (n + 1 + 1 + 1) 0 0 → get t' 17 = .osl id1 0 N → get t' 18 = .osl id2 0 N → get t' 45 = .i .i64 N → get t' 46 = .i .i64 ((j : Int) + 1) → _ := fun R a1 t' a2 a3 a4 a5 a6 a7 =>
          hrec (j + 1) t' ⟨(n + 1 + 1 + 1, .rows 1 [[.osl (n + 1 + 1) 0 N]]) :: (n + 1 + 1, .rows 1 R) :: (id1, .rows 1 BA) :: (id2, .rows 1 BB) :: F2, n2⟩ ⟨by omega, by rw [a1], a2, a3, a4, a5, a6, by rw [a7]; rfl⟩ (by omega)
        clear hA hB hset hlen hat hOn hrec hex hj
        rw [go] at gs
        clear go
        generalize boL on lo j N = BL at *
        generalize boL on lo (j + 1) N = BL' at *
        generalize x.on dN (lo + j) = xv at *
        generalize y.on dN (lo + j) = yv at *
        rcases hk with rfl | rfl | rfl
        all_goals cases xv
        all_goals cases yv
        all_goals simp only [Bool.or_false, Bool.or_true, Bool.and_true, Bool.and_false, Bool.not_true, Bool.not_false, Bool.false_or, Bool.true_or, Bool.and_self, Bool.or_self, ↓reduceIte, show ¬ (10 : Int) = 9 by decide, show ¬ (11 : Int) = 9 by decide, show ¬ (11 : Int) = 10 by decide, Bool.true_and, Bool.false_and] at gs
        all_goals
          repeat' first | (with_reducible first | refine t_seq ?_ | refine t_skip ?_ | refine t_ret ?_ | refine t_end ?_ | refine t_cond ?_ | refine t_region ?_ | refine wr_done ?_ | refine WD.done _ ?_ | refine wdp_done ?_ | refine tr_some ?_ | refine t_inBlock ?_) | ((with_reducible refine t_isDraw ?_); refine t_draw rfl (by kernel_rfl) ?_) | ((fail_if_success with_reducible refine t_bl ?_); (with_reducible refine t_block ?_)) | ((with_reducible refine t_isExit ?_); refine t_exit rfl ?_) | simp only [decide_eq_true_eq, decide_eq_false_iff_not, Bool.not_eq_true', Bool.not_eq_false'] at * | simp (disch := omega) only [go_sem, Nat.reduceLT, Nat.reduceEqDiff, Nat.reduceAdd, Nat.reduceLeDiff, Nat.reduceMul, Int.reduceLT, Int.reduceLE, Int.reduceAdd, Int.reduceSub, Int.reduceNeg, Int.reduceToNat, Int.reduceBEq, Int.reduceEq, reduceCtorEq, ↓reduceIte, *] | (with_reducible first | refine tb_true ?_ | refine tb_false ?_) | ((with_reducible first | refine tb_split ?_ ?_ | refine wg_f ?_ ?_ | refine wg_t ?_ ?_ | refine wd_f ?_ ?_ | refine wd_t ?_ ?_) <;> intro _)
        all_goals first | (exfalso; omega) | skip
        all_goals exact hnx _ rfl _ (by simp [get, t5]) (by simp [get, t9]) (by simp [get, t17]) (by simp [get, t18]) (by simp [get, t45]) (by simp [get])
      · have : j = N := by omega
        subst this
        clear hA hB hset hlen hat hOn
        repeat' first | refine hex _ _ ?_ | (with_reducible first | refine t_seq ?_ | refine t_skip ?_ | refine t_ret ?_ | refine t_end ?_ | refine t_cond ?_ | refine t_region ?_ | refine wr_done ?_ | refine WD.done _ ?_ | refine wdp_done ?_ | refine tr_some ?_ | refine t_inBlock ?_) | ((with_reducible refine t_isDraw ?_); refine t_draw rfl (by kernel_rfl) ?_) | ((fail_if_success with_reducible refine t_bl ?_); (with_reducible refine t_block ?_)) | ((with_reducible refine t_isExit ?_); refine t_exit rfl ?_) | simp only [decide_eq_true_eq, decide_eq_false_iff_not, Bool.not_eq_true', Bool.not_eq_false'] at * | simp (disch := omega) only [go_sem, Nat.reduceLT, Nat.reduceEqDiff, Nat.reduceAdd, Nat.reduceLeDiff, Nat.reduceMul, Int.reduceLT, Int.reduceLE, Int.reduceAdd, Int.reduceSub, Int.reduceNeg, Int.reduceToNat, Int.reduceBEq, Int.reduceEq, reduceCtorEq, ↓reduceIte, *] | (with_reducible first | refine tb_true ?_ | refine tb_false ?_) | ((with_reducible first | refine tb_split ?_ ?_ | refine wg_f ?_ ?_ | refine wg_t ?_ ?_ | refine wd_f ?_ ?_ | refine wd_t ?_ ?_) <;> intro _)
        all_goals first | (exfalso; omega) | skip
        all_goals done
    · rintro t h ⟨rfl, t9⟩
      clear hA hB hset hlen hat hOn
      repeat' first | (with_reducible first | refine t_seq ?_ | refine t_skip ?_ | refine t_ret ?_ | refine t_end ?_ | refine t_cond ?_ | refine t_region ?_ | refine wr_done ?_ | refine WD.done _ ?_ | refine wdp_done ?_ | refine tr_some ?_ | refine t_inBlock ?_) | ((with_reducible refine t_isDraw ?_); refine t_draw rfl (by kernel_rfl) ?_) | ((fail_if_success with_reducible refine t_bl ?_); (with_reducible refine t_block ?_)) | ((with_reducible refine t_isExit ?_); refine t_exit rfl ?_) | simp only [decide_eq_true_eq, decide_eq_false_iff_not, Bool.not_eq_true', Bool.not_eq_false'] at * | simp (disch := omega) only [go_sem, Nat.reduceLT, Nat.reduceEqDiff, Nat.reduceAdd, Nat.reduceLeDiff, Nat.reduceMul, Int.reduceLT, Int.reduceLE, Int.reduceAdd, Int.reduceSub, Int.reduceNeg, Int.reduceToNat, Int.reduceBEq, Int.reduceEq, reduceCtorEq, ↓reduceIte, *] | (with_reducible first | refine tb_true ?_ | refine tb_false ?_) | ((with_reducible first | refine tb_split ?_ ?_ | refine wg_f ?_ ?_ | refine wg_t ?_ ?_ | refine wd_f ?_ ?_ | refine wd_t ?_ ?_) <;> intro _)
      exact Sub.of (.cons _ (.cons_cons _ (.cons _ (.cons _ (List.Sublist.refl _))))) (Nat.le_refl _)
end Go.Proofs.YthahgmncnbeddaaGreatDoorA
