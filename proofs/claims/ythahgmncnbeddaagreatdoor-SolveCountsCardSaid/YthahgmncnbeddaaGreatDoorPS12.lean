/- The finder's days: the first weekday on or after. -/
import Derived.Test.YthahgmncnbeddaaGreatDoorPS11
set_option linter.unusedVariables false
set_option linter.unusedSimpArgs false
namespace Go.Proofs.YthahgmncnbeddaaGreatDoorA
open Go Go.RowKit Go.Proofs.YthahgmncnbeddaaGreatDoorFx Go.Proofs
attribute [local go_sem] List.take_succ_cons List.take_zero List.take_nil List.drop_succ_cons List.drop_nil List.cons_append List.nil_append List.set_cons_zero List.set_cons_succ
variable {m : Int}
/-- The place of the last one among the first k, or -7. -/
def lastI (g : Int → Bool) (lo : Int) : Nat → Int
  | 0 => -7
  | k + 1 => if g (lo + k) then k else lastI g lo k
theorem lastI_b (g : Int → Bool) (lo : Int) : ∀ k, -7 ≤ lastI g lo k ∧ lastI g lo k < k
  | 0 => by simp [lastI]
  | k + 1 => by
    have := lastI_b g lo k
    simp only [lastI]
    split <;> omega
theorem lastI_ge {g : Int → Bool} {lo : Int} {j : Int} (hj : 0 ≤ j) : ∀ k, j ≤ lastI g lo k ↔ ∃ t : Nat, j ≤ t ∧ t < k ∧ g (lo + t) = true
  | 0 => by
    simp only [lastI]
    constructor
    · intro h; omega
    · rintro ⟨t, _, h, _⟩; omega
  | k + 1 => by
    have ih := lastI_ge hj k (g := g) (lo := lo)
    simp only [lastI]
    by_cases hg : g (lo + k) = true
    · rw [if_pos hg]
      constructor
      · intro h; exact ⟨k, h, by omega, hg⟩
      · rintro ⟨t, h1, h2, _⟩; omega
    · rw [if_neg hg, ih]
      constructor
      · rintro ⟨t, h1, h2, h3⟩; exact ⟨t, h1, by omega, h3⟩
      · rintro ⟨t, h1, h2, h3⟩
        refine ⟨t, h1, ?_, h3⟩
        by_cases e : t = k
        · subst e; exact absurd h3 hg
        · omega
theorem last_fil {g : Int → Bool} {lo : Int} (j : Nat) : (!(fil g (lo + j - 6) 7).isEmpty) = (decide ((j : Int) ≤ lastI g (lo - 6) (j + 7))) := by
  rw [Bool.eq_iff_iff]
  simp only [Bool.not_eq_true', List.isEmpty_eq_false_iff, decide_eq_true_eq]
  rw [lastI_ge (show (0 : Int) ≤ j by omega) (j + 7)]
  constructor
  · intro h
    obtain ⟨x, hx⟩ := List.exists_mem_of_ne_nil _ h
    obtain ⟨h1, h2, h3⟩ := fil_mem.1 hx
    exact ⟨(x - (lo - 6)).toNat, by omega, by omega, by rw [show lo - 6 + ((x - (lo - 6)).toNat : Int) = x by omega]; exact h3⟩
  · rintro ⟨t, h1, h2, h3⟩ hn
    have : (lo - 6 + t) ∈ fil g (lo + j - 6) 7 := fil_mem.2 ⟨by omega, by omega, h3⟩
    rw [hn] at this
    cases this
set_option maxRecDepth 100000 in
set_option maxHeartbeats 8000000 in
theorem days8 {a b : Int} {nm : List UInt8} {x : Fs} (ih : DaysOk m x) : DaysOk m (.one 8 a b nm x) := by
  intro lo hi N hN b1 b2 b3 b4 L hL fid bb n hb hn
  simp only [Fs.depth, Fs.size] at b1 b2 b3 hL
  obtain ⟨id1, c1, n1, p1, p2, p3, p4, p0, p5, p6, p7, h1⟩ := ih (lo - 6) hi (N + 6) (by omega) (by omega) (by omega) (by omega) (by omega) L (by omega) fid bb (n + 1 + 1 + 1 + 1) hb (by omega)
  refine ⟨n + 2, c1, n1, by omega, by omega, by omega, by omega, by omega, by omega, by omega, by omega, MeetsH.subI ?_⟩
  rw [show Fs.add (.one 8 a b nm x) L = x.add L from if_neg (by decide)]
  have k1 := h1.frameI [(n + 1 + 1 + 1, .rows 1 [[.osl (n + 1 + 1) 0 N]]), (n + 1 + 1, .rows 1 (List.replicate N [.b false]))]
  have z1 := boL_zero (Fs.on dN (.one 8 a b nm x)) lo N
  simp only [List.cons_append, List.nil_append] at k1
  have hA := fun i (hi : i < N + 6) => boL_full (g := x.on dN) (lo := lo - 6) hi
  have hAl := boL_len (x.on dN) (lo - 6) (N + 6) (N + 6)
  have hOn : ∀ j : Nat, Fs.on dN (.one 8 a b nm x) (lo + j) = (decide (chkDay (lo + j) = 0) && decide ((lo + j - 1) % 7 = a) && decide ((j : Int) ≤ lastI (x.on dN) (lo - 6) (j + 7))) := fun j => by
    rw [← last_fil]
    simp only [Fs.on]
    rfl
  have hset := fun j (hj : j < N) => boL_set (g := Fs.on dN (.one 8 a b nm x)) (lo := lo) hj
  have hlen := fun j => boL_len (Fs.on dN (.one 8 a b nm x)) lo j N
  have hat := fun j (hj : j < N) => boL_at (g := Fs.on dN (.one 8 a b nm x)) (lo := lo) (j := j) hj
  have hlb := lastI_b (x.on dN) (lo - 6)
  have hls : ∀ k, lastI (x.on dN) (lo - 6) (k + 1) = if x.on dN (lo - 6 + k) then (k : Int) else lastI (x.on dN) (lo - 6) k := fun k => rfl
  generalize boL (x.on dN) (lo - 6) (N + 6) (N + 6) = BA at *
  obtain ⟨xk, xa, xb, xn, xs, hx⟩ := x.row5
  simp only [Fs.row]
  rw [hx] at k1 ⊢
  generalize finI fid L bb (bb + 1) = FI at *
  generalize finI fid (x.add L) c1 (c1 + 1) = F1 at *
  generalize hOnG : Fs.on dN (.one 8 a b nm x) = on at *
  obtain ⟨i1, hi1, hb1⟩ := Option.map_eq_some_iff.1 (show (Tryz.prog.info? 4).map (·.bytes) = some 1 by kernel_rfl)
  have w1 : (1 : Int) * N ≤ 70368744177664 := by omega
  have w2 : (N : Int) ≤ 9223372036854775807 := by omega
  have w0 : hi - lo + 1 = (N : Int) := hN
  have q1 : ¬ n + 1 + 1 + 1 = id1 := by omega
  have q2 : ¬ n + 1 + 1 = id1 := by omega
  have v1 : -90000000 ≤ lo := by omega
  have v2 : lo ≤ 90000000 := by omega
  have v3 : N ≤ 90000 := by omega
  have hck := fun d => lineCheck (m := m) d
  have hmd := fun (d : Int) (h1 : -100000000 ≤ d) (h2 : d ≤ 100000000) => modP (m := m) (a := d) (b := 7) (by omega) (by omega) (by omega) (by omega)
  clear h1 ih hOnG p1 p2 p3 p4 p0 p5 p6 p7 b1 b2 b3 b4 hL hn hb hN hx
  refine meetsH (E := (EW m)) 211 [.tmp 8] Tryz.func33 rfl (by decide) rfl rfl (by simp) ?_
  repeat' first | (with_reducible refine t_boxes (t := _) rfl rfl rfl rfl ?_) | (with_reducible first | refine t_seq ?_ | refine t_skip ?_ | refine t_ret ?_ | refine t_end ?_ | refine t_cond ?_ | refine t_region ?_ | refine wr_done ?_ | refine WD.done _ ?_ | refine wdp_done ?_ | refine tr_some ?_ | refine t_inBlock ?_) | ((fail_if_success with_reducible refine t_bl ?_); (with_reducible refine t_block ?_)) | ((with_reducible refine t_isExit ?_); refine t_exit rfl ?_) | simp only [decide_eq_true_eq, decide_eq_false_iff_not, Bool.not_eq_true', Bool.not_eq_false'] at * | simp (disch := omega) only [go_sem, Nat.reduceLT, Nat.reduceEqDiff, Nat.reduceAdd, Nat.reduceLeDiff, Nat.reduceMul, Int.reduceLT, Int.reduceLE, Int.reduceAdd, Int.reduceSub, Int.reduceNeg, Int.reduceToNat, Int.reduceBEq, Int.reduceEq, reduceCtorEq, ↓reduceIte, *] | (with_reducible first | refine tb_true ?_ | refine tb_false ?_) | ((with_reducible first | refine tb_split ?_ ?_ | refine wg_f ?_ ?_ | refine wg_t ?_ ?_ | refine wd_f ?_ ?_ | refine wd_t ?_ ?_) <;> intro _)
  refine t_paths 211 [8] [(⟨[(149, .ptr fid 0 0), (150, .ip [.i .i64 8, .i .i64 a, .i .i64 b, .s nm, .isl false 5 [[.i .i64 xk, .i .i64 xa, .i .i64 xb, .s xn, .isl false 5 xs]]] 4), (151, .isl false 5 [[.i .i64 xk, .i .i64 xa, .i .i64 xb, .s xn, .isl false 5 xs]]), (152, .ip [.i .i64 xk, .i .i64 xa, .i .i64 xb, .s xn, .isl false 5 xs] 0), (153, .agg [.i .i64 xk, .i .i64 xa, .i .i64 xb, .s xn, .isl false 5 xs]), (154, .i .i64 lo), (155, .i .i64 (lo - 6)), (156, .i .i64 hi), (157, .osl id1 0 (N + 6)), (13, .osl id1 0 (N + 6))], [⟨(n + 1 + 1 + 1, .rows 1 [[.osl (n + 1 + 1) 0 N]]) :: (n + 1 + 1, .rows 1 (List.replicate N [.b false])) :: FI, n + 1 + 1 + 1 + 1⟩, ⟨(n + 1 + 1 + 1, .rows 1 [[.osl (n + 1 + 1) 0 N]]) :: (n + 1 + 1, .rows 1 (List.replicate N [.b false])) :: (id1, .rows 1 BA) :: F1, n1⟩], [8]⟩, [(1, 1), (1, 1), (0, 0), (0, 0), (0, 0), (0, 0), (1, 1), (1, 1), (1, 0), (1, 1)])] [[8]] [[(1, 1), (1, 1), (0, 0), (0, 0), (0, 0), (0, 0), (1, 1), (1, 1), (1, 0), (1, 1)]] [[149, 150, 151, 152, 153, 154, 155, 156, 157, 13]] rfl (by kernel_rfl) rfl rfl rfl rfl ?_ ?_ ?_ ?_ ?_
  · intro p hp; simp only [List.mem_cons, List.not_mem_nil, or_false] at hp; rcases hp with rfl; rfl
  · intro p hp; simp only [List.mem_cons, List.not_mem_nil, or_false] at hp; rcases hp with rfl; rfl
  · intro p hp; simp only [List.mem_cons, List.not_mem_nil, or_false] at hp
    rcases hp with rfl
    clear hset hlen hat hA hOn k1 hlb hls hck hmd q1 q2 w0 w1 w2 hi1 hb1 hAl z1 v3
    simp (disch := omega) only [freeN, effN, FreeM, EffM, dstM, DP.st, get_cons, List.forall_mem_cons, List.forall_mem_nil, List.getElem?_cons_zero, List.getElem?_cons_succ, List.mem_cons, List.not_mem_nil, false_implies, implies_true, and_true, true_and, forall_eq, forall_eq_or_imp, or_false, OR.val.injEq, go_sem, Nat.reduceLT, Nat.reduceEqDiff, Nat.reduceAdd, Nat.reduceSub, Nat.reduceLeDiff, Nat.reduceMul, Int.reduceLT, Int.reduceLE, Int.reduceAdd, Int.reduceSub, Int.reduceNeg, Int.reduceToNat, Int.reduceBEq, Int.reduceEq, reduceCtorEq, List.take_succ_cons, List.take_zero, List.take_nil, List.drop_succ_cons, List.drop_zero, List.drop_nil, List.cons_append, List.nil_append, List.set_cons_zero, List.set_cons_succ, ↓reduceIte, w64]
    done
  · intro p hp; simp only [List.mem_cons, List.not_mem_nil, or_false] at hp
    rcases hp with rfl
    clear hset hlen hat hA hOn hlb hls hck hmd w0 w1 w2 hi1 hb1 hAl z1 v1 v2 v3
    simp (disch := omega) only [freeN, effN, FreeM, EffM, dstM, DP.st, get_cons, List.forall_mem_cons, List.forall_mem_nil, List.getElem?_cons_zero, List.getElem?_cons_succ, List.mem_cons, List.not_mem_nil, false_implies, implies_true, and_true, true_and, forall_eq, forall_eq_or_imp, or_false, OR.val.injEq, go_sem, Nat.reduceLT, Nat.reduceEqDiff, Nat.reduceAdd, Nat.reduceSub, Nat.reduceLeDiff, Nat.reduceMul, Int.reduceLT, Int.reduceLE, Int.reduceAdd, Int.reduceSub, Int.reduceNeg, Int.reduceToNat, Int.reduceBEq, Int.reduceEq, reduceCtorEq, List.take_succ_cons, List.take_zero, List.take_nil, List.drop_succ_cons, List.drop_zero, List.drop_nil, List.cons_append, List.nil_append, List.set_cons_zero, List.set_cons_succ, ↓reduceIte, q1, q2]
    exact ⟨_, k1, rfl⟩
  · intro p hp; simp only [List.mem_cons, List.not_mem_nil, or_false] at hp
    rcases hp with rfl
    intro g hg
    simp only [List.length_cons, List.length_nil, Nat.reduceAdd, List.getElem?_cons_zero, List.getElem?_cons_succ, Option.some.injEq] at hg
    subst hg
    unfold DP.st
    simp only [List.cons_append, List.nil_append]
    clear k1 w1 hi1 hb1
    rw [← z1]
    clear z1
    repeat' first | (with_reducible first | refine t_seq ?_ | refine t_skip ?_ | refine t_ret ?_ | refine t_end ?_ | refine t_cond ?_ | refine t_region ?_ | refine wr_done ?_ | refine WD.done _ ?_ | refine wdp_done ?_ | refine tr_some ?_ | refine t_inBlock ?_) | ((with_reducible refine t_isDraw ?_); refine t_draw rfl (by kernel_rfl) ?_) | ((fail_if_success with_reducible refine t_bl ?_); (with_reducible refine t_block ?_)) | ((with_reducible refine t_isExit ?_); refine t_exit rfl ?_) | simp only [decide_eq_true_eq, decide_eq_false_iff_not, Bool.not_eq_true', Bool.not_eq_false'] at * | simp (disch := omega) only [go_sem, Nat.reduceLT, Nat.reduceEqDiff, Nat.reduceAdd, Nat.reduceLeDiff, Nat.reduceMul, Int.reduceLT, Int.reduceLE, Int.reduceAdd, Int.reduceSub, Int.reduceNeg, Int.reduceToNat, Int.reduceBEq, Int.reduceEq, reduceCtorEq, ↓reduceIte, *] | (with_reducible first | refine tb_true ?_ | refine tb_false ?_) | ((with_reducible first | refine tb_split ?_ ?_ | refine wg_f ?_ ?_ | refine wg_t ?_ ?_ | refine wd_f ?_ ?_ | refine wd_t ?_ ?_) <;> intro _)
    refine t_while (I := fun (i : Nat) t h => i ≤ N + 6 ∧ h = ⟨(n + 1 + 1 + 1, .rows 1 [[.osl (n + 1 + 1) 0 N]]) :: (n + 1 + 1, .rows 1 (boL on lo (i - 6) N)) :: (id1, .rows 1 BA) :: F1, n1⟩ ∧ get t 5 = .ip [.i .i64 8, .i .i64 a, .i .i64 b, .s nm, .isl false 5 [[.i .i64 xk, .i .i64 xa, .i .i64 xb, .s xn, .isl false 5 xs]]] 0 ∧ get t 6 = .ip [.i .i64 lo] 0 ∧ get t 9 = .ptr (n + 1 + 1 + 1) 0 0 ∧ get t 13 = .osl id1 0 (N + 6) ∧ get t 14 = .i .i64 (lastI (x.on dN) (lo - 6) i) ∧ get t 159 = .i .i64 ((N + 6 : Nat) : Int) ∧ get t 160 = .i .i64 i) (m := fun i => N + 6 - i)
      (J := fun t h => h = ⟨(n + 1 + 1 + 1, .rows 1 [[.osl (n + 1 + 1) 0 N]]) :: (n + 1 + 1, .rows 1 (boL on lo N N)) :: (id1, .rows 1 BA) :: F1, n1⟩ ∧ get t 9 = .ptr (n + 1 + 1 + 1) 0 0) 0 ⟨by omega, by first | rfl | simp, by simp [get], by simp [get], by simp [get], by simp [get], by simp [get, lastI], by simp [get], by simp [get]⟩ ?_ ?_
    · rintro i t h ⟨hi, rfl, t5, t6, t9, t13, t14, t159, t160⟩ hrec hex
      by_cases hi' : i < N + 6
      · have ga := hA i hi'
        have gl := hlen (i - 6)
        have hl0 := hlb i
        have hl1 := hlb (i + 1)
        have hl2 := hls i
        have hnx : ∀ (la : Int) (R : List (List AV)), la = lastI (x.on dN) (lo - 6) (i + 1) → R = boL on lo (i + 1 - 6) N → ∀ t', get t' 5 = .ip [.i .i64 8, .i .i64 a, .i .i64 b, .s nm, .isl false 5 [[.i .i64 xk, .i .i64 xa, .i .i64 xb, .s xn, .isl false 5 xs]]] 0 → get t' 6 = .ip [.i .i64 lo] 0 → get t' 9 = .ptr (n + 1 + 1 + 1) 0 0 → get t' 13 = .osl id1 0 (N + 6) → get t' 14 = .i .i64 la → get t' 159 = .i .i64 ((N + 6 : Nat) : Int) → get t' 160 = .i .i64 ((i : Int) + 1) → _ := fun la R a0 a1 t' a2 a3 a4 a5 a6 a7 a8 =>
          hrec (i + 1) t' ⟨(n + 1 + 1 + 1, .rows 1 [[.osl (n + 1 + 1) 0 N]]) :: (n + 1 + 1, .rows 1 R) :: (id1, .rows 1 BA) :: F1, n1⟩ ⟨by omega, by rw [a1], a2, a3, a4, a5, by rw [a6, a0], a7, by rw [a8]; rfl⟩ (by omega)
        have hB : (BA.length : Int) = (N : Int) + 6 := by omega
        clear hA hlen hrec hex hlb hls
        generalize hla0 : lastI (x.on dN) (lo - 6) i = la0 at *
        by_cases h6 : i < 6
        · have e1 : i - 6 = 0 := by omega
          have e2 : i + 1 - 6 = 0 := by omega
          rw [e1] at gl ⊢
          rw [e2] at hnx
          have c1 : (i : Int) < 6 := by omega
          have c2 : (i : Int) < ((N + 6 : Nat) : Int) := by omega
          clear hset hat hOn hck hmd e1 e2 h6 hi hi'
          generalize boL on lo 0 N = BL at *
          cases hxv : x.on dN (lo - 6 + i)
          all_goals rw [hxv] at ga hl2
          · rw [if_neg (by simp)] at hl2
            repeat' first | (with_reducible first | refine t_seq ?_ | refine t_skip ?_ | refine t_ret ?_ | refine t_end ?_ | refine t_cond ?_ | refine t_region ?_ | refine wr_done ?_ | refine WD.done _ ?_ | refine wdp_done ?_ | refine tr_some ?_ | refine t_inBlock ?_) | ((with_reducible refine t_isDraw ?_); refine t_draw rfl (by kernel_rfl) ?_) | ((fail_if_success with_reducible refine t_bl ?_); (with_reducible refine t_block ?_)) | ((with_reducible refine t_isExit ?_); refine t_exit rfl ?_) | simp only [decide_eq_true_eq, decide_eq_false_iff_not, Bool.not_eq_true', Bool.not_eq_false'] at * | simp (disch := omega) only [go_sem, Nat.reduceLT, Nat.reduceEqDiff, Nat.reduceAdd, Nat.reduceLeDiff, Nat.reduceMul, Int.reduceLT, Int.reduceLE, Int.reduceAdd, Int.reduceSub, Int.reduceNeg, Int.reduceToNat, Int.reduceBEq, Int.reduceEq, reduceCtorEq, ↓reduceIte, *] | (with_reducible first | refine tb_true ?_ | refine tb_false ?_) | ((with_reducible first | refine tb_split ?_ ?_ | refine wg_f ?_ ?_ | refine wg_t ?_ ?_ | refine wd_f ?_ ?_ | refine wd_t ?_ ?_) <;> intro _)
            all_goals first | (exfalso; omega) | skip
            all_goals exact hnx la0 _ hl2.symm rfl _ (by simp [get, t5]) (by simp [get, t6]) (by simp [get, t9]) (by simp [get, t13]) (by simp [get, t14]) (by simp [get, t159]) (by simp [get])
          · rw [if_pos rfl] at hl2
            repeat' first | (with_reducible first | refine t_seq ?_ | refine t_skip ?_ | refine t_ret ?_ | refine t_end ?_ | refine t_cond ?_ | refine t_region ?_ | refine wr_done ?_ | refine WD.done _ ?_ | refine wdp_done ?_ | refine tr_some ?_ | refine t_inBlock ?_) | ((with_reducible refine t_isDraw ?_); refine t_draw rfl (by kernel_rfl) ?_) | ((fail_if_success with_reducible refine t_bl ?_); (with_reducible refine t_block ?_)) | ((with_reducible refine t_isExit ?_); refine t_exit rfl ?_) | simp only [decide_eq_true_eq, decide_eq_false_iff_not, Bool.not_eq_true', Bool.not_eq_false'] at * | simp (disch := omega) only [go_sem, Nat.reduceLT, Nat.reduceEqDiff, Nat.reduceAdd, Nat.reduceLeDiff, Nat.reduceMul, Int.reduceLT, Int.reduceLE, Int.reduceAdd, Int.reduceSub, Int.reduceNeg, Int.reduceToNat, Int.reduceBEq, Int.reduceEq, reduceCtorEq, ↓reduceIte, *] | (with_reducible first | refine tb_true ?_ | refine tb_false ?_) | ((with_reducible first | refine tb_split ?_ ?_ | refine wg_f ?_ ?_ | refine wg_t ?_ ?_ | refine wd_f ?_ ?_ | refine wd_t ?_ ?_) <;> intro _)
            all_goals first | (exfalso; omega) | skip
            all_goals exact hnx i _ hl2.symm rfl _ (by simp [get, t5]) (by simp [get, t6]) (by simp [get, t9]) (by simp [get, t13]) (by simp [get]) (by simp [get, t159]) (by simp [get])
        · obtain ⟨j, rfl⟩ : ∃ j, i = j + 6 := ⟨i - 6, by omega⟩
          have hj : j < N := by omega
          have gs := hset j hj
          have gt := hat j hj
          have go := hOn j
          have hch := hck (lo - 6 + ((j + 6 : Nat) : Int))
          have hmo := hmd (lo - 6 + ((j + 6 : Nat) : Int) - 1) (by omega) (by omega)
          have eD : lo - 6 + ((j + 6 : Nat) : Int) = lo + j := by omega
          have eI : (lo - 6 + ((j + 6 : Nat) : Int) - lo).toNat = j := by omega
          have eP : ((j + 6 : Nat) : Int) - 6 = j := by omega
          rw [show j + 6 + 1 = j + 7 from rfl] at hl1 hl2 hnx
          rw [show j + 7 - 6 = j + 1 by omega] at hnx
          rw [show j + 6 - 6 = j by omega] at gl ⊢
          have c2 : ((j + 6 : Nat) : Int) < ((N + 6 : Nat) : Int) := by omega
          have c3 : lo ≤ lo - 6 + ((j + 6 : Nat) : Int) := by omega
          have c4 : ¬ lo - 6 + ((j + 6 : Nat) : Int) - lo < 0 := by omega
          have c5 : ((j : Nat) : Int) < N := by omega
          rw [← eD] at go
          have eT : ((j + 6 : Nat) : Int).toNat = j + 6 := by omega
          rw [← eD] at gs
          rw [go] at gs
          clear go
          generalize hZ : ((j + 6 : Nat) : Int) = Z at *
          have cZ : 0 ≤ Z := by omega
          generalize boL on lo j N = BL at *
          generalize boL on lo (j + 1) N = BL' at *
          generalize hl7 : lastI (x.on dN) (lo - 6) (j + 7) = la at *
          generalize chkDay (lo - 6 + Z) = ck at *
          generalize (lo - 6 + Z - 1) % 7 = wd at *
          clear hset hat hOn hck hmd hla0 hl7 hi hi' eD
          cases hxv : x.on dN (lo - 6 + Z)
          all_goals rw [hxv] at ga hl2
          · rw [if_neg (by simp)] at hl2
            subst hl2
            by_cases hc0 : ck = 0
            case neg =>
              simp only [hc0, decide_false, Bool.false_and] at gs
              clear hmo
              repeat' first | ((with_reducible refine t_isDraw ?_); refine t_draw1 hch (by kernel_rfl) ?_) | (with_reducible first | refine t_seq ?_ | refine t_skip ?_ | refine t_ret ?_ | refine t_end ?_ | refine t_cond ?_ | refine t_region ?_ | refine wr_done ?_ | refine WD.done _ ?_ | refine wdp_done ?_ | refine tr_some ?_ | refine t_inBlock ?_) | ((with_reducible refine t_isDraw ?_); refine t_draw rfl (by kernel_rfl) ?_) | ((fail_if_success with_reducible refine t_bl ?_); (with_reducible refine t_block ?_)) | ((with_reducible refine t_isExit ?_); refine t_exit rfl ?_) | simp only [decide_eq_true_eq, decide_eq_false_iff_not, Bool.not_eq_true', Bool.not_eq_false'] at * | simp (disch := omega) only [go_sem, Nat.reduceLT, Nat.reduceEqDiff, Nat.reduceAdd, Nat.reduceLeDiff, Nat.reduceMul, Int.reduceLT, Int.reduceLE, Int.reduceAdd, Int.reduceSub, Int.reduceNeg, Int.reduceToNat, Int.reduceBEq, Int.reduceEq, reduceCtorEq, ↓reduceIte, *] | (with_reducible first | refine tb_true ?_ | refine tb_false ?_) | ((with_reducible first | refine tb_split ?_ ?_ | refine wg_f ?_ ?_ | refine wg_t ?_ ?_ | refine wd_f ?_ ?_ | refine wd_t ?_ ?_) <;> intro _)
              all_goals first | (exfalso; omega) | skip
              all_goals exact hnx la _ rfl rfl _ (by simp [get, t5]) (by simp [get, t6]) (by simp [get, t9]) (by simp [get, t13]) (by simp [get, t14]) (by simp [get, t159]) (by simp [get])
            subst hc0
            simp only [decide_true, Bool.true_and] at gs
            by_cases hw : wd = a
            case neg =>
              simp only [hw, decide_false, Bool.false_and] at gs
              repeat' first | ((with_reducible refine t_isDraw ?_); refine t_draw2 hch hmo (by kernel_rfl) ?_) | (with_reducible first | refine t_seq ?_ | refine t_skip ?_ | refine t_ret ?_ | refine t_end ?_ | refine t_cond ?_ | refine t_region ?_ | refine wr_done ?_ | refine WD.done _ ?_ | refine wdp_done ?_ | refine tr_some ?_ | refine t_inBlock ?_) | ((with_reducible refine t_isDraw ?_); refine t_draw rfl (by kernel_rfl) ?_) | ((fail_if_success with_reducible refine t_bl ?_); (with_reducible refine t_block ?_)) | ((with_reducible refine t_isExit ?_); refine t_exit rfl ?_) | simp only [decide_eq_true_eq, decide_eq_false_iff_not, Bool.not_eq_true', Bool.not_eq_false'] at * | simp (disch := omega) only [go_sem, Nat.reduceLT, Nat.reduceEqDiff, Nat.reduceAdd, Nat.reduceLeDiff, Nat.reduceMul, Int.reduceLT, Int.reduceLE, Int.reduceAdd, Int.reduceSub, Int.reduceNeg, Int.reduceToNat, Int.reduceBEq, Int.reduceEq, reduceCtorEq, ↓reduceIte, *] | (with_reducible first | refine tb_true ?_ | refine tb_false ?_) | ((with_reducible first | refine tb_split ?_ ?_ | refine wg_f ?_ ?_ | refine wg_t ?_ ?_ | refine wd_f ?_ ?_ | refine wd_t ?_ ?_) <;> intro _)
              all_goals first | (exfalso; omega) | skip
              all_goals exact hnx la _ rfl rfl _ (by simp [get, t5]) (by simp [get, t6]) (by simp [get, t9]) (by simp [get, t13]) (by simp [get, t14]) (by simp [get, t159]) (by simp [get])
            subst hw
            simp only [decide_true, Bool.true_and] at gs
            by_cases hl : (j : Int) ≤ la
            · simp only [hl, decide_true] at gs
              have c6 : (0 : Int) ≤ la := by omega
              have c7 : Z - 6 ≤ la := by omega
              repeat' first | ((with_reducible refine t_isDraw ?_); refine t_draw2 hch hmo (by kernel_rfl) ?_) | (with_reducible first | refine t_seq ?_ | refine t_skip ?_ | refine t_ret ?_ | refine t_end ?_ | refine t_cond ?_ | refine t_region ?_ | refine wr_done ?_ | refine WD.done _ ?_ | refine wdp_done ?_ | refine tr_some ?_ | refine t_inBlock ?_) | ((with_reducible refine t_isDraw ?_); refine t_draw rfl (by kernel_rfl) ?_) | ((fail_if_success with_reducible refine t_bl ?_); (with_reducible refine t_block ?_)) | ((with_reducible refine t_isExit ?_); refine t_exit rfl ?_) | simp only [decide_eq_true_eq, decide_eq_false_iff_not, Bool.not_eq_true', Bool.not_eq_false'] at * | simp (disch := omega) only [go_sem, Nat.reduceLT, Nat.reduceEqDiff, Nat.reduceAdd, Nat.reduceLeDiff, Nat.reduceMul, Int.reduceLT, Int.reduceLE, Int.reduceAdd, Int.reduceSub, Int.reduceNeg, Int.reduceToNat, Int.reduceBEq, Int.reduceEq, reduceCtorEq, ↓reduceIte, *] | (with_reducible first | refine tb_true ?_ | refine tb_false ?_) | ((with_reducible first | refine tb_split ?_ ?_ | refine wg_f ?_ ?_ | refine wg_t ?_ ?_ | refine wd_f ?_ ?_ | refine wd_t ?_ ?_) <;> intro _)
              all_goals first | (exfalso; omega) | skip
              all_goals exact hnx la _ rfl rfl _ (by simp [get, t5]) (by simp [get, t6]) (by simp [get, t9]) (by simp [get, t13]) (by simp [get, t14]) (by simp [get, t159]) (by simp [get])
            · simp only [hl, decide_false] at gs
              have c7 : ¬ Z - 6 ≤ la := by omega
              repeat' first | ((with_reducible refine t_isDraw ?_); refine t_draw2 hch hmo (by kernel_rfl) ?_) | (with_reducible first | refine t_seq ?_ | refine t_skip ?_ | refine t_ret ?_ | refine t_end ?_ | refine t_cond ?_ | refine t_region ?_ | refine wr_done ?_ | refine WD.done _ ?_ | refine wdp_done ?_ | refine tr_some ?_ | refine t_inBlock ?_) | ((with_reducible refine t_isDraw ?_); refine t_draw rfl (by kernel_rfl) ?_) | ((fail_if_success with_reducible refine t_bl ?_); (with_reducible refine t_block ?_)) | ((with_reducible refine t_isExit ?_); refine t_exit rfl ?_) | simp only [decide_eq_true_eq, decide_eq_false_iff_not, Bool.not_eq_true', Bool.not_eq_false'] at * | simp (disch := omega) only [go_sem, Nat.reduceLT, Nat.reduceEqDiff, Nat.reduceAdd, Nat.reduceLeDiff, Nat.reduceMul, Int.reduceLT, Int.reduceLE, Int.reduceAdd, Int.reduceSub, Int.reduceNeg, Int.reduceToNat, Int.reduceBEq, Int.reduceEq, reduceCtorEq, ↓reduceIte, *] | (with_reducible first | refine tb_true ?_ | refine tb_false ?_) | ((with_reducible first | refine tb_split ?_ ?_ | refine wg_f ?_ ?_ | refine wg_t ?_ ?_ | refine wd_f ?_ ?_ | refine wd_t ?_ ?_) <;> intro _)
              all_goals first | (exfalso; omega) | skip
              all_goals exact hnx la _ rfl rfl _ (by simp [get, t5]) (by simp [get, t6]) (by simp [get, t9]) (by simp [get, t13]) (by simp [get, t14]) (by simp [get, t159]) (by simp [get])
          · rw [if_pos rfl] at hl2
            have hl3 := hl2.symm
            clear hl2
            subst hl3
            by_cases hc0 : ck = 0
            case neg =>
              simp only [hc0, decide_false, Bool.false_and] at gs
              clear hmo
              repeat' first | ((with_reducible refine t_isDraw ?_); refine t_draw1 hch (by kernel_rfl) ?_) | (with_reducible first | refine t_seq ?_ | refine t_skip ?_ | refine t_ret ?_ | refine t_end ?_ | refine t_cond ?_ | refine t_region ?_ | refine wr_done ?_ | refine WD.done _ ?_ | refine wdp_done ?_ | refine tr_some ?_ | refine t_inBlock ?_) | ((with_reducible refine t_isDraw ?_); refine t_draw rfl (by kernel_rfl) ?_) | ((fail_if_success with_reducible refine t_bl ?_); (with_reducible refine t_block ?_)) | ((with_reducible refine t_isExit ?_); refine t_exit rfl ?_) | simp only [decide_eq_true_eq, decide_eq_false_iff_not, Bool.not_eq_true', Bool.not_eq_false'] at * | simp (disch := omega) only [go_sem, Nat.reduceLT, Nat.reduceEqDiff, Nat.reduceAdd, Nat.reduceLeDiff, Nat.reduceMul, Int.reduceLT, Int.reduceLE, Int.reduceAdd, Int.reduceSub, Int.reduceNeg, Int.reduceToNat, Int.reduceBEq, Int.reduceEq, reduceCtorEq, ↓reduceIte, *] | (with_reducible first | refine tb_true ?_ | refine tb_false ?_) | ((with_reducible first | refine tb_split ?_ ?_ | refine wg_f ?_ ?_ | refine wg_t ?_ ?_ | refine wd_f ?_ ?_ | refine wd_t ?_ ?_) <;> intro _)
              all_goals first | (exfalso; omega) | skip
              all_goals exact hnx Z _ rfl rfl _ (by simp [get, t5]) (by simp [get, t6]) (by simp [get, t9]) (by simp [get, t13]) (by simp [get]) (by simp [get, t159]) (by simp [get])
            subst hc0
            simp only [decide_true, Bool.true_and] at gs
            by_cases hw : wd = a
            case neg =>
              simp only [hw, decide_false, Bool.false_and] at gs
              repeat' first | ((with_reducible refine t_isDraw ?_); refine t_draw2 hch hmo (by kernel_rfl) ?_) | (with_reducible first | refine t_seq ?_ | refine t_skip ?_ | refine t_ret ?_ | refine t_end ?_ | refine t_cond ?_ | refine t_region ?_ | refine wr_done ?_ | refine WD.done _ ?_ | refine wdp_done ?_ | refine tr_some ?_ | refine t_inBlock ?_) | ((with_reducible refine t_isDraw ?_); refine t_draw rfl (by kernel_rfl) ?_) | ((fail_if_success with_reducible refine t_bl ?_); (with_reducible refine t_block ?_)) | ((with_reducible refine t_isExit ?_); refine t_exit rfl ?_) | simp only [decide_eq_true_eq, decide_eq_false_iff_not, Bool.not_eq_true', Bool.not_eq_false'] at * | simp (disch := omega) only [go_sem, Nat.reduceLT, Nat.reduceEqDiff, Nat.reduceAdd, Nat.reduceLeDiff, Nat.reduceMul, Int.reduceLT, Int.reduceLE, Int.reduceAdd, Int.reduceSub, Int.reduceNeg, Int.reduceToNat, Int.reduceBEq, Int.reduceEq, reduceCtorEq, ↓reduceIte, *] | (with_reducible first | refine tb_true ?_ | refine tb_false ?_) | ((with_reducible first | refine tb_split ?_ ?_ | refine wg_f ?_ ?_ | refine wg_t ?_ ?_ | refine wd_f ?_ ?_ | refine wd_t ?_ ?_) <;> intro _)
              all_goals first | (exfalso; omega) | skip
              all_goals exact hnx Z _ rfl rfl _ (by simp [get, t5]) (by simp [get, t6]) (by simp [get, t9]) (by simp [get, t13]) (by simp [get]) (by simp [get, t159]) (by simp [get])
            subst hw
            simp only [decide_true, Bool.true_and] at gs
            by_cases hl : (j : Int) ≤ Z
            · simp only [hl, decide_true] at gs
              have c6 : (0 : Int) ≤ Z := by omega
              have c7 : Z - 6 ≤ Z := by omega
              repeat' first | ((with_reducible refine t_isDraw ?_); refine t_draw2 hch hmo (by kernel_rfl) ?_) | (with_reducible first | refine t_seq ?_ | refine t_skip ?_ | refine t_ret ?_ | refine t_end ?_ | refine t_cond ?_ | refine t_region ?_ | refine wr_done ?_ | refine WD.done _ ?_ | refine wdp_done ?_ | refine tr_some ?_ | refine t_inBlock ?_) | ((with_reducible refine t_isDraw ?_); refine t_draw rfl (by kernel_rfl) ?_) | ((fail_if_success with_reducible refine t_bl ?_); (with_reducible refine t_block ?_)) | ((with_reducible refine t_isExit ?_); refine t_exit rfl ?_) | simp only [decide_eq_true_eq, decide_eq_false_iff_not, Bool.not_eq_true', Bool.not_eq_false'] at * | simp (disch := omega) only [go_sem, Nat.reduceLT, Nat.reduceEqDiff, Nat.reduceAdd, Nat.reduceLeDiff, Nat.reduceMul, Int.reduceLT, Int.reduceLE, Int.reduceAdd, Int.reduceSub, Int.reduceNeg, Int.reduceToNat, Int.reduceBEq, Int.reduceEq, reduceCtorEq, ↓reduceIte, *] | (with_reducible first | refine tb_true ?_ | refine tb_false ?_) | ((with_reducible first | refine tb_split ?_ ?_ | refine wg_f ?_ ?_ | refine wg_t ?_ ?_ | refine wd_f ?_ ?_ | refine wd_t ?_ ?_) <;> intro _)
              all_goals first | (exfalso; omega) | skip
              all_goals exact hnx Z _ rfl rfl _ (by simp [get, t5]) (by simp [get, t6]) (by simp [get, t9]) (by simp [get, t13]) (by simp [get]) (by simp [get, t159]) (by simp [get])
            · simp only [hl, decide_false] at gs
              have c7 : ¬ Z - 6 ≤ Z := by omega
              repeat' first | ((with_reducible refine t_isDraw ?_); refine t_draw2 hch hmo (by kernel_rfl) ?_) | (with_reducible first | refine t_seq ?_ | refine t_skip ?_ | refine t_ret ?_ | refine t_end ?_ | refine t_cond ?_ | refine t_region ?_ | refine wr_done ?_ | refine WD.done _ ?_ | refine wdp_done ?_ | refine tr_some ?_ | refine t_inBlock ?_) | ((with_reducible refine t_isDraw ?_); refine t_draw rfl (by kernel_rfl) ?_) | ((fail_if_success with_reducible refine t_bl ?_); (with_reducible refine t_block ?_)) | ((with_reducible refine t_isExit ?_); refine t_exit rfl ?_) | simp only [decide_eq_true_eq, decide_eq_false_iff_not, Bool.not_eq_true', Bool.not_eq_false'] at * | simp (disch := omega) only [go_sem, Nat.reduceLT, Nat.reduceEqDiff, Nat.reduceAdd, Nat.reduceLeDiff, Nat.reduceMul, Int.reduceLT, Int.reduceLE, Int.reduceAdd, Int.reduceSub, Int.reduceNeg, Int.reduceToNat, Int.reduceBEq, Int.reduceEq, reduceCtorEq, ↓reduceIte, *] | (with_reducible first | refine tb_true ?_ | refine tb_false ?_) | ((with_reducible first | refine tb_split ?_ ?_ | refine wg_f ?_ ?_ | refine wg_t ?_ ?_ | refine wd_f ?_ ?_ | refine wd_t ?_ ?_) <;> intro _)
              all_goals first | (exfalso; omega) | skip
              all_goals exact hnx Z _ rfl rfl _ (by simp [get, t5]) (by simp [get, t6]) (by simp [get, t9]) (by simp [get, t13]) (by simp [get]) (by simp [get, t159]) (by simp [get])
      · have : i = N + 6 := by omega
        subst this
        rw [show N + 6 - 6 = N by omega]
        clear hA hset hlen hat hOn hlb hls hck hmd
        repeat' first | refine hex _ _ ?_ | (with_reducible first | refine t_seq ?_ | refine t_skip ?_ | refine t_ret ?_ | refine t_end ?_ | refine t_cond ?_ | refine t_region ?_ | refine wr_done ?_ | refine WD.done _ ?_ | refine wdp_done ?_ | refine tr_some ?_ | refine t_inBlock ?_) | ((with_reducible refine t_isDraw ?_); refine t_draw rfl (by kernel_rfl) ?_) | ((fail_if_success with_reducible refine t_bl ?_); (with_reducible refine t_block ?_)) | ((with_reducible refine t_isExit ?_); refine t_exit rfl ?_) | simp only [decide_eq_true_eq, decide_eq_false_iff_not, Bool.not_eq_true', Bool.not_eq_false'] at * | simp (disch := omega) only [go_sem, Nat.reduceLT, Nat.reduceEqDiff, Nat.reduceAdd, Nat.reduceLeDiff, Nat.reduceMul, Int.reduceLT, Int.reduceLE, Int.reduceAdd, Int.reduceSub, Int.reduceNeg, Int.reduceToNat, Int.reduceBEq, Int.reduceEq, reduceCtorEq, ↓reduceIte, *] | (with_reducible first | refine tb_true ?_ | refine tb_false ?_) | ((with_reducible first | refine tb_split ?_ ?_ | refine wg_f ?_ ?_ | refine wg_t ?_ ?_ | refine wd_f ?_ ?_ | refine wd_t ?_ ?_) <;> intro _)
        all_goals first | (exfalso; omega) | skip
        all_goals done
    · rintro t h ⟨rfl, t9⟩
      clear hA hset hlen hat hOn hlb hls hck hmd
      repeat' first | (with_reducible first | refine t_seq ?_ | refine t_skip ?_ | refine t_ret ?_ | refine t_end ?_ | refine t_cond ?_ | refine t_region ?_ | refine wr_done ?_ | refine WD.done _ ?_ | refine wdp_done ?_ | refine tr_some ?_ | refine t_inBlock ?_) | ((with_reducible refine t_isDraw ?_); refine t_draw rfl (by kernel_rfl) ?_) | ((fail_if_success with_reducible refine t_bl ?_); (with_reducible refine t_block ?_)) | ((with_reducible refine t_isExit ?_); refine t_exit rfl ?_) | simp only [decide_eq_true_eq, decide_eq_false_iff_not, Bool.not_eq_true', Bool.not_eq_false'] at * | simp (disch := omega) only [go_sem, Nat.reduceLT, Nat.reduceEqDiff, Nat.reduceAdd, Nat.reduceLeDiff, Nat.reduceMul, Int.reduceLT, Int.reduceLE, Int.reduceAdd, Int.reduceSub, Int.reduceNeg, Int.reduceToNat, Int.reduceBEq, Int.reduceEq, reduceCtorEq, ↓reduceIte, *] | (with_reducible first | refine tb_true ?_ | refine tb_false ?_) | ((with_reducible first | refine tb_split ?_ ?_ | refine wg_f ?_ ?_ | refine wg_t ?_ ?_ | refine wd_f ?_ ?_ | refine wd_t ?_ ?_) <;> intro _)
      exact Sub.of (.cons _ (.cons_cons _ (.cons _ (List.Sublist.refl _)))) (Nat.le_refl _)
end Go.Proofs.YthahgmncnbeddaaGreatDoorA
