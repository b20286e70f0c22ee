/- solve.Next; solves. -/
import Derived.Test.YthahgmncnbeddaaGreatDoorSF
import Derived.Test.YthahgmncnbeddaaGreatDoorMH
set_option linter.unusedVariables false
set_option linter.unusedSimpArgs false
namespace Go.Proofs.YthahgmncnbeddaaGreatDoorA
open Go Go.RowKit Go.Proofs.YthahgmncnbeddaaGreatDoorFx Go.Proofs
attribute [local go_sem] List.take_succ_cons List.take_zero List.take_nil List.drop_succ_cons List.drop_nil List.cons_append List.nil_append List.set_cons_zero List.set_cons_succ
variable {m : Int}
/-- What a search answers: the first of the days. -/
def nxR : List Int → AV
  | [] => .tup [.i .i64 0, .i .i64 6]
  | x :: _ => .tup [.i .i64 x, .i .i64 0]
set_option maxRecDepth 100000 in
set_option maxHeartbeats 8000000 in
theorem solSearchP {t : Fs} (hw : t.wf Known) (hd : t.depth ≤ 10) (hs : t.size ≤ 40) (hc : MeetsP Tryz.prog (glF m) 15 [.agg t.row] (.i .i64 0)) {day : Int} (h1 : chkDay day = 0) :
    MeetsP Tryz.prog (glF m) 36 [.agg t.row, .i .i64 day, .i .i64 1] (nxR (fil (t.on dN) day 3001)) := by
  have bd1 := chkDay_bb h1
  have hda := daysAll m t hw
  have hck1 := weakP (glF_of m) (lineCheck (m := m) day)
  rw [h1] at hck1
  have hal : ∀ L, (t.add L).length ≤ L.length + t.size := fun L => t.add_len L
  have hat : ∀ (lo : Int) (N j : Nat), j < N → (boL (t.on dN) lo N N)[j]? = some [.b (t.on dN (lo + j))] := fun lo N j hj => by
    rw [boL_at hj]; simp [hj]
  have hlen := fun (lo : Int) (N : Nat) => boL_len (t.on dN) lo N N
  have hfs : ∀ j : Nat, fil (t.on dN) day (j + 1) = fil (t.on dN) day j ++ (if t.on dN (day + j) then [day + (j : Int)] else []) := fun j => rfl
  have hf0 : fil (t.on dN) day 0 = [] := rfl
  have hfa : ∀ a b : Nat, a + b = 3001 → ∃ l, fil (t.on dN) day 3001 = fil (t.on dN) day a ++ l := fun a b e => ⟨_, by rw [← e]; exact fil_add a b⟩
  have hda2 : ∀ (lo hi : Int) (N : Nat), hi - lo + 1 = N → -5000000 ≤ lo → lo ≤ 5000000 → N ≤ 3001 → 1 ≤ N → ∀ (L : List (List UInt8)), L.length ≤ 3000 → ∀ (b n : Nat), 1 < b → b + 2 ≤ n →
    ∃ id b' n', n ≤ id ∧ id < n' ∧ id ≠ b' ∧ id ≠ b' + 1 ∧ 1 < b' ∧ b' + 2 ≤ n' ∧ n ≤ n' ∧
    MeetsH (EG (glF m)) 33 [.ptr 1 0 0, .agg t.row, .i .i64 lo, .i .i64 hi] ⟨finI 1 L b (b + 1), n⟩ (Is (.ret (.osl id 0 N)) ⟨(id, .rows 1 (boL (t.on dN) lo N N)) :: finI 1 (t.add L) b' (b' + 1), n'⟩) := fun lo hi N h1 h2 h3 h4 h5 L h6 b n h7 h8 => by
      obtain ⟨id, b', n', p1, p2, p3, p4, p0, p5, p6, p7, k1⟩ := hda lo hi N h1 (by omega) (by omega) (by omega) h5 L (by omega) 1 b n h7 h8
      exact ⟨id, b', n', p1, p2, p3, p4, p5, p6, p7, k1.to (ew m) (glF_of m) (M' := fun _ _ => none)⟩
  clear hda
  generalize fil (t.on dN) day = FL at *
  generalize hBL : boL (t.on dN) = BL at *
  clear hBL
  generalize t.on dN = g at *
  obtain ⟨xk, xa, xb, xn, xs, hx⟩ := t.row5
  rw [hx] at hc ⊢
  rw [hx] at hda2
  have hts := hs
  generalize hadd : t.add = AD at *
  generalize hsz : t.size = SZ at *
  clear hw hd hs hx h1 hadd hsz
  have Q := hid (And.intro hda2 (And.intro hal (And.intro hfs (And.intro hfa (And.intro hat hlen)))))
  clear hda2 hal hfs hfa hat hlen
  refine meetsP (E := (EG (glF m))) 81 [.tmp 6, .tmp 7] (eg (glF m)) Tryz.func36 rfl (by decide) rfl rfl (by simp) ?_
  repeat' first | (with_reducible refine t_bx 3 (id := 0) (kk := 5) (row := [.i .i64 xk, .i .i64 xa, .i .i64 xb, .s xn, .isl false 5 xs]) (C := [(0, .rows 5 [_])]) (C' := []) rfl rfl rfl rfl ?_) | ((with_reducible refine wr_isCall ?_); first | refine wr_P hc rfl ?_ | refine wr_P hck1 rfl ?_) | (with_reducible first | refine t_seq ?_ | refine t_skip ?_ | refine t_ret ?_ | refine t_end ?_ | refine t_cond ?_ | refine t_region ?_ | refine wr_done ?_ | refine WD.done _ ?_ | refine wdp_done ?_ | refine wdg_done ?_ | refine tr_some ?_ | refine t_inBlock ?_) | ((with_reducible refine t_isDraw ?_); refine t_draw rfl (by kernel_rfl) ?_) | ((fail_if_success with_reducible refine t_bl ?_); (with_reducible refine t_block ?_)) | ((with_reducible refine t_isExit ?_); refine t_exit rfl ?_) | simp only [decide_eq_true_eq, decide_eq_false_iff_not, Bool.not_eq_true', Bool.not_eq_false'] at * | simp (disch := omega) only [go_sem, Nat.reduceLT, Nat.reduceEqDiff, Nat.reduceAdd, Nat.reduceLeDiff, Nat.reduceMul, Int.reduceLT, Int.reduceLE, Int.reduceAdd, Int.reduceSub, Int.reduceNeg, Int.reduceToNat, Int.reduceBEq, Int.reduceEq, reduceCtorEq, ↓reduceIte, *] | (with_reducible first | refine tb_true ?_ | refine tb_false ?_) | ((with_reducible first | refine tb_split ?_ ?_ | refine wg_f ?_ ?_ | refine wg_t ?_ ?_ | refine wd_f ?_ ?_ | refine wd_t ?_ ?_) <;> intro _)
  all_goals first | (exfalso; omega) | skip
  refine t_fg (c' := finI 1 [] 2 3) (n' := 4) ⟨fun _ q => q, fun q => q, show (2 : Nat) ≤ 4 by omega⟩ ?_
  refine t_while (I := fun (a : Nat) t h => a ≤ 3001 ∧ FL a = [] ∧ (∃ (L : List (List UInt8)) (b n : Nat) (s : Int), 50 ≤ s ∧ s ≤ 10000 ∧ (a ≤ 3000 → s = a + 50 ∧ L.length ≤ a) ∧ 1 < b ∧ b + 2 ≤ n ∧ h = ⟨finI 1 L b (b + 1), n⟩ ∧ get t 10 = .i .i64 s) ∧ get t 1 = .i .i64 day ∧ get t 2 = .i .i64 1 ∧ get t 3 = .ip [.i .i64 xk, .i .i64 xa, .i .i64 xb, .s xn, .isl false 5 xs] 0 ∧ get t 9 = .ptr 1 0 0 ∧ get t 11 = .i .i64 a) (m := fun a => 3001 - a)
    (J := fun t h => FL 3001 = [] ∧ ∃ c n, h = ⟨c, n⟩) 0
    ⟨by omega, hf0, ⟨[], 2, 4, 50, by omega, by omega, fun _ => ⟨by omega, by simp⟩, by omega, by omega, rfl, by simp [get]⟩, by simp [get], by simp [get], by simp [get], by simp [get], by simp [get]⟩ ?_ ?_
  · rintro a t h ⟨ha, hfa0, ⟨L, b, n, s, hs1, hs2, hs3, hb, hn, rfl, g10⟩, g1, g2, g3, g9, g11⟩ hrec hex
    by_cases ha' : a ≤ 3000
    · obtain ⟨hda2, hal, hfs, hfa, hat, hlen⟩ := Q
      obtain ⟨hs4, hL⟩ := hs3 ha'
      subst hs4
      obtain ⟨N, hN⟩ : ∃ N : Nat, (N : Int) = min ((a : Int) + 50) (3000 - (a : Int) + 1) := ⟨(min ((a : Int) + 50) (3000 - (a : Int) + 1)).toNat, by omega⟩
      obtain ⟨id, b', n', p1, p2, p3, p4, p5, p6, p7, k1⟩ := hda2 (day + a) (day + a + N - 1) N (by omega) (by omega) (by omega) (by omega) (by omega) L (by omega) b n hb hn
      have hmn : min ((a : Int) + 50) (3000 - (a : Int) + 1) = N := hN.symm
      have hN1 : 1 ≤ N := by omega
      have hN2 : (N : Int) ≤ a + 50 := by omega
      have hN3 : (N : Int) ≤ 3000 - a + 1 := by omega
      have hN4 : N = 3001 - a ∨ (N : Int) = a + 50 := by omega
      have hadl := hal L
      generalize AD L = L' at *
      generalize hF : finI 1 L b (b + 1) = F0 at *
      generalize hF' : finI 1 L' b' (b' + 1) = F1 at *
      clear hda2 hc hck1 hs3
      have hrest := fun (a' : Nat) t' (L : List (List UInt8)) (b n : Nat) (s' : Int) (h1 : a' ≤ 3001) (h2 : FL a' = []) (h3 : 50 ≤ s' ∧ s' ≤ 10000 ∧ (a' ≤ 3000 → s' = a' + 50 ∧ L.length ≤ a') ∧ 1 < b ∧ b + 2 ≤ n) (h4 : get t' 10 = .i .i64 s') h5 h6 h7 h8 h9 (h10 : 3001 - a' < 3001 - a) => hrec a' t' ⟨finI 1 L b (b + 1), n⟩ ⟨h1, h2, ⟨L, b, n, s', h3.1, h3.2.1, h3.2.2.1, h3.2.2.2.1, h3.2.2.2.2, rfl, h4⟩, h5, h6, h7, h8, h9⟩ h10
      have Q2 := hid (And.intro hal (And.intro hfs (And.intro hfa (And.intro hat hlen))))
      have Q3 := hid hN4
      clear hrec hal hfs hfa hat hlen hN hN4
      repeat' first | ((with_reducible refine wr_isCall ?_); refine wr_ret k1 ?_) | (with_reducible first | refine t_seq ?_ | refine t_skip ?_ | refine t_ret ?_ | refine t_end ?_ | refine t_cond ?_ | refine t_region ?_ | refine wr_done ?_ | refine WD.done _ ?_ | refine wdp_done ?_ | refine wdg_done ?_ | refine tr_some ?_ | refine t_inBlock ?_) | ((with_reducible refine t_isDraw ?_); refine t_draw rfl (by kernel_rfl) ?_) | ((fail_if_success with_reducible refine t_bl ?_); (with_reducible refine t_block ?_)) | ((with_reducible refine t_isExit ?_); refine t_exit rfl ?_) | simp only [decide_eq_true_eq, decide_eq_false_iff_not, Bool.not_eq_true', Bool.not_eq_false'] at * | simp (disch := omega) only [go_sem, Nat.reduceLT, Nat.reduceEqDiff, Nat.reduceAdd, Nat.reduceLeDiff, Nat.reduceMul, Int.reduceLT, Int.reduceLE, Int.reduceAdd, Int.reduceSub, Int.reduceNeg, Int.reduceToNat, Int.reduceBEq, Int.reduceEq, reduceCtorEq, ↓reduceIte, *] | (with_reducible first | refine tb_true ?_ | refine tb_false ?_) | ((with_reducible first | refine tb_split ?_ ?_ | refine wg_f ?_ ?_ | refine wg_t ?_ ?_ | refine wd_f ?_ ?_ | refine wd_t ?_ ?_) <;> intro _)
      all_goals first | (exfalso; omega) | skip
      obtain ⟨hal, hfs, hfa, hat, hlen⟩ := Q2
      have hat := hat (day + a) N
      have hlen := hlen (day + a) N
      have hN4 : N = 3001 - a ∨ (N : Int) = a + 50 := Q3
      generalize BL (day + a) N N = B at *
      have Q4 := hid (And.intro hfs (And.intro hfa (And.intro hat (And.intro hN4 hadl))))
      clear hfs hfa hat hN4 hal Q3 hadl
      refine t_while (I := fun (i : Nat) t' h => i ≤ N ∧ FL (a + i) = [] ∧ h = ⟨(id, .rows 1 B) :: F1, n'⟩ ∧ get t' 1 = .i .i64 day ∧ get t' 2 = .i .i64 1 ∧ get t' 3 = .ip [.i .i64 xk, .i .i64 xa, .i .i64 xb, .s xn, .isl false 5 xs] 0 ∧ get t' 9 = .ptr 1 0 0 ∧ get t' 10 = .i .i64 (a + 50) ∧ get t' 11 = .i .i64 a ∧ get t' 12 = .i .i64 N ∧ get t' 13 = .i .i64 (day + a) ∧ get t' 15 = .osl id 0 N ∧ get t' 57 = .i .i64 N ∧ get t' 58 = .i .i64 i) (m := fun i => N - i)
        (J := fun t' h => FL (a + N) = [] ∧ h = ⟨(id, .rows 1 B) :: F1, n'⟩ ∧ get t' 1 = .i .i64 day ∧ get t' 2 = .i .i64 1 ∧ get t' 3 = .ip [.i .i64 xk, .i .i64 xa, .i .i64 xb, .s xn, .isl false 5 xs] 0 ∧ get t' 9 = .ptr 1 0 0 ∧ get t' 10 = .i .i64 (a + 50) ∧ get t' 11 = .i .i64 a ∧ get t' 12 = .i .i64 N) 0
        ⟨by omega, hfa0, rfl, by simp [get, g1], by simp [get, g2], by simp [get, g3], by simp [get, g9], by simp [get, g10], by simp [get, g11], by simp [get], by simp [get], by simp [get], by simp [get], by simp [get]⟩ ?_ ?_
      · clear g1 g2 g3 g9 g10 g11 hex
        rintro i t' h ⟨hi, hfi, rfl, g1, g2, g3, g9, g10, g11, g12, g13, g15, g57, g58⟩ hrec' hex
        by_cases hi' : i < N
        · obtain ⟨hfs, hfa, hat, -⟩ := Q4
          have hb := hat i hi'
          have hs1 := hfs (a + i)
          rw [hfi, List.nil_append, show day + ((a + i : Nat) : Int) = day + a + i by omega] at hs1
          have hfa1 := hfa (a + i + 1) (3001 - (a + i + 1)) (by omega)
          clear hfs hfa hat
          generalize g (day + a + i) = x at *
          cases x
          · rw [if_neg (by simp)] at hs1
            clear hfa1
            repeat' first | (with_reducible first | refine t_seq ?_ | refine t_skip ?_ | refine t_ret ?_ | refine t_end ?_ | refine t_cond ?_ | refine t_region ?_ | refine wr_done ?_ | refine WD.done _ ?_ | refine wdp_done ?_ | refine wdg_done ?_ | refine tr_some ?_ | refine t_inBlock ?_) | ((with_reducible refine t_isDraw ?_); refine t_draw rfl (by kernel_rfl) ?_) | ((fail_if_success with_reducible refine t_bl ?_); (with_reducible refine t_block ?_)) | ((with_reducible refine t_isExit ?_); refine t_exit rfl ?_) | simp only [decide_eq_true_eq, decide_eq_false_iff_not, Bool.not_eq_true', Bool.not_eq_false'] at * | simp (disch := omega) only [go_sem, Nat.reduceLT, Nat.reduceEqDiff, Nat.reduceAdd, Nat.reduceLeDiff, Nat.reduceMul, Int.reduceLT, Int.reduceLE, Int.reduceAdd, Int.reduceSub, Int.reduceNeg, Int.reduceToNat, Int.reduceBEq, Int.reduceEq, reduceCtorEq, ↓reduceIte, *] | (with_reducible first | refine tb_true ?_ | refine tb_false ?_) | ((with_reducible first | refine tb_split ?_ ?_ | refine wg_f ?_ ?_ | refine wg_t ?_ ?_ | refine wd_f ?_ ?_ | refine wd_t ?_ ?_) <;> intro _)
            all_goals first | (exfalso; omega) | skip
            exact hrec' (i + 1) _ _ ⟨by omega, hs1, rfl, by simp [get, g1], by simp [get, g2], by simp [get, g3], by simp [get, g9], by simp [get, g10], by simp [get, g11], by simp [get, g12], by simp [get, g13], by simp [get, g15], by simp [get, g57], by simp [get] <;> omega⟩ (by omega)
          · rw [if_pos rfl] at hs1
            obtain ⟨l, hfa1⟩ := hfa1
            rw [hs1, List.cons_append, List.nil_append] at hfa1
            rw [hfa1]
            unfold nxR
            clear hrest hrec' hs1 hfa1 hfi
            repeat' first | (with_reducible first | refine t_seq ?_ | refine t_skip ?_ | refine t_ret ?_ | refine t_end ?_ | refine t_cond ?_ | refine t_region ?_ | refine wr_done ?_ | refine WD.done _ ?_ | refine wdp_done ?_ | refine wdg_done ?_ | refine tr_some ?_ | refine t_inBlock ?_) | ((with_reducible refine t_isDraw ?_); refine t_draw rfl (by kernel_rfl) ?_) | ((fail_if_success with_reducible refine t_bl ?_); (with_reducible refine t_block ?_)) | ((with_reducible refine t_isExit ?_); refine t_exit rfl ?_) | simp only [decide_eq_true_eq, decide_eq_false_iff_not, Bool.not_eq_true', Bool.not_eq_false'] at * | simp (disch := omega) only [go_sem, Nat.reduceLT, Nat.reduceEqDiff, Nat.reduceAdd, Nat.reduceLeDiff, Nat.reduceMul, Int.reduceLT, Int.reduceLE, Int.reduceAdd, Int.reduceSub, Int.reduceNeg, Int.reduceToNat, Int.reduceBEq, Int.reduceEq, reduceCtorEq, ↓reduceIte, *] | (with_reducible first | refine tb_true ?_ | refine tb_false ?_) | ((with_reducible first | refine tb_split ?_ ?_ | refine wg_f ?_ ?_ | refine wg_t ?_ ?_ | refine wd_f ?_ ?_ | refine wd_t ?_ ?_) <;> intro _)
            all_goals first | (exfalso; omega) | exact ⟨rfl, rfl⟩
        · have : i = N := by omega
          rw [this] at hfi
          clear Q4 hrest hrec'
          repeat' first | refine hex _ _ ?_ | (with_reducible first | refine t_seq ?_ | refine t_skip ?_ | refine t_ret ?_ | refine t_end ?_ | refine t_cond ?_ | refine t_region ?_ | refine wr_done ?_ | refine WD.done _ ?_ | refine wdp_done ?_ | refine wdg_done ?_ | refine tr_some ?_ | refine t_inBlock ?_) | ((with_reducible refine t_isDraw ?_); refine t_draw rfl (by kernel_rfl) ?_) | ((fail_if_success with_reducible refine t_bl ?_); (with_reducible refine t_block ?_)) | ((with_reducible refine t_isExit ?_); refine t_exit rfl ?_) | simp only [decide_eq_true_eq, decide_eq_false_iff_not, Bool.not_eq_true', Bool.not_eq_false'] at * | simp (disch := omega) only [go_sem, Nat.reduceLT, Nat.reduceEqDiff, Nat.reduceAdd, Nat.reduceLeDiff, Nat.reduceMul, Int.reduceLT, Int.reduceLE, Int.reduceAdd, Int.reduceSub, Int.reduceNeg, Int.reduceToNat, Int.reduceBEq, Int.reduceEq, reduceCtorEq, ↓reduceIte, *] | (with_reducible first | refine tb_true ?_ | refine tb_false ?_) | ((with_reducible first | refine tb_split ?_ ?_ | refine wg_f ?_ ?_ | refine wg_t ?_ ?_ | refine wd_f ?_ ?_ | refine wd_t ?_ ?_) <;> intro _)
          all_goals first | (exfalso; omega) | skip
          all_goals exact ⟨hfi, rfl, by simp [get, g1], by simp [get, g2], by simp [get, g3], by simp [get, g9], by simp [get, g10], by simp [get, g11], by simp [get, g12]⟩
      · clear g1 g2 g3 g9 g10 g11 hex
        rintro t' h ⟨hf, rfl, g1, g2, g3, g9, g10, g11, g12⟩
        have Q5 := hid hrest
        clear hrest
        repeat' first | (with_reducible first | refine t_seq ?_ | refine t_skip ?_ | refine t_ret ?_ | refine t_end ?_ | refine t_cond ?_ | refine t_region ?_ | refine wr_done ?_ | refine WD.done _ ?_ | refine wdp_done ?_ | refine wdg_done ?_ | refine tr_some ?_ | refine t_inBlock ?_) | ((with_reducible refine t_isDraw ?_); refine t_draw rfl (by kernel_rfl) ?_) | ((fail_if_success with_reducible refine t_bl ?_); (with_reducible refine t_block ?_)) | ((with_reducible refine t_isExit ?_); refine t_exit rfl ?_) | simp only [decide_eq_true_eq, decide_eq_false_iff_not, Bool.not_eq_true', Bool.not_eq_false'] at * | simp (disch := omega) only [go_sem, Nat.reduceLT, Nat.reduceEqDiff, Nat.reduceAdd, Nat.reduceLeDiff, Nat.reduceMul, Int.reduceLT, Int.reduceLE, Int.reduceAdd, Int.reduceSub, Int.reduceNeg, Int.reduceToNat, Int.reduceBEq, Int.reduceEq, reduceCtorEq, ↓reduceIte, *] | (with_reducible first | refine tb_true ?_ | refine tb_false ?_) | ((with_reducible first | refine tb_split ?_ ?_ | refine wg_f ?_ ?_ | refine wg_t ?_ ?_ | refine wd_f ?_ ?_ | refine wd_t ?_ ?_) <;> intro _)
        all_goals first | (exfalso; omega) | skip
        obtain ⟨-, -, -, hN4, hadl⟩ := Q4
        refine t_pop ?_
        rw [← hF']
        exact Q5 (a + N) _ L' b' n' ((a + 50) * 2) (by omega) hf ⟨by omega, by omega, fun q => ⟨by omega, by omega⟩, by omega, by omega⟩ (by simp [get]) (by simp [get, g1]) (by simp [get, g2]) (by simp [get, g3]) (by simp [get, g9]) (by simp [get]) (by omega)
    · have : a = 3001 := by omega
      subst this
      clear Q hc hck1 hs3
      generalize finI 1 L b (b + 1) = F0 at *
      repeat' first | refine hex _ _ ?_ | (with_reducible first | refine t_seq ?_ | refine t_skip ?_ | refine t_ret ?_ | refine t_end ?_ | refine t_cond ?_ | refine t_region ?_ | refine wr_done ?_ | refine WD.done _ ?_ | refine wdp_done ?_ | refine wdg_done ?_ | refine tr_some ?_ | refine t_inBlock ?_) | ((with_reducible refine t_isDraw ?_); refine t_draw rfl (by kernel_rfl) ?_) | ((fail_if_success with_reducible refine t_bl ?_); (with_reducible refine t_block ?_)) | ((with_reducible refine t_isExit ?_); refine t_exit rfl ?_) | simp only [decide_eq_true_eq, decide_eq_false_iff_not, Bool.not_eq_true', Bool.not_eq_false'] at * | simp (disch := omega) only [go_sem, Nat.reduceLT, Nat.reduceEqDiff, Nat.reduceAdd, Nat.reduceLeDiff, Nat.reduceMul, Int.reduceLT, Int.reduceLE, Int.reduceAdd, Int.reduceSub, Int.reduceNeg, Int.reduceToNat, Int.reduceBEq, Int.reduceEq, reduceCtorEq, ↓reduceIte, *] | (with_reducible first | refine tb_true ?_ | refine tb_false ?_) | ((with_reducible first | refine tb_split ?_ ?_ | refine wg_f ?_ ?_ | refine wg_t ?_ ?_ | refine wd_f ?_ ?_ | refine wd_t ?_ ?_) <;> intro _)
      all_goals first | (exfalso; omega) | exact ⟨rfl, rfl⟩ | exact ⟨hfa0, _, _, rfl⟩
  · rintro t h ⟨hf, c, n, rfl⟩
    clear Q hc hck1
    rw [hf]
    unfold nxR
    repeat' first | (with_reducible first | refine t_seq ?_ | refine t_skip ?_ | refine t_ret ?_ | refine t_end ?_ | refine t_cond ?_ | refine t_region ?_ | refine wr_done ?_ | refine WD.done _ ?_ | refine wdp_done ?_ | refine wdg_done ?_ | refine tr_some ?_ | refine t_inBlock ?_) | ((with_reducible refine t_isDraw ?_); refine t_draw rfl (by kernel_rfl) ?_) | ((fail_if_success with_reducible refine t_bl ?_); (with_reducible refine t_block ?_)) | ((with_reducible refine t_isExit ?_); refine t_exit rfl ?_) | simp only [decide_eq_true_eq, decide_eq_false_iff_not, Bool.not_eq_true', Bool.not_eq_false'] at * | simp (disch := omega) only [go_sem, Nat.reduceLT, Nat.reduceEqDiff, Nat.reduceAdd, Nat.reduceLeDiff, Nat.reduceMul, Int.reduceLT, Int.reduceLE, Int.reduceAdd, Int.reduceSub, Int.reduceNeg, Int.reduceToNat, Int.reduceBEq, Int.reduceEq, reduceCtorEq, ↓reduceIte, *] | (with_reducible first | refine tb_true ?_ | refine tb_false ?_) | ((with_reducible first | refine tb_split ?_ ?_ | refine wg_f ?_ ?_ | refine wg_t ?_ ?_ | refine wd_f ?_ ?_ | refine wd_t ?_ ?_) <;> intro _)
    exact ⟨rfl, rfl⟩
set_option maxRecDepth 100000 in
theorem nextP {t : Fs} (hw : t.wf Known) (hd : t.depth ≤ 10) (hs : t.size ≤ 40) (hc : MeetsP Tryz.prog (glF m) 15 [.agg t.row] (.i .i64 0)) {day : Int} (h1 : chkDay day = 0) :
    MeetsP Tryz.prog (glF m) 19 [.agg t.row, .i .i64 day] (nxR (fil (t.on dN) day 3001)) := by
  have h := solSearchP hw hd hs hc h1
  obtain ⟨xk, xa, xb, xn, xs, hx⟩ := t.row5
  rw [hx] at h ⊢
  generalize fil (t.on dN) day 3001 = FL at *
  clear hw hd hs hc h1 hx
  cases FL
  all_goals
    unfold nxR at *
    refine meetsP (E := (EG (glF m))) 11 [.tmp 4, .tmp 5] (eg (glF m)) Tryz.func19 rfl (by decide) rfl rfl (by simp) ?_
    repeat' first | ((with_reducible refine wr_isCall ?_); refine wr_P h rfl ?_) | (with_reducible first | refine t_seq ?_ | refine t_skip ?_ | refine t_ret ?_ | refine t_end ?_ | refine t_cond ?_ | refine t_region ?_ | refine wr_done ?_ | refine WD.done _ ?_ | refine wdp_done ?_ | refine wdg_done ?_ | refine tr_some ?_ | refine t_inBlock ?_) | ((with_reducible refine t_isDraw ?_); refine t_draw rfl (by kernel_rfl) ?_) | ((fail_if_success with_reducible refine t_bl ?_); (with_reducible refine t_block ?_)) | ((with_reducible refine t_isExit ?_); refine t_exit rfl ?_) | simp only [decide_eq_true_eq, decide_eq_false_iff_not, Bool.not_eq_true', Bool.not_eq_false'] at * | simp (disch := omega) only [go_sem, Nat.reduceLT, Nat.reduceEqDiff, Nat.reduceAdd, Nat.reduceLeDiff, Nat.reduceMul, Int.reduceLT, Int.reduceLE, Int.reduceAdd, Int.reduceSub, Int.reduceNeg, Int.reduceToNat, Int.reduceBEq, Int.reduceEq, reduceCtorEq, ↓reduceIte, *] | (with_reducible first | refine tb_true ?_ | refine tb_false ?_) | ((with_reducible first | refine tb_split ?_ ?_ | refine wg_f ?_ ?_ | refine wg_t ?_ ?_ | refine wd_f ?_ ?_ | refine wd_t ?_ ?_) <;> intro _)
    exact ⟨rfl, rfl⟩
/-- The set of the days divisible by 10. -/
def tenT : Fs := .leaf 4 10 0 []
set_option maxRecDepth 100000 in
theorem solvesP : MeetsP Tryz.prog (glF m) 11 [] (.b true) := by
  have hr : FeR tenT.row := .mk _ _ _ _ _ (by decide) (by decide) (by decide) (fun x hx => by cases hx) (by simp)
  have hst : tenT.st m 0 := .inr (.inr (.inr (.inl ⟨rfl, rfl, by omega, by omega, by omega, by omega⟩)))
  obtain ⟨e, hc, _, hu⟩ := checkF (m := m) hr
  have he := hu tenT rfl hst (by decide) (by decide)
  subst he
  have h := nextP (m := m) (tenT.st_wf 0 hst) (by decide) (by decide) hc (day := 1) (by decide)
  have hf : ∃ l, fil (tenT.on dN) 1 3001 = 10 :: l := by
    refine ⟨fil (tenT.on dN) (1 + (10 : Nat)) 2991, ?_⟩
    rw [show (3001 : Nat) = 10 + 2991 from rfl, fil_add]
    rfl
  obtain ⟨l, hf⟩ := hf
  rw [hf] at h
  unfold nxR at h
  have hw : Wk (.agg [.i .i64 4, .i .i64 10, .i .i64 0, .s [], .nils]) (.agg tenT.row) := (WkR.feast (Wk.nils 5)).agg
  replace h := h.nar1 hw
  have ht : MeetsP Tryz.prog (glF m) 25 [] (.agg [.i .i64 4, .i .i64 10, .i .i64 0, .s [], .nils]) := by
    refine meetsP (E := (EG (glF m))) 2 [.cell 0 24] (eg (glF m)) Tryz.func25 rfl (by decide) rfl rfl (by simp) ?_
    repeat' first | (with_reducible first | refine t_seq ?_ | refine t_skip ?_ | refine t_ret ?_ | refine t_end ?_ | refine t_cond ?_ | refine t_region ?_ | refine wr_done ?_ | refine WD.done _ ?_ | refine wdp_done ?_ | refine wdg_done ?_ | refine tr_some ?_ | refine t_inBlock ?_) | ((with_reducible refine t_isDraw ?_); refine t_draw rfl (by kernel_rfl) ?_) | ((fail_if_success with_reducible refine t_bl ?_); (with_reducible refine t_block ?_)) | ((with_reducible refine t_isExit ?_); refine t_exit rfl ?_) | simp only [decide_eq_true_eq, decide_eq_false_iff_not, Bool.not_eq_true', Bool.not_eq_false'] at * | simp (disch := omega) only [go_sem, Nat.reduceLT, Nat.reduceEqDiff, Nat.reduceAdd, Nat.reduceLeDiff, Nat.reduceMul, Int.reduceLT, Int.reduceLE, Int.reduceAdd, Int.reduceSub, Int.reduceNeg, Int.reduceToNat, Int.reduceBEq, Int.reduceEq, reduceCtorEq, ↓reduceIte, *] | (with_reducible first | refine tb_true ?_ | refine tb_false ?_) | ((with_reducible first | refine tb_split ?_ ?_ | refine wg_f ?_ ?_ | refine wg_t ?_ ?_ | refine wd_f ?_ ?_ | refine wd_t ?_ ?_) <;> intro _)
    exact ⟨rfl, rfl⟩
  refine meetsP (E := (EG (glF m))) 14 [.tmp 0] (eg (glF m)) Tryz.func11 rfl (by decide) rfl rfl (by simp) ?_
  repeat' first | ((with_reducible refine wr_isCall ?_); first | refine wr_P h rfl ?_ | refine wr_P ht rfl ?_) | (with_reducible first | refine t_seq ?_ | refine t_skip ?_ | refine t_ret ?_ | refine t_end ?_ | refine t_cond ?_ | refine t_region ?_ | refine wr_done ?_ | refine WD.done _ ?_ | refine wdp_done ?_ | refine wdg_done ?_ | refine tr_some ?_ | refine t_inBlock ?_) | ((with_reducible refine t_isDraw ?_); refine t_draw rfl (by kernel_rfl) ?_) | ((fail_if_success with_reducible refine t_bl ?_); (with_reducible refine t_block ?_)) | ((with_reducible refine t_isExit ?_); refine t_exit rfl ?_) | simp only [decide_eq_true_eq, decide_eq_false_iff_not, Bool.not_eq_true', Bool.not_eq_false'] at * | simp (disch := omega) only [go_sem, Nat.reduceLT, Nat.reduceEqDiff, Nat.reduceAdd, Nat.reduceLeDiff, Nat.reduceMul, Int.reduceLT, Int.reduceLE, Int.reduceAdd, Int.reduceSub, Int.reduceNeg, Int.reduceToNat, Int.reduceBEq, Int.reduceEq, reduceCtorEq, ↓reduceIte, *] | (with_reducible first | refine tb_true ?_ | refine tb_false ?_) | ((with_reducible first | refine tb_split ?_ ?_ | refine wg_f ?_ ?_ | refine wg_t ?_ ?_ | refine wd_f ?_ ?_ | refine wd_t ?_ ?_) <;> intro _)
  exact ⟨rfl, rfl⟩
end Go.Proofs.YthahgmncnbeddaaGreatDoorA
