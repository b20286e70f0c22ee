/- The n-th days of months: the finder's nth. -/
import Derived.Test.YthahgmncnbeddaaGreatDoorSD
import Derived.Test.YthahgmncnbeddaaGreatDoorPS11
import Derived.Test.YthahgmncnbeddaaGreatDoorNA
set_option linter.unusedVariables false
set_option linter.unusedSimpArgs false
namespace Go.Proofs.YthahgmncnbeddaaGreatDoorA
open Go Go.RowKit Go.Proofs.YthahgmncnbeddaaGreatDoorFx Go.Proofs
attribute [local go_sem] List.take_succ_cons List.take_zero List.take_nil List.drop_succ_cons List.drop_nil List.cons_append List.nil_append List.set_cons_zero List.set_cons_succ
variable {m : Int}
section
variable {E : Env} {f : FuncId} {K : List Item} {X : Ex → St → Prop}
/-- A slice that is not written any more. -/
theorem t_slc (d : Nat) {id kk M n2 N : Nat} {rows : List (List AV)} {t : List (Nat × AV)} {C C' : List (Nat × Ent)} (hl : look C id = some (.rows kk rows)) (hr : rmv C id = C') (hno : rows.all (fun row => row.all (noid 12)) = true) (hM : rows.length = M) (hd : get t d = .osl id 0 M)
    (h : T E f K ⟨(d, .isl true kk rows) :: t, N, ⟨C', n2⟩⟩ X) : T E f K ⟨t, N, ⟨C, n2⟩⟩ X := by
  refine t_freeze (S := ⟨t, N, ⟨C, n2⟩⟩) id (k := kk) (l := rows) (t' := (d, .isl true kk rows) :: t) hl hno (fun j => ?_) ?_
  · rw [get_cons]
    by_cases q : d = j
    · subst q
      rw [if_pos rfl]
      refine .inr ?_
      show _ = frz id kk rows 12 (get t d)
      rw [hd]
      simp only [frz]
      rw [if_pos ⟨trivial, by omega⟩, List.drop_zero, ← hM, List.take_length]
    · rw [if_neg q]; exact .inl rfl
  simp only [hr]
  exact h
/-- A box that is not written any more. -/
theorem t_bx (d : Nat) {id kk n2 N : Nat} {row : List AV} {t : List (Nat × AV)} {C C' : List (Nat × Ent)} (hl : look C id = some (.rows kk [row])) (hr : rmv C id = C') (hno : row.all (noid 12) = true) (hd : get t d = .ptr id 0 0)
    (h : T E f K ⟨(d, .ip row 0) :: t, N, ⟨C', n2⟩⟩ X) : T E f K ⟨t, N, ⟨C, n2⟩⟩ X := by
  refine t_freeze (S := ⟨t, N, ⟨C, n2⟩⟩) id (k := kk) (l := [row]) (t' := (d, .ip row 0) :: t) hl (by simp [hno]) (fun j => ?_) ?_
  · rw [get_cons]
    by_cases q : d = j
    · subst q
      rw [if_pos rfl]
      refine .inr ?_
      show _ = frz id kk [row] 12 (get t d)
      rw [hd]
      simp [frz]
    · rw [if_neg q]; exact .inl rfl
  simp only [hr]
  exact h
end
/-- The truths of the days ahead of a place; the others are not there yet. -/
def outL (on : Int → Bool) (lo low : Int) (i N : Nat) : List (List AV) := (List.range N).map fun (t : Nat) => [.b (decide (lo + t < low + i) && on (lo + t))]
theorem outL_len (on : Int → Bool) (lo low : Int) (i N : Nat) : (outL on lo low i N).length = N := by simp [outL]
theorem outL_at (on : Int → Bool) (lo low : Int) (i N : Nat) : ∀ t, t < N → ∃ v, (outL on lo low i N)[t]? = some [.b v] := fun t ht => ⟨decide (lo + (t : Int) < low + i) && on (lo + t), by rw [outL, List.getElem?_map, List.getElem?_range ht]; rfl⟩
theorem outL_zero (on : Int → Bool) (lo low : Int) (N : Nat) (h : low ≤ lo) : outL on lo low 0 N = List.replicate N [.b false] := by
  refine List.ext_getElem (by simp [outL]) fun i h1 h2 => ?_
  simp only [outL, List.getElem_map, List.getElem_range, List.getElem_replicate]
  rw [decide_eq_false (by omega)]
  rfl
theorem outL_all (on : Int → Bool) (lo low : Int) (i N : Nat) (h : lo + N ≤ low + i) : outL on lo low i N = boL on lo N N := by
  refine List.ext_getElem (by simp [outL, boL]) fun t h1 h2 => ?_
  have ht : t < N := by simpa [outL] using h1
  simp only [outL, boL, List.getElem_map, List.getElem_range]
  rw [decide_eq_true (by omega), decide_eq_true ht]
theorem outL_none {on : Int → Bool} {lo low : Int} {i k N : Nat} (hik : i ≤ k) (h : ∀ x, lo ≤ x → x < lo + N → low + i ≤ x → x < low + k → on x = false) : outL on lo low i N = outL on lo low k N := by
  refine List.ext_getElem (by simp [outL]) fun t h1 h2 => ?_
  have ht : t < N := by simpa [outL] using h1
  simp only [outL, List.getElem_map, List.getElem_range]
  by_cases q : lo + (t : Int) < low + i
  · rw [decide_eq_true q, decide_eq_true (show lo + (t : Int) < low + k by omega)]
  · by_cases q2 : lo + (t : Int) < low + k
    · rw [h (lo + t) (by omega) (by omega) (by omega) q2, Bool.and_false, Bool.and_false]
    · rw [decide_eq_false q, decide_eq_false q2]
theorem outL_mark {on : Int → Bool} {lo low z : Int} {i k N : Nat} (hz1 : lo ≤ z) (hz2 : z < lo + N) (hz3 : low + i ≤ z) (hz4 : z < low + k) (h : ∀ x, lo ≤ x → x < lo + N → low + i ≤ x → x < low + k → on x = decide (z = x)) : (outL on lo low i N).set (z - lo).toNat [.b true] = outL on lo low k N := by
  refine List.ext_getElem (by simp [outL]) fun t h1 h2 => ?_
  have ht : t < N := by simpa [outL] using h2
  rw [List.getElem_set]
  simp only [outL, List.getElem_map, List.getElem_range]
  by_cases e : (z - lo).toNat = t
  · rw [if_pos e]
    have ez : lo + (t : Int) = z := by omega
    rw [ez, decide_eq_true hz4, h z hz1 hz2 hz3 hz4, decide_eq_true rfl, Bool.true_and]
  · rw [if_neg e]
    by_cases q : lo + (t : Int) < low + i
    · rw [decide_eq_true q, decide_eq_true (show lo + (t : Int) < low + k by omega)]
    · by_cases q2 : lo + (t : Int) < low + k
      · rw [h (lo + t) (by omega) (by omega) (by omega) q2, decide_eq_false (show ¬ z = lo + (t : Int) by omega), Bool.and_false, Bool.and_false]
      · rw [decide_eq_false q, decide_eq_false q2]
def LpI (b : Nat) (l : List Int) (n : Nat) (e : AV) (L : List (Nat × Ent)) : Prop := (l = [] ∧ e = .nils ∧ L = []) ∨ ∃ id, l ≠ [] ∧ b ≤ id ∧ id < n ∧ e = .osl id 0 l.length ∧ L = [(id, .rows 1 (intR l))]
set_option maxRecDepth 100000 in
set_option maxHeartbeats 16000000 in
theorem nthP {a b : Int} {nm : List UInt8} {x : Fs} (hnm : ¬ Unknown nm) (ha1 : -50 ≤ a) (ha2 : a ≤ 50) (ha0 : a ≠ 0) (ih : DaysOk m x) (lo hi : Int) (N : Nat) (hN : hi - lo + 1 = N) (b1 : -90000000 + 1000 * ((x.depth : Int) + 1) ≤ lo) (b2 : lo ≤ 90000000 - 1000 * ((x.depth : Int) + 1)) (b3 : N + 1000 * (x.depth + 1) ≤ 90000) (b4 : 1 ≤ N)
    (L : List (List UInt8)) (hL : L.length + x.size + 1 ≤ 10000) (fid bb ob n : Nat) (hb : fid < bb) (hn : bb + 2 ≤ n) (o1 : ob < n) (o2 : ¬ ob = fid) (o3 : ¬ ob = bb) (o4 : ¬ ob = bb + 1) :
    ∃ b' n', ¬ ob = b' ∧ ¬ ob = b' + 1 ∧ (b' = bb ∨ n ≤ b') ∧ fid < b' ∧ b' + 2 ≤ n' ∧ n ≤ n' ∧ MeetsH (EW m) 52 [.ptr fid 0 0, .agg (Fs.one 12 a b nm x).row, .i .i64 lo, .i .i64 hi, .osl ob 0 N] ⟨(ob, .rows 1 (List.replicate N [.b false])) :: finI fid L bb (bb + 1), n⟩
      (Is (.ret (.tup [])) ⟨(ob, .rows 1 (boL (Fs.on dN (.one 12 a b nm x)) lo N N)) :: finI fid (x.add (addN L nm)) b' (b' + 1), n'⟩) := by
  have hal := addN_len L nm
  have hok := (calN_good (m := m) hnm).toOk
  have hLie := dOf_lie hok
  have hdt := (datesP (m := m) hnm (L := L) (lo := lo - 400) (hi := hi + 400) (N := N + 800) (by omega) (by omega) (by omega) (by omega) (by omega) (fid := fid) (b := bb) (n := n + 1) hb (by omega)).frameI [(ob, .rows 1 (List.replicate N [.b false]))]
  obtain ⟨id1, c1, n1, p1, p2, p3, p4, p0, p5, p6, p7, h1⟩ := ih (lo - 400) (hi + 400) (N + 800) (by omega) (by omega) (by omega) (by omega) (by omega) (addN L nm) (by omega) fid (n + 1 + 6) (n + 1 + 11 + (N + 800)) (by omega) (by omega)
  have k1 := h1.frameI [(ob, .rows 1 (List.replicate N [.b false]))]
  refine ⟨c1, n1 + 2 * N + 4000, by omega, by omega, by omega, by omega, by omega, by omega, MeetsH.subI ?_⟩
  simp only [List.cons_append, List.nil_append] at hdt k1
  have hD := fun i (hi : i < N + 800) => (show (daL (dN nm) (lo - 400) (N + 800) (N + 800))[i]? = some (daR (dN nm (lo - 400 + i))) by simp [daL, hi])
  have hDno := daL_noid (dN nm) (lo - 400) (N + 800)
  have hDl := daL_len (dN nm) (lo - 400) (N + 800) (N + 800)
  have hB := fun i (hi : i < N + 800) => boL_full (g := x.on dN) (lo := lo - 400) hi
  have hBno := boL_noid (x.on dN) (lo - 400) (N + 800) (N + 800)
  have hBl := boL_len (x.on dN) (lo - 400) (N + 800) (N + 800)
  have hOn : Fs.on dN (.one 12 a b nm x) = nthS (fun x => ((dOf (calN nm) x).1, (dOf (calN nm) x).2.1)) (x.on dN) a b := by
    funext y
    simp only [Fs.on]
    rfl
  rw [hOn]
  have z1 := outL_zero (nthS (fun x => ((dOf (calN nm) x).1, (dOf (calN nm) x).2.1)) (x.on dN) a b) lo (lo - 400) N (by omega)
  have z2 := outL_all (nthS (fun x => ((dOf (calN nm) x).1, (dOf (calN nm) x).2.1)) (x.on dN) a b) lo (lo - 400) (N + 800) N (by omega)
  generalize daL (dN nm) (lo - 400) (N + 800) (N + 800) = DL at *
  generalize boL (x.on dN) (lo - 400) (N + 800) (N + 800) = BL at *
  have hr1 : rmv (finI fid (addN L nm) (n + 1 + 6) (n + 1 + 7)) (n + 1 + 9) = finI fid (addN L nm) (n + 1 + 6) (n + 1 + 7) := rmv_fin (by omega) (by omega) (by omega)
  have hr2 : rmv (finI fid (x.add (addN L nm)) c1 (c1 + 1)) id1 = finI fid (x.add (addN L nm)) c1 (c1 + 1) := rmv_fin (by omega) (by omega) (by omega)
  obtain ⟨xk, xa, xb, xn, xs, hx⟩ := x.row5
  simp only [Fs.row]
  rw [hx] at k1 ⊢
  generalize finI fid L bb (bb + 1) = FI at *
  generalize finI fid (addN L nm) (n + 1 + 6) (n + 1 + 7) = FI1 at *
  generalize finI fid (x.add (addN L nm)) c1 (c1 + 1) = FI2 at *
  obtain ⟨i1, hi1, hb1⟩ := Option.map_eq_some_iff.1 (show (Tryz.prog.info? 3).map (·.bytes) = some 8 by kernel_rfl)
  have w0 : hi - lo + 1 = (N : Int) := hN
  have w4 : hi + 400 - (lo - 400) + 1 = ((N + 800 : Nat) : Int) := by omega
  have q0 : ¬ n = ob := by omega
  have q0' : ¬ ob = n := by omega
  have q1 : ¬ ob = n + 1 + 9 := by omega
  have q2 : ¬ ob = id1 := by omega
  have v1 : -90000000 ≤ lo := by omega
  have v2 : lo ≤ 90000000 := by omega
  have v3 : N ≤ 90000 := by omega
  have v4 : ob < n1 := by omega
  clear h1 ih p1 p2 p3 p4 p0 p5 p6 p7 b1 b2 b3 hL hn hb hx hal o1 o2 o3 o4
  refine meetsH (E := (EW m)) 164 [] Tryz.func52 rfl (by decide) rfl rfl (by simp) ?_
  repeat' first | (with_reducible refine t_bx 6 (id := n) (kk := 5) (row := [.i .i64 12, .i .i64 a, .i .i64 b, .s nm, .isl false 5 [[.i .i64 xk, .i .i64 xa, .i .i64 xb, .s xn, .isl false 5 xs]]]) (C := (n, .rows 5 [_]) :: (ob, _) :: FI) (C' := (ob, .rows 1 (List.replicate N [.b false])) :: FI) (by simp [look, Ent.plain]) (by simp [rmv]) rfl rfl ?_) | (with_reducible refine t_slc 12 (id := n + 1 + 9) (kk := 3) (C := (ob, _) :: (n + 1 + 9, _) :: FI1) (C' := (ob, .rows 1 (List.replicate N [.b false])) :: FI1) (by simp [look, Ent.plain, q1]) (by simp [rmv, q1]) hDno hDl rfl ?_) | (with_reducible refine t_slc 13 (id := id1) (kk := 1) (C := (ob, _) :: (id1, _) :: FI2) (C' := (ob, .rows 1 (List.replicate N [.b false])) :: FI2) (by simp [look, Ent.plain, q2]) (by simp [rmv, q2]) hBno hBl rfl ?_) | ((with_reducible refine wr_isCall ?_); first | refine wr_ret hdt ?_ | refine wr_ret k1 ?_) | (with_reducible first | refine t_seq ?_ | refine t_skip ?_ | refine t_ret ?_ | refine t_end ?_ | refine t_cond ?_ | refine t_region ?_ | refine wr_done ?_ | refine WD.done _ ?_ | refine wdp_done ?_ | refine tr_some ?_ | refine t_inBlock ?_) | ((with_reducible refine t_isDraw ?_); refine t_draw rfl (by kernel_rfl) ?_) | ((fail_if_success with_reducible refine t_bl ?_); (with_reducible refine t_block ?_)) | ((with_reducible refine t_isExit ?_); refine t_exit rfl ?_) | simp only [decide_eq_true_eq, decide_eq_false_iff_not, Bool.not_eq_true', Bool.not_eq_false'] at * | simp (disch := omega) only [go_sem, Nat.reduceLT, Nat.reduceEqDiff, Nat.reduceAdd, Nat.reduceLeDiff, Nat.reduceMul, Int.reduceLT, Int.reduceLE, Int.reduceAdd, Int.reduceSub, Int.reduceNeg, Int.reduceToNat, Int.reduceBEq, Int.reduceEq, reduceCtorEq, ↓reduceIte, *] | (with_reducible first | refine tb_true ?_ | refine tb_false ?_) | ((with_reducible first | refine tb_split ?_ ?_ | refine wg_f ?_ ?_ | refine wg_t ?_ ?_ | refine wd_f ?_ ?_ | refine wd_t ?_ ?_) <;> intro _)
  have hD2 := fun i (hi : i < N + 800) => (show DL[i]? = some [.i .i64 ((fun x => ((dOf (calN nm) x).1, (dOf (calN nm) x).2.1)) (lo - 400 + (i : Int))).1, .i .i64 ((fun x => ((dOf (calN nm) x).1, (dOf (calN nm) x).2.1)) (lo - 400 + (i : Int))).2, .i .i64 (dN nm (lo - 400 + i)).2.2] from hD i hi)
  clear hD hr1 hr2 hdt k1 hDno hBno hok w4 q0 q0' q1 q2 hOn
  generalize (fun x => ((dOf (calN nm) x).1, (dOf (calN nm) x).2.1)) = Dm at *
  generalize hkid : Fs.on dN x = kid at *
  generalize hon : nthS Dm kid a b = on at *
  clear hkid
  rw [← z1]
  clear z1
  refine t_while (I := fun (i : Nat) t h => i ≤ N + 800 ∧ (∃ nn, n1 ≤ nn ∧ nn ≤ n1 + 2 * i ∧ h = ⟨(ob, .rows 1 (outL on lo (lo - 400) i N)) :: FI2, nn⟩) ∧ (i = 0 ∨ i = N + 800 ∨ Dm (lo - 400 + (i : Int) - 1) ≠ Dm (lo - 400 + i) ∨ (Dm (lo - 400 + i)).2 = 0) ∧ get t 2 = .i .i64 lo ∧ get t 3 = .i .i64 hi ∧ get t 4 = .osl ob 0 N ∧ get t 6 = .ip [.i .i64 12, .i .i64 a, .i .i64 b, .s nm, .isl false 5 [[.i .i64 xk, .i .i64 xa, .i .i64 xb, .s xn, .isl false 5 xs]]] 0 ∧ get t 10 = .i .i64 (lo - 400) ∧ get t 12 = .isl true 3 DL ∧ get t 13 = .isl true 1 BL ∧ get t 14 = .i .i64 i) (m := fun i => N + 800 - i)
    (J := fun t h => ∃ nn, nn ≤ n1 + 2 * (N + 800) ∧ h = ⟨(ob, .rows 1 (outL on lo (lo - 400) (N + 800) N)) :: FI2, nn⟩) 0 ⟨by omega, ⟨n1, by omega, by omega, rfl⟩, .inl rfl, by simp [get], by simp [get], by simp [get], by simp [get], by simp [get], by simp [get], by simp [get], by simp [get]⟩ ?_ ?_
  · rintro i t h ⟨hii, ⟨nn, hn1, hn2, rfl⟩, hbd, t2, t3, t4, t6, t10, t12, t13, t14⟩ hrec hex
    by_cases hi' : i < N + 800
    · have gi := hD2 i hi'
      have hnx : ∀ (k n2 : Nat) (R : List (List AV)), i < k → k ≤ N + 800 → n1 ≤ n2 → n2 ≤ n1 + 2 * k → R = outL on lo (lo - 400) k N → (k = N + 800 ∨ Dm (lo - 400 + (k : Int) - 1) ≠ Dm (lo - 400 + k) ∨ (Dm (lo - 400 + k)).2 = 0) → ∀ t', get t' 2 = .i .i64 lo → get t' 3 = .i .i64 hi → get t' 4 = .osl ob 0 N → get t' 6 = .ip [.i .i64 12, .i .i64 a, .i .i64 b, .s nm, .isl false 5 [[.i .i64 xk, .i .i64 xa, .i .i64 xb, .s xn, .isl false 5 xs]]] 0 → get t' 10 = .i .i64 (lo - 400) → get t' 12 = .isl true 3 DL → get t' 13 = .isl true 1 BL → get t' 14 = .i .i64 k → _ := fun k n2 R a1 a2 a3 a4 a5 a6 t' b1 b2 b3 b4 b5 b6 b7 b8 =>
        hrec k t' ⟨(ob, .rows 1 R) :: FI2, n2⟩ ⟨a2, ⟨n2, a3, a4, by rw [a5]⟩, .inr a6, b1, b2, b3, b4, b5, b6, b7, b8⟩ (by omega)
      have hol := outL_len on lo (lo - 400) i N
      clear hrec hex
      have ci : (i : Int) < ((N + 800 : Nat) : Int) := by omega
      repeat' first | (with_reducible first | refine t_seq ?_ | refine t_skip ?_ | refine t_ret ?_ | refine t_end ?_ | refine t_cond ?_ | refine t_region ?_ | refine wr_done ?_ | refine WD.done _ ?_ | refine wdp_done ?_ | refine tr_some ?_ | refine t_inBlock ?_) | ((with_reducible refine t_isDraw ?_); refine t_draw rfl (by kernel_rfl) ?_) | ((fail_if_success with_reducible refine t_bl ?_); (with_reducible refine t_block ?_)) | ((with_reducible refine t_isExit ?_); refine t_exit rfl ?_) | simp only [decide_eq_true_eq, decide_eq_false_iff_not, Bool.not_eq_true', Bool.not_eq_false'] at * | simp (disch := omega) only [go_sem, Nat.reduceLT, Nat.reduceEqDiff, Nat.reduceAdd, Nat.reduceLeDiff, Nat.reduceMul, Int.reduceLT, Int.reduceLE, Int.reduceAdd, Int.reduceSub, Int.reduceNeg, Int.reduceToNat, Int.reduceBEq, Int.reduceEq, reduceCtorEq, ↓reduceIte, *] | (with_reducible first | refine tb_true ?_ | refine tb_false ?_) | ((with_reducible first | refine tb_split ?_ ?_ | refine wg_f ?_ ?_ | refine wg_t ?_ ?_ | refine wd_f ?_ ?_ | refine wd_t ?_ ?_) <;> intro _)
      refine t_while (I := fun (k : Nat) t h => i < k ∧ k ≤ N + 800 ∧ (∀ j : Nat, i ≤ j → j < k → Dm (lo - 400 + j) = Dm (lo - 400 + i)) ∧ ((Dm (lo - 400 + i)).2 = 0 → k = i + 1) ∧ h = ⟨(ob, .rows 1 (outL on lo (lo - 400) i N)) :: FI2, nn⟩ ∧ get t 2 = .i .i64 lo ∧ get t 3 = .i .i64 hi ∧ get t 4 = .osl ob 0 N ∧ get t 6 = .ip [.i .i64 12, .i .i64 a, .i .i64 b, .s nm, .isl false 5 [[.i .i64 xk, .i .i64 xa, .i .i64 xb, .s xn, .isl false 5 xs]]] 0 ∧ get t 10 = .i .i64 (lo - 400) ∧ get t 12 = .isl true 3 DL ∧ get t 13 = .isl true 1 BL ∧ get t 14 = .i .i64 i ∧ get t 15 = .i .i64 k) (m := fun k => N + 800 - k)
        (J := fun t h => ∃ k : Nat, i < k ∧ k ≤ N + 800 ∧ (∀ j : Nat, i ≤ j → j < k → Dm (lo - 400 + j) = Dm (lo - 400 + i)) ∧ ((Dm (lo - 400 + i)).2 = 0 → k = i + 1) ∧ (k = N + 800 ∨ (Dm (lo - 400 + i)).2 = 0 ∨ Dm (lo - 400 + k) ≠ Dm (lo - 400 + i)) ∧ h = ⟨(ob, .rows 1 (outL on lo (lo - 400) i N)) :: FI2, nn⟩ ∧ get t 2 = .i .i64 lo ∧ get t 3 = .i .i64 hi ∧ get t 4 = .osl ob 0 N ∧ get t 6 = .ip [.i .i64 12, .i .i64 a, .i .i64 b, .s nm, .isl false 5 [[.i .i64 xk, .i .i64 xa, .i .i64 xb, .s xn, .isl false 5 xs]]] 0 ∧ get t 10 = .i .i64 (lo - 400) ∧ get t 12 = .isl true 3 DL ∧ get t 13 = .isl true 1 BL ∧ get t 14 = .i .i64 i ∧ get t 15 = .i .i64 k) (i + 1)
        ⟨by omega, by omega, fun j h1 h2 => by rw [show j = i by omega], fun _ => rfl, rfl, by simp [get, t2], by simp [get, t3], by simp [get, t4], by simp [get, t6], by simp [get, t10], by simp [get, t12], by simp [get, t13], by simp [get, t14], by simp [get]⟩ ?_ ?_
      · rintro k t h ⟨hk1, hk2, hall, hm0, rfl, t2, t3, t4, t6, t10, t12, t13, t14, t15⟩ hrec hex
        have hexk : (k = N + 800 ∨ (Dm (lo - 400 + i)).2 = 0 ∨ Dm (lo - 400 + k) ≠ Dm (lo - 400 + i)) → ∀ t', get t' 2 = .i .i64 lo → get t' 3 = .i .i64 hi → get t' 4 = .osl ob 0 N → get t' 6 = .ip [.i .i64 12, .i .i64 a, .i .i64 b, .s nm, .isl false 5 [[.i .i64 xk, .i .i64 xa, .i .i64 xb, .s xn, .isl false 5 xs]]] 0 → get t' 10 = .i .i64 (lo - 400) → get t' 12 = .isl true 3 DL → get t' 13 = .isl true 1 BL → get t' 14 = .i .i64 i → get t' 15 = .i .i64 k → _ := fun a0 t' b1 b2 b3 b4 b5 b6 b7 b8 b9 =>
          hex t' ⟨(ob, .rows 1 (outL on lo (lo - 400) i N)) :: FI2, nn⟩ ⟨k, hk1, hk2, hall, hm0, a0, rfl, b1, b2, b3, b4, b5, b6, b7, b8, b9⟩
        have hreck : k < N + 800 → (Dm (lo - 400 + i)).2 ≠ 0 → Dm (lo - 400 + k) = Dm (lo - 400 + i) → ∀ t', get t' 2 = .i .i64 lo → get t' 3 = .i .i64 hi → get t' 4 = .osl ob 0 N → get t' 6 = .ip [.i .i64 12, .i .i64 a, .i .i64 b, .s nm, .isl false 5 [[.i .i64 xk, .i .i64 xa, .i .i64 xb, .s xn, .isl false 5 xs]]] 0 → get t' 10 = .i .i64 (lo - 400) → get t' 12 = .isl true 3 DL → get t' 13 = .isl true 1 BL → get t' 14 = .i .i64 i → get t' 15 = .i .i64 ((k : Int) + 1) → _ := fun a0 a1 a2 t' b1 b2 b3 b4 b5 b6 b7 b8 b9 =>
          hrec (k + 1) t' ⟨(ob, .rows 1 (outL on lo (lo - 400) i N)) :: FI2, nn⟩ ⟨by omega, by omega, fun j h1 h2 => by
            by_cases e : j = k
            · rw [e]; exact a2
            · exact hall j h1 (by omega), fun e => absurd e a1, rfl, b1, b2, b3, b4, b5, b6, b7, b8, by rw [b9]; rfl⟩ (by omega)
        clear hrec hex hnx hall hm0 hLie hon z2 hB
        by_cases hk' : k < N + 800
        · have gk := hD2 k hk'
          have ck : (k : Int) < ((N + 800 : Nat) : Int) := by omega
          clear hD2
          have hkk := hreck hk'
          clear hreck
          have hpe : ∀ p q : Int × Int, p.1 = q.1 → p.2 = q.2 → p = q := fun p q h1 h2 => Prod.ext h1 h2
          have hpn1 : ∀ p q : Int × Int, p.1 ≠ q.1 → p ≠ q := fun p q h1 h2 => h1 (by rw [h2])
          have hpn2 : ∀ p q : Int × Int, p.2 ≠ q.2 → p ≠ q := fun p q h1 h2 => h1 (by rw [h2])
          generalize Dm (lo - 400 + (k : Int)) = pk at *
          generalize Dm (lo - 400 + (i : Int)) = pi at *
          obtain ⟨yk, mk⟩ := pk
          obtain ⟨yi, mi⟩ := pi
          simp only at gk gi hexk hkk
          generalize (dN nm (lo - 400 + (k : Int))).2.2 = dk at *
          generalize (dN nm (lo - 400 + (i : Int))).2.2 = di at *
          generalize outL on lo (lo - 400) i N = OL at *
          clear hk' hi' hbd hk1 hk2 hn1 hn2 hii hol
          by_cases e1 : mi = 0
          · have hx := hexk (.inr (.inl e1))
            clear hexk hkk hpe hpn1 hpn2
            repeat' first | refine hx _ ?_ ?_ ?_ ?_ ?_ ?_ ?_ ?_ ?_ | (with_reducible first | refine t_seq ?_ | refine t_skip ?_ | refine t_ret ?_ | refine t_end ?_ | refine t_cond ?_ | refine t_region ?_ | refine wr_done ?_ | refine WD.done _ ?_ | refine wdp_done ?_ | refine tr_some ?_ | refine t_inBlock ?_) | ((with_reducible refine t_isDraw ?_); refine t_draw rfl (by kernel_rfl) ?_) | ((fail_if_success with_reducible refine t_bl ?_); (with_reducible refine t_block ?_)) | ((with_reducible refine t_isExit ?_); refine t_exit rfl ?_) | simp only [decide_eq_true_eq, decide_eq_false_iff_not, Bool.not_eq_true', Bool.not_eq_false'] at * | simp (disch := omega) only [go_sem, Nat.reduceLT, Nat.reduceEqDiff, Nat.reduceAdd, Nat.reduceLeDiff, Nat.reduceMul, Int.reduceLT, Int.reduceLE, Int.reduceAdd, Int.reduceSub, Int.reduceNeg, Int.reduceToNat, Int.reduceBEq, Int.reduceEq, reduceCtorEq, ↓reduceIte, *] | (with_reducible first | refine tb_true ?_ | refine tb_false ?_) | ((with_reducible first | refine tb_split ?_ ?_ | refine wg_f ?_ ?_ | refine wg_t ?_ ?_ | refine wd_f ?_ ?_ | refine wd_t ?_ ?_) <;> intro _)
            all_goals first | (exfalso; omega) | skip
            all_goals first | simp [get, t2, t3, t4, t6, t10, t12, t13, t14, t15]
          · by_cases e2 : mk = mi
            · by_cases e3 : yk = yi
              · have hx := hkk e1 (by rw [e2, e3])
                clear hexk hkk hpe hpn1 hpn2
                repeat' first | (with_reducible first | refine t_seq ?_ | refine t_skip ?_ | refine t_ret ?_ | refine t_end ?_ | refine t_cond ?_ | refine t_region ?_ | refine wr_done ?_ | refine WD.done _ ?_ | refine wdp_done ?_ | refine tr_some ?_ | refine t_inBlock ?_) | ((with_reducible refine t_isDraw ?_); refine t_draw rfl (by kernel_rfl) ?_) | ((fail_if_success with_reducible refine t_bl ?_); (with_reducible refine t_block ?_)) | ((with_reducible refine t_isExit ?_); refine t_exit rfl ?_) | simp only [decide_eq_true_eq, decide_eq_false_iff_not, Bool.not_eq_true', Bool.not_eq_false'] at * | simp (disch := omega) only [go_sem, Nat.reduceLT, Nat.reduceEqDiff, Nat.reduceAdd, Nat.reduceLeDiff, Nat.reduceMul, Int.reduceLT, Int.reduceLE, Int.reduceAdd, Int.reduceSub, Int.reduceNeg, Int.reduceToNat, Int.reduceBEq, Int.reduceEq, reduceCtorEq, ↓reduceIte, *] | (with_reducible first | refine tb_true ?_ | refine tb_false ?_) | ((with_reducible first | refine tb_split ?_ ?_ | refine wg_f ?_ ?_ | refine wg_t ?_ ?_ | refine wd_f ?_ ?_ | refine wd_t ?_ ?_) <;> intro _)
                all_goals first | (exfalso; omega) | skip
                all_goals exact hx _ (by simp [get, t2]) (by simp [get, t3]) (by simp [get, t4]) (by simp [get, t6]) (by simp [get, t10]) (by simp [get, t12]) (by simp [get, t13]) (by simp [get, t14]) (by simp [get])
              · have hx := hexk (.inr (.inr (hpn1 _ _ e3)))
                clear hexk hkk hpe hpn1 hpn2
                repeat' first | refine hx _ ?_ ?_ ?_ ?_ ?_ ?_ ?_ ?_ ?_ | (with_reducible first | refine t_seq ?_ | refine t_skip ?_ | refine t_ret ?_ | refine t_end ?_ | refine t_cond ?_ | refine t_region ?_ | refine wr_done ?_ | refine WD.done _ ?_ | refine wdp_done ?_ | refine tr_some ?_ | refine t_inBlock ?_) | ((with_reducible refine t_isDraw ?_); refine t_draw rfl (by kernel_rfl) ?_) | ((fail_if_success with_reducible refine t_bl ?_); (with_reducible refine t_block ?_)) | ((with_reducible refine t_isExit ?_); refine t_exit rfl ?_) | simp only [decide_eq_true_eq, decide_eq_false_iff_not, Bool.not_eq_true', Bool.not_eq_false'] at * | simp (disch := omega) only [go_sem, Nat.reduceLT, Nat.reduceEqDiff, Nat.reduceAdd, Nat.reduceLeDiff, Nat.reduceMul, Int.reduceLT, Int.reduceLE, Int.reduceAdd, Int.reduceSub, Int.reduceNeg, Int.reduceToNat, Int.reduceBEq, Int.reduceEq, reduceCtorEq, ↓reduceIte, *] | (with_reducible first | refine tb_true ?_ | refine tb_false ?_) | ((with_reducible first | refine tb_split ?_ ?_ | refine wg_f ?_ ?_ | refine wg_t ?_ ?_ | refine wd_f ?_ ?_ | refine wd_t ?_ ?_) <;> intro _)
                all_goals first | (exfalso; omega) | skip
                all_goals first | simp [get, t2, t3, t4, t6, t10, t12, t13, t14, t15]
            · have hx := hexk (.inr (.inr (hpn2 _ _ e2)))
              clear hexk hkk hpe hpn1 hpn2
              repeat' first | refine hx _ ?_ ?_ ?_ ?_ ?_ ?_ ?_ ?_ ?_ | (with_reducible first | refine t_seq ?_ | refine t_skip ?_ | refine t_ret ?_ | refine t_end ?_ | refine t_cond ?_ | refine t_region ?_ | refine wr_done ?_ | refine WD.done _ ?_ | refine wdp_done ?_ | refine tr_some ?_ | refine t_inBlock ?_) | ((with_reducible refine t_isDraw ?_); refine t_draw rfl (by kernel_rfl) ?_) | ((fail_if_success with_reducible refine t_bl ?_); (with_reducible refine t_block ?_)) | ((with_reducible refine t_isExit ?_); refine t_exit rfl ?_) | simp only [decide_eq_true_eq, decide_eq_false_iff_not, Bool.not_eq_true', Bool.not_eq_false'] at * | simp (disch := omega) only [go_sem, Nat.reduceLT, Nat.reduceEqDiff, Nat.reduceAdd, Nat.reduceLeDiff, Nat.reduceMul, Int.reduceLT, Int.reduceLE, Int.reduceAdd, Int.reduceSub, Int.reduceNeg, Int.reduceToNat, Int.reduceBEq, Int.reduceEq, reduceCtorEq, ↓reduceIte, *] | (with_reducible first | refine tb_true ?_ | refine tb_false ?_) | ((with_reducible first | refine tb_split ?_ ?_ | refine wg_f ?_ ?_ | refine wg_t ?_ ?_ | refine wd_f ?_ ?_ | refine wd_t ?_ ?_) <;> intro _)
              all_goals first | (exfalso; omega) | skip
              all_goals first | simp [get, t2, t3, t4, t6, t10, t12, t13, t14, t15]
        · have hx := hexk (.inl (by omega))
          have ck : ¬ (k : Int) < ((N + 800 : Nat) : Int) := by omega
          clear hexk hreck hD2 gi
          repeat' first | refine hx _ ?_ ?_ ?_ ?_ ?_ ?_ ?_ ?_ ?_ | (with_reducible first | refine t_seq ?_ | refine t_skip ?_ | refine t_ret ?_ | refine t_end ?_ | refine t_cond ?_ | refine t_region ?_ | refine wr_done ?_ | refine WD.done _ ?_ | refine wdp_done ?_ | refine tr_some ?_ | refine t_inBlock ?_) | ((with_reducible refine t_isDraw ?_); refine t_draw rfl (by kernel_rfl) ?_) | ((fail_if_success with_reducible refine t_bl ?_); (with_reducible refine t_block ?_)) | ((with_reducible refine t_isExit ?_); refine t_exit rfl ?_) | simp only [decide_eq_true_eq, decide_eq_false_iff_not, Bool.not_eq_true', Bool.not_eq_false'] at * | simp (disch := omega) only [go_sem, Nat.reduceLT, Nat.reduceEqDiff, Nat.reduceAdd, Nat.reduceLeDiff, Nat.reduceMul, Int.reduceLT, Int.reduceLE, Int.reduceAdd, Int.reduceSub, Int.reduceNeg, Int.reduceToNat, Int.reduceBEq, Int.reduceEq, reduceCtorEq, ↓reduceIte, *] | (with_reducible first | refine tb_true ?_ | refine tb_false ?_) | ((with_reducible first | refine tb_split ?_ ?_ | refine wg_f ?_ ?_ | refine wg_t ?_ ?_ | refine wd_f ?_ ?_ | refine wd_t ?_ ?_) <;> intro _)
          all_goals first | (exfalso; omega) | skip
          all_goals first | simp [get, t2, t3, t4, t6, t10, t12, t13, t14, t15]
      · rintro t h ⟨k, hk1, hk2, hall, hm0, hend, rfl, t2, t3, t4, t6, t10, t12, t13, t14, t15⟩
        have hbk : k = N + 800 ∨ Dm (lo - 400 + (k : Int) - 1) ≠ Dm (lo - 400 + k) ∨ (Dm (lo - 400 + k)).2 = 0 := by
          have e1 : Dm (lo - 400 + (k : Int) - 1) = Dm (lo - 400 + i) := by
            have := hall (k - 1) (by omega) (by omega)
            rwa [show lo - 400 + ((k - 1 : Nat) : Int) = lo - 400 + (k : Int) - 1 by omega] at this
          rcases hend with q | q | q
          · exact .inl q
          · by_cases e : (Dm (lo - 400 + k)).2 = 0
            · exact .inr (.inr e)
            · refine .inr (.inl fun h => e ?_)
              rw [← h, e1]; exact q
          · exact .inr (.inl fun h => q (by rw [← h, e1]))
        have honx : (Dm (lo - 400 + i)).2 ≠ 0 → ∀ y, lo ≤ y → y < lo + N → lo - 400 + i ≤ y → y < lo - 400 + k → on y = ((decide (b = 0) || decide ((Dm (lo - 400 + i)).2 = b)) && decide (sel a (fil kid (lo - 400 + i) (k - i)) = some y)) := fun hm y y1 y2 y3 y4 =>
          by rw [← hon]; exact nth_in hLie hk1 hk2 (by omega) (by omega) y3 y4 hm hall (by rcases hbd with q | q | q | q; exact .inl q; omega; exact .inr q; exact absurd q hm) (by rcases hend with q | q | q; exact .inl q; exact absurd q hm; exact .inr q)
        have hon0 : (Dm (lo - 400 + i)).2 = 0 → ∀ y, lo ≤ y → y < lo + N → lo - 400 + i ≤ y → y < lo - 400 + k → on y = false := fun hm y y1 y2 y3 y4 => by
          have := hm0 hm
          obtain rfl : y = lo - 400 + i := by omega
          rw [← hon]; exact nth_none hm
        have hfl := fil_len (g := kid) (lo := lo - 400 + i) (k - i)
        have hfm : ∀ z, z ∈ fil kid (lo - 400 + i) (k - i) → lo - 400 + i ≤ z ∧ z < lo - 400 + k := fun z hz => by
          have := fil_mem.1 hz; omega
        have hB2 := fun (j : Nat) (h : j < k) => hB j (by omega)
        have hnk := fun n2 R a3 a4 a5 => hnx k n2 R hk1 hk2 a3 a4 a5 hbk
        have hon1 := outL_none (on := on) (lo := lo) (low := lo - 400) (i := i) (k := k) (N := N) (by omega)
        have hon2 := fun z => outL_mark (on := on) (lo := lo) (low := lo - 400) (z := z) (i := i) (k := k) (N := N)
        clear hnx hbk hall hm0 hend hLie hon hbd hB hD2 z2
        generalize (Dm (lo - 400 + (i : Int))).2 = m0 at *
        generalize (Dm (lo - 400 + (i : Int))).1 = y0 at *
        generalize (dN nm (lo - 400 + (i : Int))).2.2 = d0 at *
        generalize outL on lo (lo - 400) k N = OK at *
        by_cases hm : m0 = 0
        · have hR := hon1 (hon0 hm)
          have hx := hnk nn _ hn1 (by omega) hR
          clear honx hon0 hfl hfm hB2 hnk hon1 hon2 hR
          repeat' first | (with_reducible first | refine t_seq ?_ | refine t_skip ?_ | refine t_ret ?_ | refine t_end ?_ | refine t_cond ?_ | refine t_region ?_ | refine wr_done ?_ | refine WD.done _ ?_ | refine wdp_done ?_ | refine tr_some ?_ | refine t_inBlock ?_) | ((with_reducible refine t_isDraw ?_); refine t_draw rfl (by kernel_rfl) ?_) | ((fail_if_success with_reducible refine t_bl ?_); (with_reducible refine t_block ?_)) | ((with_reducible refine t_isExit ?_); refine t_exit rfl ?_) | simp only [decide_eq_true_eq, decide_eq_false_iff_not, Bool.not_eq_true', Bool.not_eq_false'] at * | simp (disch := omega) only [go_sem, Nat.reduceLT, Nat.reduceEqDiff, Nat.reduceAdd, Nat.reduceLeDiff, Nat.reduceMul, Int.reduceLT, Int.reduceLE, Int.reduceAdd, Int.reduceSub, Int.reduceNeg, Int.reduceToNat, Int.reduceBEq, Int.reduceEq, reduceCtorEq, ↓reduceIte, *] | (with_reducible first | refine tb_true ?_ | refine tb_false ?_) | ((with_reducible first | refine tb_split ?_ ?_ | refine wg_f ?_ ?_ | refine wg_t ?_ ?_ | refine wd_f ?_ ?_ | refine wd_t ?_ ?_) <;> intro _)
          all_goals first | (exfalso; omega) | skip
          all_goals exact hx _ (by simp [get, t2]) (by simp [get, t3]) (by simp [get, t4]) (by simp [get, t6]) (by simp [get, t10]) (by simp [get, t12]) (by simp [get, t13]) (by simp [get, t15])
        by_cases hbm : b = 0 ∨ m0 = b
        case neg =>
          have hR := hon1 (fun y y1 y2 y3 y4 => by
            rw [honx hm y y1 y2 y3 y4, decide_eq_false (fun q => hbm (.inl q)), decide_eq_false (fun q => hbm (.inr q))]; rfl)
          have hx := hnk nn _ hn1 (by omega) hR
          have c1 : ¬ b = 0 := fun q => hbm (.inl q)
          have c2 : ¬ m0 = b := fun q => hbm (.inr q)
          clear honx hon0 hfl hfm hB2 hnk hon1 hon2 hR hbm
          repeat' first | (with_reducible first | refine t_seq ?_ | refine t_skip ?_ | refine t_ret ?_ | refine t_end ?_ | refine t_cond ?_ | refine t_region ?_ | refine wr_done ?_ | refine WD.done _ ?_ | refine wdp_done ?_ | refine tr_some ?_ | refine t_inBlock ?_) | ((with_reducible refine t_isDraw ?_); refine t_draw rfl (by kernel_rfl) ?_) | ((fail_if_success with_reducible refine t_bl ?_); (with_reducible refine t_block ?_)) | ((with_reducible refine t_isExit ?_); refine t_exit rfl ?_) | simp only [decide_eq_true_eq, decide_eq_false_iff_not, Bool.not_eq_true', Bool.not_eq_false'] at * | simp (disch := omega) only [go_sem, Nat.reduceLT, Nat.reduceEqDiff, Nat.reduceAdd, Nat.reduceLeDiff, Nat.reduceMul, Int.reduceLT, Int.reduceLE, Int.reduceAdd, Int.reduceSub, Int.reduceNeg, Int.reduceToNat, Int.reduceBEq, Int.reduceEq, reduceCtorEq, ↓reduceIte, *] | (with_reducible first | refine tb_true ?_ | refine tb_false ?_) | ((with_reducible first | refine tb_split ?_ ?_ | refine wg_f ?_ ?_ | refine wg_t ?_ ?_ | refine wd_f ?_ ?_ | refine wd_t ?_ ?_) <;> intro _)
          all_goals first | (exfalso; omega) | skip
          all_goals exact hx _ (by simp [get, t2]) (by simp [get, t3]) (by simp [get, t4]) (by simp [get, t6]) (by simp [get, t10]) (by simp [get, t12]) (by simp [get, t13]) (by simp [get, t15])
        have hsel : ∀ y, lo ≤ y → y < lo + N → lo - 400 + i ≤ y → y < lo - 400 + k → on y = decide (sel a (fil kid (lo - 400 + i) (k - i)) = some y) := fun y y1 y2 y3 y4 => by
          rw [honx hm y y1 y2 y3 y4]
          rcases hbm with q | q
          · rw [decide_eq_true q, Bool.true_or, Bool.true_and]
          · rw [decide_eq_true q, Bool.or_true, Bool.true_and]
        clear honx hon0
        have hkN : k - i ≤ 100000 := by omega
        generalize hG : (fun (n : Nat) => fil kid (lo - 400 + i) n) = FL at *
        have hF0 : FL 0 = [] := by rw [← hG]; rfl
        have hFs : ∀ n : Nat, FL (n + 1) = FL n ++ (if kid (lo - 400 + i + n) then [lo - 400 + i + n] else []) := fun n => by rw [← hG]; rfl
        have hFl : ∀ n : Nat, (FL n).length ≤ n := fun n => by rw [← hG]; exact fil_len n
        have hFk : fil kid (lo - 400 + i) (k - i) = FL (k - i) := by rw [← hG]
        rw [hFk] at hsel hfm hfl
        clear hG hFk
        have hOLa := outL_at on lo (lo - 400) i N
        generalize hOL : outL on lo (lo - 400) i N = OL at *
        clear hOL
        have hob : ¬ nn = ob := by omega
        have c0 : b = 0 ∨ ¬ b = 0 := by omega
        have v5 : ob < nn := by omega
        clear v4
        rcases c0 with c1 | c1
        all_goals
          have c2 : b = 0 ∨ m0 = b := hbm
          clear hbm
        · clear c2
          repeat' first | (with_reducible first | refine t_seq ?_ | refine t_skip ?_ | refine t_ret ?_ | refine t_end ?_ | refine t_cond ?_ | refine t_region ?_ | refine wr_done ?_ | refine WD.done _ ?_ | refine wdp_done ?_ | refine tr_some ?_ | refine t_inBlock ?_) | ((with_reducible refine t_isDraw ?_); refine t_draw rfl (by kernel_rfl) ?_) | ((fail_if_success with_reducible refine t_bl ?_); (with_reducible refine t_block ?_)) | ((with_reducible refine t_isExit ?_); refine t_exit rfl ?_) | simp only [decide_eq_true_eq, decide_eq_false_iff_not, Bool.not_eq_true', Bool.not_eq_false'] at * | simp (disch := omega) only [go_sem, Nat.reduceLT, Nat.reduceEqDiff, Nat.reduceAdd, Nat.reduceLeDiff, Nat.reduceMul, Int.reduceLT, Int.reduceLE, Int.reduceAdd, Int.reduceSub, Int.reduceNeg, Int.reduceToNat, Int.reduceBEq, Int.reduceEq, reduceCtorEq, ↓reduceIte, *] | (with_reducible first | refine tb_true ?_ | refine tb_false ?_) | ((with_reducible first | refine tb_split ?_ ?_ | refine wg_f ?_ ?_ | refine wg_t ?_ ?_ | refine wd_f ?_ ?_ | refine wd_t ?_ ?_) <;> intro _)
          refine t_while (I := fun (j : Nat) t h => i ≤ j ∧ j ≤ k ∧ (∃ n2 e Lb, nn ≤ n2 ∧ n2 ≤ nn + 2 * (j - i) ∧ LpI nn (FL (j - i)) n2 e Lb ∧ h = ⟨Lb ++ (ob, .rows 1 OL) :: FI2, n2⟩ ∧ get t 16 = e) ∧ get t 2 = .i .i64 lo ∧ get t 3 = .i .i64 hi ∧ get t 4 = .osl ob 0 N ∧ get t 6 = .ip [.i .i64 12, .i .i64 a, .i .i64 b, .s nm, .isl false 5 [[.i .i64 xk, .i .i64 xa, .i .i64 xb, .s xn, .isl false 5 xs]]] 0 ∧ get t 10 = .i .i64 (lo - 400) ∧ get t 12 = .isl true 3 DL ∧ get t 13 = .isl true 1 BL ∧ get t 14 = .i .i64 i ∧ get t 15 = .i .i64 k ∧ get t 17 = .i .i64 j) (m := fun j => k - j)
            (J := fun t h => (∃ n2 e Lb, nn ≤ n2 ∧ n2 ≤ nn + 2 * (k - i) ∧ LpI nn (FL (k - i)) n2 e Lb ∧ h = ⟨Lb ++ (ob, .rows 1 OL) :: FI2, n2⟩ ∧ get t 16 = e) ∧ get t 2 = .i .i64 lo ∧ get t 3 = .i .i64 hi ∧ get t 4 = .osl ob 0 N ∧ get t 6 = .ip [.i .i64 12, .i .i64 a, .i .i64 b, .s nm, .isl false 5 [[.i .i64 xk, .i .i64 xa, .i .i64 xb, .s xn, .isl false 5 xs]]] 0 ∧ get t 10 = .i .i64 (lo - 400) ∧ get t 12 = .isl true 3 DL ∧ get t 13 = .isl true 1 BL ∧ get t 14 = .i .i64 i ∧ get t 15 = .i .i64 k) i
            ⟨by omega, by omega, ⟨nn, .nils, [], by omega, by omega, .inl ⟨by rw [Nat.sub_self]; exact hF0, rfl, rfl⟩, rfl, by simp [get]⟩, by simp [get, t2], by simp [get, t3], by simp [get, t4], by simp [get, t6], by simp [get, t10], by simp [get, t12], by simp [get, t13], by simp [get, t14], by simp [get, t15], by simp [get]⟩ ?_ ?_
          · clear hsel hfm hnk hon1 hon2 hOLa
            rintro j t h ⟨hj1, hj2, ⟨n2, e, Lb, hn3, hn4, hLp, rfl, t16⟩, t2, t3, t4, t6, t10, t12, t13, t14, t15, t17⟩ hrec hex
            by_cases hj : j < k
            · have gb := hB2 j hj
              have gF := hFs (j - i)
              have gl := hFl (j - i)
              rw [show lo - 400 + (i : Int) + ((j - i : Nat) : Int) = lo - 400 + j by omega, show j - i + 1 = j + 1 - i by omega] at gF
              have hnx2 : ∀ n3 e' Lb', nn ≤ n3 → n3 ≤ n2 + 2 → LpI nn (FL (j + 1 - i)) n3 e' Lb' → ∀ t', get t' 16 = e' → get t' 2 = .i .i64 lo → get t' 3 = .i .i64 hi → get t' 4 = .osl ob 0 N → get t' 6 = .ip [.i .i64 12, .i .i64 a, .i .i64 b, .s nm, .isl false 5 [[.i .i64 xk, .i .i64 xa, .i .i64 xb, .s xn, .isl false 5 xs]]] 0 → get t' 10 = .i .i64 (lo - 400) → get t' 12 = .isl true 3 DL → get t' 13 = .isl true 1 BL → get t' 14 = .i .i64 i → get t' 15 = .i .i64 k → get t' 17 = .i .i64 ((j : Int) + 1) → _ := fun n3 e' Lb' a1 a2 a3 t' a4 b1 b2 b3 b4 b5 b6 b7 b8 b9 b10 =>
                hrec (j + 1) t' ⟨Lb' ++ (ob, .rows 1 OL) :: FI2, n3⟩ ⟨by omega, by omega, ⟨n3, e', Lb', a1, by omega, a3, rfl, a4⟩, b1, b2, b3, b4, b5, b6, b7, b8, b9, by rw [b10]; rfl⟩ (by omega)
              have cj : (j : Int) < (k : Int) := by omega
              have r1 : ¬ n2 = ob := by omega
              have r2 : ¬ n2 + 1 = ob := by omega
              clear hrec hex hB2 hFs hFl hF0
              generalize FL (j + 1 - i) = l' at *
              generalize FL (j - i) = l at *
              have hw1 : (l.length + 1) * 8 ≤ 70368744177664 := by omega
              have hil := intR_len l
              cases hkv : kid (lo - 400 + j)
              · rw [hkv] at gb gF
                rw [if_neg (by simp), List.append_nil] at gF
                subst gF
                have hx := hnx2 n2 e Lb hn3 (by omega) hLp
                clear hnx2 hLp
                repeat' first | (with_reducible first | refine t_seq ?_ | refine t_skip ?_ | refine t_ret ?_ | refine t_end ?_ | refine t_cond ?_ | refine t_region ?_ | refine wr_done ?_ | refine WD.done _ ?_ | refine wdp_done ?_ | refine tr_some ?_ | refine t_inBlock ?_) | ((with_reducible refine t_isDraw ?_); refine t_draw rfl (by kernel_rfl) ?_) | ((fail_if_success with_reducible refine t_bl ?_); (with_reducible refine t_block ?_)) | ((with_reducible refine t_isExit ?_); refine t_exit rfl ?_) | simp only [decide_eq_true_eq, decide_eq_false_iff_not, Bool.not_eq_true', Bool.not_eq_false'] at * | simp (disch := omega) only [go_sem, Nat.reduceLT, Nat.reduceEqDiff, Nat.reduceAdd, Nat.reduceLeDiff, Nat.reduceMul, Int.reduceLT, Int.reduceLE, Int.reduceAdd, Int.reduceSub, Int.reduceNeg, Int.reduceToNat, Int.reduceBEq, Int.reduceEq, reduceCtorEq, ↓reduceIte, *] | (with_reducible first | refine tb_true ?_ | refine tb_false ?_) | ((with_reducible first | refine tb_split ?_ ?_ | refine wg_f ?_ ?_ | refine wg_t ?_ ?_ | refine wd_f ?_ ?_ | refine wd_t ?_ ?_) <;> intro _)
                all_goals first | (exfalso; omega) | skip
                all_goals exact hx _ (by simp [get, t16]) (by simp [get, t2]) (by simp [get, t3]) (by simp [get, t4]) (by simp [get, t6]) (by simp [get, t10]) (by simp [get, t12]) (by simp [get, t13]) (by simp [get, t14]) (by simp [get, t15]) (by simp [get])
              · rw [hkv] at gb gF
                rw [if_pos rfl] at gF
                rcases hLp with ⟨h1, rfl, rfl⟩ | ⟨id, h1, h2, h3, rfl, rfl⟩
                · subst h1
                  subst gF
                  have hx := hnx2 (n2 + 1 + 1) (.osl (n2 + 1) 0 1) [(n2 + 1, .rows 1 [[.i .i64 (lo - 400 + j)]])] (by omega) (by omega) (.inr ⟨n2 + 1, by simp, by omega, by omega, rfl, rfl⟩)
                  clear hnx2
                  simp only [List.nil_append]
                  repeat' first | (with_reducible first | refine t_seq ?_ | refine t_skip ?_ | refine t_ret ?_ | refine t_end ?_ | refine t_cond ?_ | refine t_region ?_ | refine wr_done ?_ | refine WD.done _ ?_ | refine wdp_done ?_ | refine tr_some ?_ | refine t_inBlock ?_) | ((with_reducible refine t_isDraw ?_); refine t_draw rfl (by kernel_rfl) ?_) | ((fail_if_success with_reducible refine t_bl ?_); (with_reducible refine t_block ?_)) | ((with_reducible refine t_isExit ?_); refine t_exit rfl ?_) | simp only [decide_eq_true_eq, decide_eq_false_iff_not, Bool.not_eq_true', Bool.not_eq_false'] at * | simp (disch := omega) only [go_sem, Nat.reduceLT, Nat.reduceEqDiff, Nat.reduceAdd, Nat.reduceLeDiff, Nat.reduceMul, Int.reduceLT, Int.reduceLE, Int.reduceAdd, Int.reduceSub, Int.reduceNeg, Int.reduceToNat, Int.reduceBEq, Int.reduceEq, reduceCtorEq, ↓reduceIte, *] | (with_reducible first | refine tb_true ?_ | refine tb_false ?_) | ((with_reducible first | refine tb_split ?_ ?_ | refine wg_f ?_ ?_ | refine wg_t ?_ ?_ | refine wd_f ?_ ?_ | refine wd_t ?_ ?_) <;> intro _)
                  all_goals first | (exfalso; omega) | skip
                  all_goals
                    refine t_forget ⟨(n2 + 1, .rows 1 [[.i .i64 (lo - 400 + j)]]) :: (ob, .rows 1 OL) :: FI2, n2 + 1 + 1⟩ (Sub.of (.cons_cons _ (.cons _ (List.Sublist.refl _))) (Nat.le_refl _)) ?_
                    exact hx _ (by simp [get]) (by simp [get, t2]) (by simp [get, t3]) (by simp [get, t4]) (by simp [get, t6]) (by simp [get, t10]) (by simp [get, t12]) (by simp [get, t13]) (by simp [get, t14]) (by simp [get, t15]) (by simp [get])
                · have hid1 : ¬ n2 = id := by omega
                  have hid2 : ¬ id = n2 := by omega
                  have hid3 : ¬ id = ob := by omega
                  have hid4 : ¬ n2 + 1 = id := by omega
                  subst gF
                  have hx := hnx2 (n2 + 1 + 1) (.osl (n2 + 1) 0 (l.length + 1)) [(n2 + 1, .rows 1 (intR l ++ [[.i .i64 (lo - 400 + j)]]))] (by omega) (by omega) (.inr ⟨n2 + 1, by simp, by omega, by omega, by simp, by rw [intR_snoc]⟩)
                  clear hnx2
                  simp only [List.cons_append, List.nil_append]
                  repeat' first | (with_reducible first | refine t_seq ?_ | refine t_skip ?_ | refine t_ret ?_ | refine t_end ?_ | refine t_cond ?_ | refine t_region ?_ | refine wr_done ?_ | refine WD.done _ ?_ | refine wdp_done ?_ | refine tr_some ?_ | refine t_inBlock ?_) | ((with_reducible refine t_isDraw ?_); refine t_draw rfl (by kernel_rfl) ?_) | ((fail_if_success with_reducible refine t_bl ?_); (with_reducible refine t_block ?_)) | ((with_reducible refine t_isExit ?_); refine t_exit rfl ?_) | simp only [decide_eq_true_eq, decide_eq_false_iff_not, Bool.not_eq_true', Bool.not_eq_false'] at * | simp (disch := omega) only [go_sem, Nat.reduceLT, Nat.reduceEqDiff, Nat.reduceAdd, Nat.reduceLeDiff, Nat.reduceMul, Int.reduceLT, Int.reduceLE, Int.reduceAdd, Int.reduceSub, Int.reduceNeg, Int.reduceToNat, Int.reduceBEq, Int.reduceEq, reduceCtorEq, ↓reduceIte, *] | (with_reducible first | refine tb_true ?_ | refine tb_false ?_) | ((with_reducible first | refine tb_split ?_ ?_ | refine wg_f ?_ ?_ | refine wg_t ?_ ?_ | refine wd_f ?_ ?_ | refine wd_t ?_ ?_) <;> intro _)
                  all_goals first | (exfalso; omega) | skip
                  all_goals
                    refine t_forget ⟨(n2 + 1, .rows 1 (intR l ++ [[.i .i64 (lo - 400 + j)]])) :: (ob, .rows 1 OL) :: FI2, n2 + 1 + 1⟩ (Sub.of (.cons_cons _ (.cons _ (List.Sublist.refl _))) (Nat.le_refl _)) ?_
                    exact hx _ (by simp [get]) (by simp [get, t2]) (by simp [get, t3]) (by simp [get, t4]) (by simp [get, t6]) (by simp [get, t10]) (by simp [get, t12]) (by simp [get, t13]) (by simp [get, t14]) (by simp [get, t15]) (by simp [get])
            · have e1 : j = k := by omega
              subst e1
              have hx := fun t' => hex t' ⟨Lb ++ (ob, .rows 1 OL) :: FI2, n2⟩
              clear hrec hex hB2 hFs hFl hF0
              have ck : ¬ (j : Int) < (j : Int) := by omega
              repeat' first | refine hx _ ⟨⟨n2, e, Lb, hn3, hn4, hLp, rfl, ?_⟩, ?_, ?_, ?_, ?_, ?_, ?_, ?_, ?_, ?_⟩ | (with_reducible first | refine t_seq ?_ | refine t_skip ?_ | refine t_ret ?_ | refine t_end ?_ | refine t_cond ?_ | refine t_region ?_ | refine wr_done ?_ | refine WD.done _ ?_ | refine wdp_done ?_ | refine tr_some ?_ | refine t_inBlock ?_) | ((with_reducible refine t_isDraw ?_); refine t_draw rfl (by kernel_rfl) ?_) | ((fail_if_success with_reducible refine t_bl ?_); (with_reducible refine t_block ?_)) | ((with_reducible refine t_isExit ?_); refine t_exit rfl ?_) | simp only [decide_eq_true_eq, decide_eq_false_iff_not, Bool.not_eq_true', Bool.not_eq_false'] at * | simp (disch := omega) only [go_sem, Nat.reduceLT, Nat.reduceEqDiff, Nat.reduceAdd, Nat.reduceLeDiff, Nat.reduceMul, Int.reduceLT, Int.reduceLE, Int.reduceAdd, Int.reduceSub, Int.reduceNeg, Int.reduceToNat, Int.reduceBEq, Int.reduceEq, reduceCtorEq, ↓reduceIte, *] | (with_reducible first | refine tb_true ?_ | refine tb_false ?_) | ((with_reducible first | refine tb_split ?_ ?_ | refine wg_f ?_ ?_ | refine wg_t ?_ ?_ | refine wd_f ?_ ?_ | refine wd_t ?_ ?_) <;> intro _)
              all_goals first | (exfalso; omega) | skip
              all_goals simp [get, t16, t2, t3, t4, t6, t10, t12, t13, t14, t15]
          · rintro t h ⟨⟨n2, e, Lb, hn3, hn4, hLp, rfl, t16⟩, t2, t3, t4, t6, t10, t12, t13, t14, t15⟩
            have hln := hFl (k - i)
            clear hB2 hFs hFl hF0
            generalize FL (k - i) = l at *
            have v6 : n2 ≤ n1 + 2 * k := by omega
            rcases hLp with ⟨h1, rfl, rfl⟩ | ⟨id, h1, h2, h3, rfl, rfl⟩
            · subst h1
              have g6 : OL = OK := hon1 (fun y y1 y2 y3 y4 => by
                rw [hsel y y1 y2 y3 y4]
                refine decide_eq_false (fun q => ?_)
                have := sel_mem q
                cases this)
              subst g6
              have hx := hnk n2 OL (by omega) (by omega) rfl
              clear hon1 hon2 hsel hfm hnk
              simp only [List.nil_append]
              by_cases ha : a < 0
              · repeat' first | (with_reducible first | refine t_seq ?_ | refine t_skip ?_ | refine t_ret ?_ | refine t_end ?_ | refine t_cond ?_ | refine t_region ?_ | refine wr_done ?_ | refine WD.done _ ?_ | refine wdp_done ?_ | refine tr_some ?_ | refine t_inBlock ?_) | ((with_reducible refine t_isDraw ?_); refine t_draw rfl (by kernel_rfl) ?_) | ((fail_if_success with_reducible refine t_bl ?_); (with_reducible refine t_block ?_)) | ((with_reducible refine t_isExit ?_); refine t_exit rfl ?_) | simp only [decide_eq_true_eq, decide_eq_false_iff_not, Bool.not_eq_true', Bool.not_eq_false'] at * | simp (disch := omega) only [go_sem, Nat.reduceLT, Nat.reduceEqDiff, Nat.reduceAdd, Nat.reduceLeDiff, Nat.reduceMul, Int.reduceLT, Int.reduceLE, Int.reduceAdd, Int.reduceSub, Int.reduceNeg, Int.reduceToNat, Int.reduceBEq, Int.reduceEq, reduceCtorEq, ↓reduceIte, *] | (with_reducible first | refine tb_true ?_ | refine tb_false ?_) | ((with_reducible first | refine tb_split ?_ ?_ | refine wg_f ?_ ?_ | refine wg_t ?_ ?_ | refine wd_f ?_ ?_ | refine wd_t ?_ ?_) <;> intro _)
                all_goals first | (exfalso; omega) | skip
                all_goals exact hx _ (by simp [get, t2]) (by simp [get, t3]) (by simp [get, t4]) (by simp [get, t6]) (by simp [get, t10]) (by simp [get, t12]) (by simp [get, t13]) (by simp [get, t15])
              · repeat' first | (with_reducible first | refine t_seq ?_ | refine t_skip ?_ | refine t_ret ?_ | refine t_end ?_ | refine t_cond ?_ | refine t_region ?_ | refine wr_done ?_ | refine WD.done _ ?_ | refine wdp_done ?_ | refine tr_some ?_ | refine t_inBlock ?_) | ((with_reducible refine t_isDraw ?_); refine t_draw rfl (by kernel_rfl) ?_) | ((fail_if_success with_reducible refine t_bl ?_); (with_reducible refine t_block ?_)) | ((with_reducible refine t_isExit ?_); refine t_exit rfl ?_) | simp only [decide_eq_true_eq, decide_eq_false_iff_not, Bool.not_eq_true', Bool.not_eq_false'] at * | simp (disch := omega) only [go_sem, Nat.reduceLT, Nat.reduceEqDiff, Nat.reduceAdd, Nat.reduceLeDiff, Nat.reduceMul, Int.reduceLT, Int.reduceLE, Int.reduceAdd, Int.reduceSub, Int.reduceNeg, Int.reduceToNat, Int.reduceBEq, Int.reduceEq, reduceCtorEq, ↓reduceIte, *] | (with_reducible first | refine tb_true ?_ | refine tb_false ?_) | ((with_reducible first | refine tb_split ?_ ?_ | refine wg_f ?_ ?_ | refine wg_t ?_ ?_ | refine wd_f ?_ ?_ | refine wd_t ?_ ?_) <;> intro _)
                all_goals first | (exfalso; omega) | skip
                all_goals exact hx _ (by simp [get, t2]) (by simp [get, t3]) (by simp [get, t4]) (by simp [get, t6]) (by simp [get, t10]) (by simp [get, t12]) (by simp [get, t13]) (by simp [get, t15])
            have hid3 : ¬ id = ob := by omega
            have hil := intR_len l
            simp only [List.cons_append, List.nil_append]
            by_cases ha : a < 0
            · have hs1 : sel a l = if 0 ≤ (l.length : Int) + a then l[((l.length : Int) + a).toNat]? else none := by
                unfold sel selN; rw [if_pos ha]
              have hnone : sel a l = none → OL = OK := fun hz => hon1 (fun y y1 y2 y3 y4 => by rw [hsel y y1 y2 y3 y4, hz]; simp)
              have hsome : ∀ z, sel a l = some z → ((z < lo ∨ hi < z) → OL = OK) ∧ (lo ≤ z → z ≤ hi → OL.set (z - lo).toNat [.b true] = OK) := fun z hz => by
                have hzm := hfm z (sel_mem hz)
                refine ⟨fun hzo => hon1 (fun y y1 y2 y3 y4 => ?_), fun hz1 hz2 => hon2 z hz1 (by omega) hzm.1 hzm.2 (fun y y1 y2 y3 y4 => ?_)⟩
                · rw [hsel y y1 y2 y3 y4, hz]
                  exact decide_eq_false (fun q => by cases q; omega)
                · rw [hsel y y1 y2 y3 y4, hz]
                  simp
              clear hon1 hon2 hsel hfm
              by_cases g1 : 0 ≤ (l.length : Int) + a
              · by_cases g2 : (l.length : Int) + a < (l.length : Int)
                · have g3 : ((l.length : Int) + a).toNat < l.length := by omega
                  have hz : sel a l = some (l[((l.length : Int) + a).toNat]) := by rw [hs1, if_pos g1]; exact List.getElem?_eq_getElem g3
                  have hg : (intR l)[((l.length : Int) + a).toNat]? = some [.i .i64 l[((l.length : Int) + a).toNat]] := by simp [intR, g3]
                  obtain ⟨hs2, hs3⟩ := hsome _ hz
                  generalize l[((l.length : Int) + a).toNat] = z at *
                  clear hz hsome hnone hs1
                  by_cases g4 : lo ≤ z
                  · by_cases g5 : z ≤ hi
                    · have g6 := hs3 g4 g5
                      have g7 : (z - lo).toNat < OL.length := by omega
                      obtain ⟨ov, hov⟩ := hOLa (z - lo).toNat (by omega)
                      have g8 : ¬ z - lo < 0 := by omega
                      have hx := hnk n2 OK (by omega) (by omega) rfl
                      clear hs2 hs3 hnk
                      repeat' first | (with_reducible first | refine t_seq ?_ | refine t_skip ?_ | refine t_ret ?_ | refine t_end ?_ | refine t_cond ?_ | refine t_region ?_ | refine wr_done ?_ | refine WD.done _ ?_ | refine wdp_done ?_ | refine tr_some ?_ | refine t_inBlock ?_) | ((with_reducible refine t_isDraw ?_); refine t_draw rfl (by kernel_rfl) ?_) | ((fail_if_success with_reducible refine t_bl ?_); (with_reducible refine t_block ?_)) | ((with_reducible refine t_isExit ?_); refine t_exit rfl ?_) | simp only [decide_eq_true_eq, decide_eq_false_iff_not, Bool.not_eq_true', Bool.not_eq_false'] at * | simp (disch := omega) only [go_sem, Nat.reduceLT, Nat.reduceEqDiff, Nat.reduceAdd, Nat.reduceLeDiff, Nat.reduceMul, Int.reduceLT, Int.reduceLE, Int.reduceAdd, Int.reduceSub, Int.reduceNeg, Int.reduceToNat, Int.reduceBEq, Int.reduceEq, reduceCtorEq, ↓reduceIte, *] | (with_reducible first | refine tb_true ?_ | refine tb_false ?_) | ((with_reducible first | refine tb_split ?_ ?_ | refine wg_f ?_ ?_ | refine wg_t ?_ ?_ | refine wd_f ?_ ?_ | refine wd_t ?_ ?_) <;> intro _)
                      all_goals first | (exfalso; omega) | skip
                      all_goals
                        refine t_forget ⟨(ob, .rows 1 OK) :: FI2, n2⟩ (Sub.of (.cons _ (List.Sublist.refl _)) (Nat.le_refl _)) ?_
                        exact hx _ (by simp [get, t2]) (by simp [get, t3]) (by simp [get, t4]) (by simp [get, t6]) (by simp [get, t10]) (by simp [get, t12]) (by simp [get, t13]) (by simp [get, t15])
                    · have g6 := hs2 (by omega)
                      subst g6
                      have hx := hnk n2 OL (by omega) (by omega) rfl
                      clear hs2 hs3 hnk
                      repeat' first | (with_reducible first | refine t_seq ?_ | refine t_skip ?_ | refine t_ret ?_ | refine t_end ?_ | refine t_cond ?_ | refine t_region ?_ | refine wr_done ?_ | refine WD.done _ ?_ | refine wdp_done ?_ | refine tr_some ?_ | refine t_inBlock ?_) | ((with_reducible refine t_isDraw ?_); refine t_draw rfl (by kernel_rfl) ?_) | ((fail_if_success with_reducible refine t_bl ?_); (with_reducible refine t_block ?_)) | ((with_reducible refine t_isExit ?_); refine t_exit rfl ?_) | simp only [decide_eq_true_eq, decide_eq_false_iff_not, Bool.not_eq_true', Bool.not_eq_false'] at * | simp (disch := omega) only [go_sem, Nat.reduceLT, Nat.reduceEqDiff, Nat.reduceAdd, Nat.reduceLeDiff, Nat.reduceMul, Int.reduceLT, Int.reduceLE, Int.reduceAdd, Int.reduceSub, Int.reduceNeg, Int.reduceToNat, Int.reduceBEq, Int.reduceEq, reduceCtorEq, ↓reduceIte, *] | (with_reducible first | refine tb_true ?_ | refine tb_false ?_) | ((with_reducible first | refine tb_split ?_ ?_ | refine wg_f ?_ ?_ | refine wg_t ?_ ?_ | refine wd_f ?_ ?_ | refine wd_t ?_ ?_) <;> intro _)
                      all_goals first | (exfalso; omega) | skip
                      all_goals
                        refine t_forget ⟨(ob, .rows 1 OL) :: FI2, n2⟩ (Sub.of (.cons _ (List.Sublist.refl _)) (Nat.le_refl _)) ?_
                        exact hx _ (by simp [get, t2]) (by simp [get, t3]) (by simp [get, t4]) (by simp [get, t6]) (by simp [get, t10]) (by simp [get, t12]) (by simp [get, t13]) (by simp [get, t15])
                  · have g6 := hs2 (by omega)
                    subst g6
                    have hx := hnk n2 OL (by omega) (by omega) rfl
                    clear hs2 hs3 hnk
                    repeat' first | (with_reducible first | refine t_seq ?_ | refine t_skip ?_ | refine t_ret ?_ | refine t_end ?_ | refine t_cond ?_ | refine t_region ?_ | refine wr_done ?_ | refine WD.done _ ?_ | refine wdp_done ?_ | refine tr_some ?_ | refine t_inBlock ?_) | ((with_reducible refine t_isDraw ?_); refine t_draw rfl (by kernel_rfl) ?_) | ((fail_if_success with_reducible refine t_bl ?_); (with_reducible refine t_block ?_)) | ((with_reducible refine t_isExit ?_); refine t_exit rfl ?_) | simp only [decide_eq_true_eq, decide_eq_false_iff_not, Bool.not_eq_true', Bool.not_eq_false'] at * | simp (disch := omega) only [go_sem, Nat.reduceLT, Nat.reduceEqDiff, Nat.reduceAdd, Nat.reduceLeDiff, Nat.reduceMul, Int.reduceLT, Int.reduceLE, Int.reduceAdd, Int.reduceSub, Int.reduceNeg, Int.reduceToNat, Int.reduceBEq, Int.reduceEq, reduceCtorEq, ↓reduceIte, *] | (with_reducible first | refine tb_true ?_ | refine tb_false ?_) | ((with_reducible first | refine tb_split ?_ ?_ | refine wg_f ?_ ?_ | refine wg_t ?_ ?_ | refine wd_f ?_ ?_ | refine wd_t ?_ ?_) <;> intro _)
                    all_goals first | (exfalso; omega) | skip
                    all_goals
                      refine t_forget ⟨(ob, .rows 1 OL) :: FI2, n2⟩ (Sub.of (.cons _ (List.Sublist.refl _)) (Nat.le_refl _)) ?_
                      exact hx _ (by simp [get, t2]) (by simp [get, t3]) (by simp [get, t4]) (by simp [get, t6]) (by simp [get, t10]) (by simp [get, t12]) (by simp [get, t13]) (by simp [get, t15])
                · have g6 := hnone (by rw [hs1, if_pos g1]; exact List.getElem?_eq_none (by omega))
                  subst g6
                  have hx := hnk n2 OL (by omega) (by omega) rfl
                  clear hnone hsome hnk hs1
                  repeat' first | (with_reducible first | refine t_seq ?_ | refine t_skip ?_ | refine t_ret ?_ | refine t_end ?_ | refine t_cond ?_ | refine t_region ?_ | refine wr_done ?_ | refine WD.done _ ?_ | refine wdp_done ?_ | refine tr_some ?_ | refine t_inBlock ?_) | ((with_reducible refine t_isDraw ?_); refine t_draw rfl (by kernel_rfl) ?_) | ((fail_if_success with_reducible refine t_bl ?_); (with_reducible refine t_block ?_)) | ((with_reducible refine t_isExit ?_); refine t_exit rfl ?_) | simp only [decide_eq_true_eq, decide_eq_false_iff_not, Bool.not_eq_true', Bool.not_eq_false'] at * | simp (disch := omega) only [go_sem, Nat.reduceLT, Nat.reduceEqDiff, Nat.reduceAdd, Nat.reduceLeDiff, Nat.reduceMul, Int.reduceLT, Int.reduceLE, Int.reduceAdd, Int.reduceSub, Int.reduceNeg, Int.reduceToNat, Int.reduceBEq, Int.reduceEq, reduceCtorEq, ↓reduceIte, *] | (with_reducible first | refine tb_true ?_ | refine tb_false ?_) | ((with_reducible first | refine tb_split ?_ ?_ | refine wg_f ?_ ?_ | refine wg_t ?_ ?_ | refine wd_f ?_ ?_ | refine wd_t ?_ ?_) <;> intro _)
                  all_goals first | (exfalso; omega) | skip
                  all_goals
                    refine t_forget ⟨(ob, .rows 1 OL) :: FI2, n2⟩ (Sub.of (.cons _ (List.Sublist.refl _)) (Nat.le_refl _)) ?_
                    exact hx _ (by simp [get, t2]) (by simp [get, t3]) (by simp [get, t4]) (by simp [get, t6]) (by simp [get, t10]) (by simp [get, t12]) (by simp [get, t13]) (by simp [get, t15])
              · have g6 := hnone (by rw [hs1, if_neg g1])
                subst g6
                have hx := hnk n2 OL (by omega) (by omega) rfl
                clear hnone hsome hnk hs1
                repeat' first | (with_reducible first | refine t_seq ?_ | refine t_skip ?_ | refine t_ret ?_ | refine t_end ?_ | refine t_cond ?_ | refine t_region ?_ | refine wr_done ?_ | refine WD.done _ ?_ | refine wdp_done ?_ | refine tr_some ?_ | refine t_inBlock ?_) | ((with_reducible refine t_isDraw ?_); refine t_draw rfl (by kernel_rfl) ?_) | ((fail_if_success with_reducible refine t_bl ?_); (with_reducible refine t_block ?_)) | ((with_reducible refine t_isExit ?_); refine t_exit rfl ?_) | simp only [decide_eq_true_eq, decide_eq_false_iff_not, Bool.not_eq_true', Bool.not_eq_false'] at * | simp (disch := omega) only [go_sem, Nat.reduceLT, Nat.reduceEqDiff, Nat.reduceAdd, Nat.reduceLeDiff, Nat.reduceMul, Int.reduceLT, Int.reduceLE, Int.reduceAdd, Int.reduceSub, Int.reduceNeg, Int.reduceToNat, Int.reduceBEq, Int.reduceEq, reduceCtorEq, ↓reduceIte, *] | (with_reducible first | refine tb_true ?_ | refine tb_false ?_) | ((with_reducible first | refine tb_split ?_ ?_ | refine wg_f ?_ ?_ | refine wg_t ?_ ?_ | refine wd_f ?_ ?_ | refine wd_t ?_ ?_) <;> intro _)
                all_goals first | (exfalso; omega) | skip
                all_goals
                  refine t_forget ⟨(ob, .rows 1 OL) :: FI2, n2⟩ (Sub.of (.cons _ (List.Sublist.refl _)) (Nat.le_refl _)) ?_
                  exact hx _ (by simp [get, t2]) (by simp [get, t3]) (by simp [get, t4]) (by simp [get, t6]) (by simp [get, t10]) (by simp [get, t12]) (by simp [get, t13]) (by simp [get, t15])
            · have hs1 : sel a l = if 0 ≤ a - 1 then l[(a - 1).toNat]? else none := by
                unfold sel selN; rw [if_neg ha]
              have hnone : sel a l = none → OL = OK := fun hz => hon1 (fun y y1 y2 y3 y4 => by rw [hsel y y1 y2 y3 y4, hz]; simp)
              have hsome : ∀ z, sel a l = some z → ((z < lo ∨ hi < z) → OL = OK) ∧ (lo ≤ z → z ≤ hi → OL.set (z - lo).toNat [.b true] = OK) := fun z hz => by
                have hzm := hfm z (sel_mem hz)
                refine ⟨fun hzo => hon1 (fun y y1 y2 y3 y4 => ?_), fun hz1 hz2 => hon2 z hz1 (by omega) hzm.1 hzm.2 (fun y y1 y2 y3 y4 => ?_)⟩
                · rw [hsel y y1 y2 y3 y4, hz]
                  exact decide_eq_false (fun q => by cases q; omega)
                · rw [hsel y y1 y2 y3 y4, hz]
                  simp
              clear hon1 hon2 hsel hfm
              by_cases g1 : 0 ≤ a - 1
              · by_cases g2 : a - 1 < (l.length : Int)
                · have g3 : (a - 1).toNat < l.length := by omega
                  have hz : sel a l = some (l[(a - 1).toNat]) := by rw [hs1, if_pos g1]; exact List.getElem?_eq_getElem g3
                  have hg : (intR l)[(a - 1).toNat]? = some [.i .i64 l[(a - 1).toNat]] := by simp [intR, g3]
                  obtain ⟨hs2, hs3⟩ := hsome _ hz
                  generalize l[(a - 1).toNat] = z at *
                  clear hz hsome hnone hs1
                  by_cases g4 : lo ≤ z
                  · by_cases g5 : z ≤ hi
                    · have g6 := hs3 g4 g5
                      have g7 : (z - lo).toNat < OL.length := by omega
                      obtain ⟨ov, hov⟩ := hOLa (z - lo).toNat (by omega)
                      have g8 : ¬ z - lo < 0 := by omega
                      have hx := hnk n2 OK (by omega) (by omega) rfl
                      clear hs2 hs3 hnk
                      repeat' first | (with_reducible first | refine t_seq ?_ | refine t_skip ?_ | refine t_ret ?_ | refine t_end ?_ | refine t_cond ?_ | refine t_region ?_ | refine wr_done ?_ | refine WD.done _ ?_ | refine wdp_done ?_ | refine tr_some ?_ | refine t_inBlock ?_) | ((with_reducible refine t_isDraw ?_); refine t_draw rfl (by kernel_rfl) ?_) | ((fail_if_success with_reducible refine t_bl ?_); (with_reducible refine t_block ?_)) | ((with_reducible refine t_isExit ?_); refine t_exit rfl ?_) | simp only [decide_eq_true_eq, decide_eq_false_iff_not, Bool.not_eq_true', Bool.not_eq_false'] at * | simp (disch := omega) only [go_sem, Nat.reduceLT, Nat.reduceEqDiff, Nat.reduceAdd, Nat.reduceLeDiff, Nat.reduceMul, Int.reduceLT, Int.reduceLE, Int.reduceAdd, Int.reduceSub, Int.reduceNeg, Int.reduceToNat, Int.reduceBEq, Int.reduceEq, reduceCtorEq, ↓reduceIte, *] | (with_reducible first | refine tb_true ?_ | refine tb_false ?_) | ((with_reducible first | refine tb_split ?_ ?_ | refine wg_f ?_ ?_ | refine wg_t ?_ ?_ | refine wd_f ?_ ?_ | refine wd_t ?_ ?_) <;> intro _)
                      all_goals first | (exfalso; omega) | skip
                      all_goals
                        refine t_forget ⟨(ob, .rows 1 OK) :: FI2, n2⟩ (Sub.of (.cons _ (List.Sublist.refl _)) (Nat.le_refl _)) ?_
                        exact hx _ (by simp [get, t2]) (by simp [get, t3]) (by simp [get, t4]) (by simp [get, t6]) (by simp [get, t10]) (by simp [get, t12]) (by simp [get, t13]) (by simp [get, t15])
                    · have g6 := hs2 (by omega)
                      subst g6
                      have hx := hnk n2 OL (by omega) (by omega) rfl
                      clear hs2 hs3 hnk
                      repeat' first | (with_reducible first | refine t_seq ?_ | refine t_skip ?_ | refine t_ret ?_ | refine t_end ?_ | refine t_cond ?_ | refine t_region ?_ | refine wr_done ?_ | refine WD.done _ ?_ | refine wdp_done ?_ | refine tr_some ?_ | refine t_inBlock ?_) | ((with_reducible refine t_isDraw ?_); refine t_draw rfl (by kernel_rfl) ?_) | ((fail_if_success with_reducible refine t_bl ?_); (with_reducible refine t_block ?_)) | ((with_reducible refine t_isExit ?_); refine t_exit rfl ?_) | simp only [decide_eq_true_eq, decide_eq_false_iff_not, Bool.not_eq_true', Bool.not_eq_false'] at * | simp (disch := omega) only [go_sem, Nat.reduceLT, Nat.reduceEqDiff, Nat.reduceAdd, Nat.reduceLeDiff, Nat.reduceMul, Int.reduceLT, Int.reduceLE, Int.reduceAdd, Int.reduceSub, Int.reduceNeg, Int.reduceToNat, Int.reduceBEq, Int.reduceEq, reduceCtorEq, ↓reduceIte, *] | (with_reducible first | refine tb_true ?_ | refine tb_false ?_) | ((with_reducible first | refine tb_split ?_ ?_ | refine wg_f ?_ ?_ | refine wg_t ?_ ?_ | refine wd_f ?_ ?_ | refine wd_t ?_ ?_) <;> intro _)
                      all_goals first | (exfalso; omega) | skip
                      all_goals
                        refine t_forget ⟨(ob, .rows 1 OL) :: FI2, n2⟩ (Sub.of (.cons _ (List.Sublist.refl _)) (Nat.le_refl _)) ?_
                        exact hx _ (by simp [get, t2]) (by simp [get, t3]) (by simp [get, t4]) (by simp [get, t6]) (by simp [get, t10]) (by simp [get, t12]) (by simp [get, t13]) (by simp [get, t15])
                  · have g6 := hs2 (by omega)
                    subst g6
                    have hx := hnk n2 OL (by omega) (by omega) rfl
                    clear hs2 hs3 hnk
                    repeat' first | (with_reducible first | refine t_seq ?_ | refine t_skip ?_ | refine t_ret ?_ | refine t_end ?_ | refine t_cond ?_ | refine t_region ?_ | refine wr_done ?_ | refine WD.done _ ?_ | refine wdp_done ?_ | refine tr_some ?_ | refine t_inBlock ?_) | ((with_reducible refine t_isDraw ?_); refine t_draw rfl (by kernel_rfl) ?_) | ((fail_if_success with_reducible refine t_bl ?_); (with_reducible refine t_block ?_)) | ((with_reducible refine t_isExit ?_); refine t_exit rfl ?_) | simp only [decide_eq_true_eq, decide_eq_false_iff_not, Bool.not_eq_true', Bool.not_eq_false'] at * | simp (disch := omega) only [go_sem, Nat.reduceLT, Nat.reduceEqDiff, Nat.reduceAdd, Nat.reduceLeDiff, Nat.reduceMul, Int.reduceLT, Int.reduceLE, Int.reduceAdd, Int.reduceSub, Int.reduceNeg, Int.reduceToNat, Int.reduceBEq, Int.reduceEq, reduceCtorEq, ↓reduceIte, *] | (with_reducible first | refine tb_true ?_ | refine tb_false ?_) | ((with_reducible first | refine tb_split ?_ ?_ | refine wg_f ?_ ?_ | refine wg_t ?_ ?_ | refine wd_f ?_ ?_ | refine wd_t ?_ ?_) <;> intro _)
                    all_goals first | (exfalso; omega) | skip
                    all_goals
                      refine t_forget ⟨(ob, .rows 1 OL) :: FI2, n2⟩ (Sub.of (.cons _ (List.Sublist.refl _)) (Nat.le_refl _)) ?_
                      exact hx _ (by simp [get, t2]) (by simp [get, t3]) (by simp [get, t4]) (by simp [get, t6]) (by simp [get, t10]) (by simp [get, t12]) (by simp [get, t13]) (by simp [get, t15])
                · have g6 := hnone (by rw [hs1, if_pos g1]; exact List.getElem?_eq_none (by omega))
                  subst g6
                  have hx := hnk n2 OL (by omega) (by omega) rfl
                  clear hnone hsome hnk hs1
                  repeat' first | (with_reducible first | refine t_seq ?_ | refine t_skip ?_ | refine t_ret ?_ | refine t_end ?_ | refine t_cond ?_ | refine t_region ?_ | refine wr_done ?_ | refine WD.done _ ?_ | refine wdp_done ?_ | refine tr_some ?_ | refine t_inBlock ?_) | ((with_reducible refine t_isDraw ?_); refine t_draw rfl (by kernel_rfl) ?_) | ((fail_if_success with_reducible refine t_bl ?_); (with_reducible refine t_block ?_)) | ((with_reducible refine t_isExit ?_); refine t_exit rfl ?_) | simp only [decide_eq_true_eq, decide_eq_false_iff_not, Bool.not_eq_true', Bool.not_eq_false'] at * | simp (disch := omega) only [go_sem, Nat.reduceLT, Nat.reduceEqDiff, Nat.reduceAdd, Nat.reduceLeDiff, Nat.reduceMul, Int.reduceLT, Int.reduceLE, Int.reduceAdd, Int.reduceSub, Int.reduceNeg, Int.reduceToNat, Int.reduceBEq, Int.reduceEq, reduceCtorEq, ↓reduceIte, *] | (with_reducible first | refine tb_true ?_ | refine tb_false ?_) | ((with_reducible first | refine tb_split ?_ ?_ | refine wg_f ?_ ?_ | refine wg_t ?_ ?_ | refine wd_f ?_ ?_ | refine wd_t ?_ ?_) <;> intro _)
                  all_goals first | (exfalso; omega) | skip
                  all_goals
                    refine t_forget ⟨(ob, .rows 1 OL) :: FI2, n2⟩ (Sub.of (.cons _ (List.Sublist.refl _)) (Nat.le_refl _)) ?_
                    exact hx _ (by simp [get, t2]) (by simp [get, t3]) (by simp [get, t4]) (by simp [get, t6]) (by simp [get, t10]) (by simp [get, t12]) (by simp [get, t13]) (by simp [get, t15])
              · have g6 := hnone (by rw [hs1, if_neg g1])
                subst g6
                have hx := hnk n2 OL (by omega) (by omega) rfl
                clear hnone hsome hnk hs1
                repeat' first | (with_reducible first | refine t_seq ?_ | refine t_skip ?_ | refine t_ret ?_ | refine t_end ?_ | refine t_cond ?_ | refine t_region ?_ | refine wr_done ?_ | refine WD.done _ ?_ | refine wdp_done ?_ | refine tr_some ?_ | refine t_inBlock ?_) | ((with_reducible refine t_isDraw ?_); refine t_draw rfl (by kernel_rfl) ?_) | ((fail_if_success with_reducible refine t_bl ?_); (with_reducible refine t_block ?_)) | ((with_reducible refine t_isExit ?_); refine t_exit rfl ?_) | simp only [decide_eq_true_eq, decide_eq_false_iff_not, Bool.not_eq_true', Bool.not_eq_false'] at * | simp (disch := omega) only [go_sem, Nat.reduceLT, Nat.reduceEqDiff, Nat.reduceAdd, Nat.reduceLeDiff, Nat.reduceMul, Int.reduceLT, Int.reduceLE, Int.reduceAdd, Int.reduceSub, Int.reduceNeg, Int.reduceToNat, Int.reduceBEq, Int.reduceEq, reduceCtorEq, ↓reduceIte, *] | (with_reducible first | refine tb_true ?_ | refine tb_false ?_) | ((with_reducible first | refine tb_split ?_ ?_ | refine wg_f ?_ ?_ | refine wg_t ?_ ?_ | refine wd_f ?_ ?_ | refine wd_t ?_ ?_) <;> intro _)
                all_goals first | (exfalso; omega) | skip
                all_goals
                  refine t_forget ⟨(ob, .rows 1 OL) :: FI2, n2⟩ (Sub.of (.cons _ (List.Sublist.refl _)) (Nat.le_refl _)) ?_
                  exact hx _ (by simp [get, t2]) (by simp [get, t3]) (by simp [get, t4]) (by simp [get, t6]) (by simp [get, t10]) (by simp [get, t12]) (by simp [get, t13]) (by simp [get, t15])
        · have c3 : m0 = b := c2.resolve_left c1
          clear c2
          repeat' first | (with_reducible first | refine t_seq ?_ | refine t_skip ?_ | refine t_ret ?_ | refine t_end ?_ | refine t_cond ?_ | refine t_region ?_ | refine wr_done ?_ | refine WD.done _ ?_ | refine wdp_done ?_ | refine tr_some ?_ | refine t_inBlock ?_) | ((with_reducible refine t_isDraw ?_); refine t_draw rfl (by kernel_rfl) ?_) | ((fail_if_success with_reducible refine t_bl ?_); (with_reducible refine t_block ?_)) | ((with_reducible refine t_isExit ?_); refine t_exit rfl ?_) | simp only [decide_eq_true_eq, decide_eq_false_iff_not, Bool.not_eq_true', Bool.not_eq_false'] at * | simp (disch := omega) only [go_sem, Nat.reduceLT, Nat.reduceEqDiff, Nat.reduceAdd, Nat.reduceLeDiff, Nat.reduceMul, Int.reduceLT, Int.reduceLE, Int.reduceAdd, Int.reduceSub, Int.reduceNeg, Int.reduceToNat, Int.reduceBEq, Int.reduceEq, reduceCtorEq, ↓reduceIte, *] | (with_reducible first | refine tb_true ?_ | refine tb_false ?_) | ((with_reducible first | refine tb_split ?_ ?_ | refine wg_f ?_ ?_ | refine wg_t ?_ ?_ | refine wd_f ?_ ?_ | refine wd_t ?_ ?_) <;> intro _)
          refine t_while (I := fun (j : Nat) t h => i ≤ j ∧ j ≤ k ∧ (∃ n2 e Lb, nn ≤ n2 ∧ n2 ≤ nn + 2 * (j - i) ∧ LpI nn (FL (j - i)) n2 e Lb ∧ h = ⟨Lb ++ (ob, .rows 1 OL) :: FI2, n2⟩ ∧ get t 16 = e) ∧ get t 2 = .i .i64 lo ∧ get t 3 = .i .i64 hi ∧ get t 4 = .osl ob 0 N ∧ get t 6 = .ip [.i .i64 12, .i .i64 a, .i .i64 b, .s nm, .isl false 5 [[.i .i64 xk, .i .i64 xa, .i .i64 xb, .s xn, .isl false 5 xs]]] 0 ∧ get t 10 = .i .i64 (lo - 400) ∧ get t 12 = .isl true 3 DL ∧ get t 13 = .isl true 1 BL ∧ get t 14 = .i .i64 i ∧ get t 15 = .i .i64 k ∧ get t 17 = .i .i64 j) (m := fun j => k - j)
            (J := fun t h => (∃ n2 e Lb, nn ≤ n2 ∧ n2 ≤ nn + 2 * (k - i) ∧ LpI nn (FL (k - i)) n2 e Lb ∧ h = ⟨Lb ++ (ob, .rows 1 OL) :: FI2, n2⟩ ∧ get t 16 = e) ∧ get t 2 = .i .i64 lo ∧ get t 3 = .i .i64 hi ∧ get t 4 = .osl ob 0 N ∧ get t 6 = .ip [.i .i64 12, .i .i64 a, .i .i64 b, .s nm, .isl false 5 [[.i .i64 xk, .i .i64 xa, .i .i64 xb, .s xn, .isl false 5 xs]]] 0 ∧ get t 10 = .i .i64 (lo - 400) ∧ get t 12 = .isl true 3 DL ∧ get t 13 = .isl true 1 BL ∧ get t 14 = .i .i64 i ∧ get t 15 = .i .i64 k) i
            ⟨by omega, by omega, ⟨nn, .nils, [], by omega, by omega, .inl ⟨by rw [Nat.sub_self]; exact hF0, rfl, rfl⟩, rfl, by simp [get]⟩, by simp [get, t2], by simp [get, t3], by simp [get, t4], by simp [get, t6], by simp [get, t10], by simp [get, t12], by simp [get, t13], by simp [get, t14], by simp [get, t15], by simp [get]⟩ ?_ ?_
          · clear hsel hfm hnk hon1 hon2 hOLa
            rintro j t h ⟨hj1, hj2, ⟨n2, e, Lb, hn3, hn4, hLp, rfl, t16⟩, t2, t3, t4, t6, t10, t12, t13, t14, t15, t17⟩ hrec hex
            by_cases hj : j < k
            · have gb := hB2 j hj
              have gF := hFs (j - i)
              have gl := hFl (j - i)
              rw [show lo - 400 + (i : Int) + ((j - i : Nat) : Int) = lo - 400 + j by omega, show j - i + 1 = j + 1 - i by omega] at gF
              have hnx2 : ∀ n3 e' Lb', nn ≤ n3 → n3 ≤ n2 + 2 → LpI nn (FL (j + 1 - i)) n3 e' Lb' → ∀ t', get t' 16 = e' → get t' 2 = .i .i64 lo → get t' 3 = .i .i64 hi → get t' 4 = .osl ob 0 N → get t' 6 = .ip [.i .i64 12, .i .i64 a, .i .i64 b, .s nm, .isl false 5 [[.i .i64 xk, .i .i64 xa, .i .i64 xb, .s xn, .isl false 5 xs]]] 0 → get t' 10 = .i .i64 (lo - 400) → get t' 12 = .isl true 3 DL → get t' 13 = .isl true 1 BL → get t' 14 = .i .i64 i → get t' 15 = .i .i64 k → get t' 17 = .i .i64 ((j : Int) + 1) → _ := fun n3 e' Lb' a1 a2 a3 t' a4 b1 b2 b3 b4 b5 b6 b7 b8 b9 b10 =>
                hrec (j + 1) t' ⟨Lb' ++ (ob, .rows 1 OL) :: FI2, n3⟩ ⟨by omega, by omega, ⟨n3, e', Lb', a1, by omega, a3, rfl, a4⟩, b1, b2, b3, b4, b5, b6, b7, b8, b9, by rw [b10]; rfl⟩ (by omega)
              have cj : (j : Int) < (k : Int) := by omega
              have r1 : ¬ n2 = ob := by omega
              have r2 : ¬ n2 + 1 = ob := by omega
              clear hrec hex hB2 hFs hFl hF0
              generalize FL (j + 1 - i) = l' at *
              generalize FL (j - i) = l at *
              have hw1 : (l.length + 1) * 8 ≤ 70368744177664 := by omega
              have hil := intR_len l
              cases hkv : kid (lo - 400 + j)
              · rw [hkv] at gb gF
                rw [if_neg (by simp), List.append_nil] at gF
                subst gF
                have hx := hnx2 n2 e Lb hn3 (by omega) hLp
                clear hnx2 hLp
                repeat' first | (with_reducible first | refine t_seq ?_ | refine t_skip ?_ | refine t_ret ?_ | refine t_end ?_ | refine t_cond ?_ | refine t_region ?_ | refine wr_done ?_ | refine WD.done _ ?_ | refine wdp_done ?_ | refine tr_some ?_ | refine t_inBlock ?_) | ((with_reducible refine t_isDraw ?_); refine t_draw rfl (by kernel_rfl) ?_) | ((fail_if_success with_reducible refine t_bl ?_); (with_reducible refine t_block ?_)) | ((with_reducible refine t_isExit ?_); refine t_exit rfl ?_) | simp only [decide_eq_true_eq, decide_eq_false_iff_not, Bool.not_eq_true', Bool.not_eq_false'] at * | simp (disch := omega) only [go_sem, Nat.reduceLT, Nat.reduceEqDiff, Nat.reduceAdd, Nat.reduceLeDiff, Nat.reduceMul, Int.reduceLT, Int.reduceLE, Int.reduceAdd, Int.reduceSub, Int.reduceNeg, Int.reduceToNat, Int.reduceBEq, Int.reduceEq, reduceCtorEq, ↓reduceIte, *] | (with_reducible first | refine tb_true ?_ | refine tb_false ?_) | ((with_reducible first | refine tb_split ?_ ?_ | refine wg_f ?_ ?_ | refine wg_t ?_ ?_ | refine wd_f ?_ ?_ | refine wd_t ?_ ?_) <;> intro _)
                all_goals first | (exfalso; omega) | skip
                all_goals exact hx _ (by simp [get, t16]) (by simp [get, t2]) (by simp [get, t3]) (by simp [get, t4]) (by simp [get, t6]) (by simp [get, t10]) (by simp [get, t12]) (by simp [get, t13]) (by simp [get, t14]) (by simp [get, t15]) (by simp [get])
              · rw [hkv] at gb gF
                rw [if_pos rfl] at gF
                rcases hLp with ⟨h1, rfl, rfl⟩ | ⟨id, h1, h2, h3, rfl, rfl⟩
                · subst h1
                  subst gF
                  have hx := hnx2 (n2 + 1 + 1) (.osl (n2 + 1) 0 1) [(n2 + 1, .rows 1 [[.i .i64 (lo - 400 + j)]])] (by omega) (by omega) (.inr ⟨n2 + 1, by simp, by omega, by omega, rfl, rfl⟩)
                  clear hnx2
                  simp only [List.nil_append]
                  repeat' first | (with_reducible first | refine t_seq ?_ | refine t_skip ?_ | refine t_ret ?_ | refine t_end ?_ | refine t_cond ?_ | refine t_region ?_ | refine wr_done ?_ | refine WD.done _ ?_ | refine wdp_done ?_ | refine tr_some ?_ | refine t_inBlock ?_) | ((with_reducible refine t_isDraw ?_); refine t_draw rfl (by kernel_rfl) ?_) | ((fail_if_success with_reducible refine t_bl ?_); (with_reducible refine t_block ?_)) | ((with_reducible refine t_isExit ?_); refine t_exit rfl ?_) | simp only [decide_eq_true_eq, decide_eq_false_iff_not, Bool.not_eq_true', Bool.not_eq_false'] at * | simp (disch := omega) only [go_sem, Nat.reduceLT, Nat.reduceEqDiff, Nat.reduceAdd, Nat.reduceLeDiff, Nat.reduceMul, Int.reduceLT, Int.reduceLE, Int.reduceAdd, Int.reduceSub, Int.reduceNeg, Int.reduceToNat, Int.reduceBEq, Int.reduceEq, reduceCtorEq, ↓reduceIte, *] | (with_reducible first | refine tb_true ?_ | refine tb_false ?_) | ((with_reducible first | refine tb_split ?_ ?_ | refine wg_f ?_ ?_ | refine wg_t ?_ ?_ | refine wd_f ?_ ?_ | refine wd_t ?_ ?_) <;> intro _)
                  all_goals first | (exfalso; omega) | skip
                  all_goals
                    refine t_forget ⟨(n2 + 1, .rows 1 [[.i .i64 (lo - 400 + j)]]) :: (ob, .rows 1 OL) :: FI2, n2 + 1 + 1⟩ (Sub.of (.cons_cons _ (.cons _ (List.Sublist.refl _))) (Nat.le_refl _)) ?_
                    exact hx _ (by simp [get]) (by simp [get, t2]) (by simp [get, t3]) (by simp [get, t4]) (by simp [get, t6]) (by simp [get, t10]) (by simp [get, t12]) (by simp [get, t13]) (by simp [get, t14]) (by simp [get, t15]) (by simp [get])
                · have hid1 : ¬ n2 = id := by omega
                  have hid2 : ¬ id = n2 := by omega
                  have hid3 : ¬ id = ob := by omega
                  have hid4 : ¬ n2 + 1 = id := by omega
                  subst gF
                  have hx := hnx2 (n2 + 1 + 1) (.osl (n2 + 1) 0 (l.length + 1)) [(n2 + 1, .rows 1 (intR l ++ [[.i .i64 (lo - 400 + j)]]))] (by omega) (by omega) (.inr ⟨n2 + 1, by simp, by omega, by omega, by simp, by rw [intR_snoc]⟩)
                  clear hnx2
                  simp only [List.cons_append, List.nil_append]
                  repeat' first | (with_reducible first | refine t_seq ?_ | refine t_skip ?_ | refine t_ret ?_ | refine t_end ?_ | refine t_cond ?_ | refine t_region ?_ | refine wr_done ?_ | refine WD.done _ ?_ | refine wdp_done ?_ | refine tr_some ?_ | refine t_inBlock ?_) | ((with_reducible refine t_isDraw ?_); refine t_draw rfl (by kernel_rfl) ?_) | ((fail_if_success with_reducible refine t_bl ?_); (with_reducible refine t_block ?_)) | ((with_reducible refine t_isExit ?_); refine t_exit rfl ?_) | simp only [decide_eq_true_eq, decide_eq_false_iff_not, Bool.not_eq_true', Bool.not_eq_false'] at * | simp (disch := omega) only [go_sem, Nat.reduceLT, Nat.reduceEqDiff, Nat.reduceAdd, Nat.reduceLeDiff, Nat.reduceMul, Int.reduceLT, Int.reduceLE, Int.reduceAdd, Int.reduceSub, Int.reduceNeg, Int.reduceToNat, Int.reduceBEq, Int.reduceEq, reduceCtorEq, ↓reduceIte, *] | (with_reducible first | refine tb_true ?_ | refine tb_false ?_) | ((with_reducible first | refine tb_split ?_ ?_ | refine wg_f ?_ ?_ | refine wg_t ?_ ?_ | refine wd_f ?_ ?_ | refine wd_t ?_ ?_) <;> intro _)
                  all_goals first | (exfalso; omega) | skip
                  all_goals
                    refine t_forget ⟨(n2 + 1, .rows 1 (intR l ++ [[.i .i64 (lo - 400 + j)]])) :: (ob, .rows 1 OL) :: FI2, n2 + 1 + 1⟩ (Sub.of (.cons_cons _ (.cons _ (List.Sublist.refl _))) (Nat.le_refl _)) ?_
                    exact hx _ (by simp [get]) (by simp [get, t2]) (by simp [get, t3]) (by simp [get, t4]) (by simp [get, t6]) (by simp [get, t10]) (by simp [get, t12]) (by simp [get, t13]) (by simp [get, t14]) (by simp [get, t15]) (by simp [get])
            · have e1 : j = k := by omega
              subst e1
              have hx := fun t' => hex t' ⟨Lb ++ (ob, .rows 1 OL) :: FI2, n2⟩
              clear hrec hex hB2 hFs hFl hF0
              have ck : ¬ (j : Int) < (j : Int) := by omega
              repeat' first | refine hx _ ⟨⟨n2, e, Lb, hn3, hn4, hLp, rfl, ?_⟩, ?_, ?_, ?_, ?_, ?_, ?_, ?_, ?_, ?_⟩ | (with_reducible first | refine t_seq ?_ | refine t_skip ?_ | refine t_ret ?_ | refine t_end ?_ | refine t_cond ?_ | refine t_region ?_ | refine wr_done ?_ | refine WD.done _ ?_ | refine wdp_done ?_ | refine tr_some ?_ | refine t_inBlock ?_) | ((with_reducible refine t_isDraw ?_); refine t_draw rfl (by kernel_rfl) ?_) | ((fail_if_success with_reducible refine t_bl ?_); (with_reducible refine t_block ?_)) | ((with_reducible refine t_isExit ?_); refine t_exit rfl ?_) | simp only [decide_eq_true_eq, decide_eq_false_iff_not, Bool.not_eq_true', Bool.not_eq_false'] at * | simp (disch := omega) only [go_sem, Nat.reduceLT, Nat.reduceEqDiff, Nat.reduceAdd, Nat.reduceLeDiff, Nat.reduceMul, Int.reduceLT, Int.reduceLE, Int.reduceAdd, Int.reduceSub, Int.reduceNeg, Int.reduceToNat, Int.reduceBEq, Int.reduceEq, reduceCtorEq, ↓reduceIte, *] | (with_reducible first | refine tb_true ?_ | refine tb_false ?_) | ((with_reducible first | refine tb_split ?_ ?_ | refine wg_f ?_ ?_ | refine wg_t ?_ ?_ | refine wd_f ?_ ?_ | refine wd_t ?_ ?_) <;> intro _)
              all_goals first | (exfalso; omega) | skip
              all_goals simp [get, t16, t2, t3, t4, t6, t10, t12, t13, t14, t15]
          · rintro t h ⟨⟨n2, e, Lb, hn3, hn4, hLp, rfl, t16⟩, t2, t3, t4, t6, t10, t12, t13, t14, t15⟩
            have hln := hFl (k - i)
            clear hB2 hFs hFl hF0
            generalize FL (k - i) = l at *
            have v6 : n2 ≤ n1 + 2 * k := by omega
            rcases hLp with ⟨h1, rfl, rfl⟩ | ⟨id, h1, h2, h3, rfl, rfl⟩
            · subst h1
              have g6 : OL = OK := hon1 (fun y y1 y2 y3 y4 => by
                rw [hsel y y1 y2 y3 y4]
                refine decide_eq_false (fun q => ?_)
                have := sel_mem q
                cases this)
              subst g6
              have hx := hnk n2 OL (by omega) (by omega) rfl
              clear hon1 hon2 hsel hfm hnk
              simp only [List.nil_append]
              by_cases ha : a < 0
              · repeat' first | (with_reducible first | refine t_seq ?_ | refine t_skip ?_ | refine t_ret ?_ | refine t_end ?_ | refine t_cond ?_ | refine t_region ?_ | refine wr_done ?_ | refine WD.done _ ?_ | refine wdp_done ?_ | refine tr_some ?_ | refine t_inBlock ?_) | ((with_reducible refine t_isDraw ?_); refine t_draw rfl (by kernel_rfl) ?_) | ((fail_if_success with_reducible refine t_bl ?_); (with_reducible refine t_block ?_)) | ((with_reducible refine t_isExit ?_); refine t_exit rfl ?_) | simp only [decide_eq_true_eq, decide_eq_false_iff_not, Bool.not_eq_true', Bool.not_eq_false'] at * | simp (disch := omega) only [go_sem, Nat.reduceLT, Nat.reduceEqDiff, Nat.reduceAdd, Nat.reduceLeDiff, Nat.reduceMul, Int.reduceLT, Int.reduceLE, Int.reduceAdd, Int.reduceSub, Int.reduceNeg, Int.reduceToNat, Int.reduceBEq, Int.reduceEq, reduceCtorEq, ↓reduceIte, *] | (with_reducible first | refine tb_true ?_ | refine tb_false ?_) | ((with_reducible first | refine tb_split ?_ ?_ | refine wg_f ?_ ?_ | refine wg_t ?_ ?_ | refine wd_f ?_ ?_ | refine wd_t ?_ ?_) <;> intro _)
                all_goals first | (exfalso; omega) | skip
                all_goals exact hx _ (by simp [get, t2]) (by simp [get, t3]) (by simp [get, t4]) (by simp [get, t6]) (by simp [get, t10]) (by simp [get, t12]) (by simp [get, t13]) (by simp [get, t15])
              · repeat' first | (with_reducible first | refine t_seq ?_ | refine t_skip ?_ | refine t_ret ?_ | refine t_end ?_ | refine t_cond ?_ | refine t_region ?_ | refine wr_done ?_ | refine WD.done _ ?_ | refine wdp_done ?_ | refine tr_some ?_ | refine t_inBlock ?_) | ((with_reducible refine t_isDraw ?_); refine t_draw rfl (by kernel_rfl) ?_) | ((fail_if_success with_reducible refine t_bl ?_); (with_reducible refine t_block ?_)) | ((with_reducible refine t_isExit ?_); refine t_exit rfl ?_) | simp only [decide_eq_true_eq, decide_eq_false_iff_not, Bool.not_eq_true', Bool.not_eq_false'] at * | simp (disch := omega) only [go_sem, Nat.reduceLT, Nat.reduceEqDiff, Nat.reduceAdd, Nat.reduceLeDiff, Nat.reduceMul, Int.reduceLT, Int.reduceLE, Int.reduceAdd, Int.reduceSub, Int.reduceNeg, Int.reduceToNat, Int.reduceBEq, Int.reduceEq, reduceCtorEq, ↓reduceIte, *] | (with_reducible first | refine tb_true ?_ | refine tb_false ?_) | ((with_reducible first | refine tb_split ?_ ?_ | refine wg_f ?_ ?_ | refine wg_t ?_ ?_ | refine wd_f ?_ ?_ | refine wd_t ?_ ?_) <;> intro _)
                all_goals first | (exfalso; omega) | skip
                all_goals exact hx _ (by simp [get, t2]) (by simp [get, t3]) (by simp [get, t4]) (by simp [get, t6]) (by simp [get, t10]) (by simp [get, t12]) (by simp [get, t13]) (by simp [get, t15])
            have hid3 : ¬ id = ob := by omega
            have hil := intR_len l
            simp only [List.cons_append, List.nil_append]
            by_cases ha : a < 0
            · have hs1 : sel a l = if 0 ≤ (l.length : Int) + a then l[((l.length : Int) + a).toNat]? else none := by
                unfold sel selN; rw [if_pos ha]
              have hnone : sel a l = none → OL = OK := fun hz => hon1 (fun y y1 y2 y3 y4 => by rw [hsel y y1 y2 y3 y4, hz]; simp)
              have hsome : ∀ z, sel a l = some z → ((z < lo ∨ hi < z) → OL = OK) ∧ (lo ≤ z → z ≤ hi → OL.set (z - lo).toNat [.b true] = OK) := fun z hz => by
                have hzm := hfm z (sel_mem hz)
                refine ⟨fun hzo => hon1 (fun y y1 y2 y3 y4 => ?_), fun hz1 hz2 => hon2 z hz1 (by omega) hzm.1 hzm.2 (fun y y1 y2 y3 y4 => ?_)⟩
                · rw [hsel y y1 y2 y3 y4, hz]
                  exact decide_eq_false (fun q => by cases q; omega)
                · rw [hsel y y1 y2 y3 y4, hz]
                  simp
              clear hon1 hon2 hsel hfm
              by_cases g1 : 0 ≤ (l.length : Int) + a
              · by_cases g2 : (l.length : Int) + a < (l.length : Int)
                · have g3 : ((l.length : Int) + a).toNat < l.length := by omega
                  have hz : sel a l = some (l[((l.length : Int) + a).toNat]) := by rw [hs1, if_pos g1]; exact List.getElem?_eq_getElem g3
                  have hg : (intR l)[((l.length : Int) + a).toNat]? = some [.i .i64 l[((l.length : Int) + a).toNat]] := by simp [intR, g3]
                  obtain ⟨hs2, hs3⟩ := hsome _ hz
                  generalize l[((l.length : Int) + a).toNat] = z at *
                  clear hz hsome hnone hs1
                  by_cases g4 : lo ≤ z
                  · by_cases g5 : z ≤ hi
                    · have g6 := hs3 g4 g5
                      have g7 : (z - lo).toNat < OL.length := by omega
                      obtain ⟨ov, hov⟩ := hOLa (z - lo).toNat (by omega)
                      have g8 : ¬ z - lo < 0 := by omega
                      have hx := hnk n2 OK (by omega) (by omega) rfl
                      clear hs2 hs3 hnk
                      repeat' first | (with_reducible first | refine t_seq ?_ | refine t_skip ?_ | refine t_ret ?_ | refine t_end ?_ | refine t_cond ?_ | refine t_region ?_ | refine wr_done ?_ | refine WD.done _ ?_ | refine wdp_done ?_ | refine tr_some ?_ | refine t_inBlock ?_) | ((with_reducible refine t_isDraw ?_); refine t_draw rfl (by kernel_rfl) ?_) | ((fail_if_success with_reducible refine t_bl ?_); (with_reducible refine t_block ?_)) | ((with_reducible refine t_isExit ?_); refine t_exit rfl ?_) | simp only [decide_eq_true_eq, decide_eq_false_iff_not, Bool.not_eq_true', Bool.not_eq_false'] at * | simp (disch := omega) only [go_sem, Nat.reduceLT, Nat.reduceEqDiff, Nat.reduceAdd, Nat.reduceLeDiff, Nat.reduceMul, Int.reduceLT, Int.reduceLE, Int.reduceAdd, Int.reduceSub, Int.reduceNeg, Int.reduceToNat, Int.reduceBEq, Int.reduceEq, reduceCtorEq, ↓reduceIte, *] | (with_reducible first | refine tb_true ?_ | refine tb_false ?_) | ((with_reducible first | refine tb_split ?_ ?_ | refine wg_f ?_ ?_ | refine wg_t ?_ ?_ | refine wd_f ?_ ?_ | refine wd_t ?_ ?_) <;> intro _)
                      all_goals first | (exfalso; omega) | skip
                      all_goals
                        refine t_forget ⟨(ob, .rows 1 OK) :: FI2, n2⟩ (Sub.of (.cons _ (List.Sublist.refl _)) (Nat.le_refl _)) ?_
                        exact hx _ (by simp [get, t2]) (by simp [get, t3]) (by simp [get, t4]) (by simp [get, t6]) (by simp [get, t10]) (by simp [get, t12]) (by simp [get, t13]) (by simp [get, t15])
                    · have g6 := hs2 (by omega)
                      subst g6
                      have hx := hnk n2 OL (by omega) (by omega) rfl
                      clear hs2 hs3 hnk
                      repeat' first | (with_reducible first | refine t_seq ?_ | refine t_skip ?_ | refine t_ret ?_ | refine t_end ?_ | refine t_cond ?_ | refine t_region ?_ | refine wr_done ?_ | refine WD.done _ ?_ | refine wdp_done ?_ | refine tr_some ?_ | refine t_inBlock ?_) | ((with_reducible refine t_isDraw ?_); refine t_draw rfl (by kernel_rfl) ?_) | ((fail_if_success with_reducible refine t_bl ?_); (with_reducible refine t_block ?_)) | ((with_reducible refine t_isExit ?_); refine t_exit rfl ?_) | simp only [decide_eq_true_eq, decide_eq_false_iff_not, Bool.not_eq_true', Bool.not_eq_false'] at * | simp (disch := omega) only [go_sem, Nat.reduceLT, Nat.reduceEqDiff, Nat.reduceAdd, Nat.reduceLeDiff, Nat.reduceMul, Int.reduceLT, Int.reduceLE, Int.reduceAdd, Int.reduceSub, Int.reduceNeg, Int.reduceToNat, Int.reduceBEq, Int.reduceEq, reduceCtorEq, ↓reduceIte, *] | (with_reducible first | refine tb_true ?_ | refine tb_false ?_) | ((with_reducible first | refine tb_split ?_ ?_ | refine wg_f ?_ ?_ | refine wg_t ?_ ?_ | refine wd_f ?_ ?_ | refine wd_t ?_ ?_) <;> intro _)
                      all_goals first | (exfalso; omega) | skip
                      all_goals
                        refine t_forget ⟨(ob, .rows 1 OL) :: FI2, n2⟩ (Sub.of (.cons _ (List.Sublist.refl _)) (Nat.le_refl _)) ?_
                        exact hx _ (by simp [get, t2]) (by simp [get, t3]) (by simp [get, t4]) (by simp [get, t6]) (by simp [get, t10]) (by simp [get, t12]) (by simp [get, t13]) (by simp [get, t15])
                  · have g6 := hs2 (by omega)
                    subst g6
                    have hx := hnk n2 OL (by omega) (by omega) rfl
                    clear hs2 hs3 hnk
                    repeat' first | (with_reducible first | refine t_seq ?_ | refine t_skip ?_ | refine t_ret ?_ | refine t_end ?_ | refine t_cond ?_ | refine t_region ?_ | refine wr_done ?_ | refine WD.done _ ?_ | refine wdp_done ?_ | refine tr_some ?_ | refine t_inBlock ?_) | ((with_reducible refine t_isDraw ?_); refine t_draw rfl (by kernel_rfl) ?_) | ((fail_if_success with_reducible refine t_bl ?_); (with_reducible refine t_block ?_)) | ((with_reducible refine t_isExit ?_); refine t_exit rfl ?_) | simp only [decide_eq_true_eq, decide_eq_false_iff_not, Bool.not_eq_true', Bool.not_eq_false'] at * | simp (disch := omega) only [go_sem, Nat.reduceLT, Nat.reduceEqDiff, Nat.reduceAdd, Nat.reduceLeDiff, Nat.reduceMul, Int.reduceLT, Int.reduceLE, Int.reduceAdd, Int.reduceSub, Int.reduceNeg, Int.reduceToNat, Int.reduceBEq, Int.reduceEq, reduceCtorEq, ↓reduceIte, *] | (with_reducible first | refine tb_true ?_ | refine tb_false ?_) | ((with_reducible first | refine tb_split ?_ ?_ | refine wg_f ?_ ?_ | refine wg_t ?_ ?_ | refine wd_f ?_ ?_ | refine wd_t ?_ ?_) <;> intro _)
                    all_goals first | (exfalso; omega) | skip
                    all_goals
                      refine t_forget ⟨(ob, .rows 1 OL) :: FI2, n2⟩ (Sub.of (.cons _ (List.Sublist.refl _)) (Nat.le_refl _)) ?_
                      exact hx _ (by simp [get, t2]) (by simp [get, t3]) (by simp [get, t4]) (by simp [get, t6]) (by simp [get, t10]) (by simp [get, t12]) (by simp [get, t13]) (by simp [get, t15])
                · have g6 := hnone (by rw [hs1, if_pos g1]; exact List.getElem?_eq_none (by omega))
                  subst g6
                  have hx := hnk n2 OL (by omega) (by omega) rfl
                  clear hnone hsome hnk hs1
                  repeat' first | (with_reducible first | refine t_seq ?_ | refine t_skip ?_ | refine t_ret ?_ | refine t_end ?_ | refine t_cond ?_ | refine t_region ?_ | refine wr_done ?_ | refine WD.done _ ?_ | refine wdp_done ?_ | refine tr_some ?_ | refine t_inBlock ?_) | ((with_reducible refine t_isDraw ?_); refine t_draw rfl (by kernel_rfl) ?_) | ((fail_if_success with_reducible refine t_bl ?_); (with_reducible refine t_block ?_)) | ((with_reducible refine t_isExit ?_); refine t_exit rfl ?_) | simp only [decide_eq_true_eq, decide_eq_false_iff_not, Bool.not_eq_true', Bool.not_eq_false'] at * | simp (disch := omega) only [go_sem, Nat.reduceLT, Nat.reduceEqDiff, Nat.reduceAdd, Nat.reduceLeDiff, Nat.reduceMul, Int.reduceLT, Int.reduceLE, Int.reduceAdd, Int.reduceSub, Int.reduceNeg, Int.reduceToNat, Int.reduceBEq, Int.reduceEq, reduceCtorEq, ↓reduceIte, *] | (with_reducible first | refine tb_true ?_ | refine tb_false ?_) | ((with_reducible first | refine tb_split ?_ ?_ | refine wg_f ?_ ?_ | refine wg_t ?_ ?_ | refine wd_f ?_ ?_ | refine wd_t ?_ ?_) <;> intro _)
                  all_goals first | (exfalso; omega) | skip
                  all_goals
                    refine t_forget ⟨(ob, .rows 1 OL) :: FI2, n2⟩ (Sub.of (.cons _ (List.Sublist.refl _)) (Nat.le_refl _)) ?_
                    exact hx _ (by simp [get, t2]) (by simp [get, t3]) (by simp [get, t4]) (by simp [get, t6]) (by simp [get, t10]) (by simp [get, t12]) (by simp [get, t13]) (by simp [get, t15])
              · have g6 := hnone (by rw [hs1, if_neg g1])
                subst g6
                have hx := hnk n2 OL (by omega) (by omega) rfl
                clear hnone hsome hnk hs1
                repeat' first | (with_reducible first | refine t_seq ?_ | refine t_skip ?_ | refine t_ret ?_ | refine t_end ?_ | refine t_cond ?_ | refine t_region ?_ | refine wr_done ?_ | refine WD.done _ ?_ | refine wdp_done ?_ | refine tr_some ?_ | refine t_inBlock ?_) | ((with_reducible refine t_isDraw ?_); refine t_draw rfl (by kernel_rfl) ?_) | ((fail_if_success with_reducible refine t_bl ?_); (with_reducible refine t_block ?_)) | ((with_reducible refine t_isExit ?_); refine t_exit rfl ?_) | simp only [decide_eq_true_eq, decide_eq_false_iff_not, Bool.not_eq_true', Bool.not_eq_false'] at * | simp (disch := omega) only [go_sem, Nat.reduceLT, Nat.reduceEqDiff, Nat.reduceAdd, Nat.reduceLeDiff, Nat.reduceMul, Int.reduceLT, Int.reduceLE, Int.reduceAdd, Int.reduceSub, Int.reduceNeg, Int.reduceToNat, Int.reduceBEq, Int.reduceEq, reduceCtorEq, ↓reduceIte, *] | (with_reducible first | refine tb_true ?_ | refine tb_false ?_) | ((with_reducible first | refine tb_split ?_ ?_ | refine wg_f ?_ ?_ | refine wg_t ?_ ?_ | refine wd_f ?_ ?_ | refine wd_t ?_ ?_) <;> intro _)
                all_goals first | (exfalso; omega) | skip
                all_goals
                  refine t_forget ⟨(ob, .rows 1 OL) :: FI2, n2⟩ (Sub.of (.cons _ (List.Sublist.refl _)) (Nat.le_refl _)) ?_
                  exact hx _ (by simp [get, t2]) (by simp [get, t3]) (by simp [get, t4]) (by simp [get, t6]) (by simp [get, t10]) (by simp [get, t12]) (by simp [get, t13]) (by simp [get, t15])
            · have hs1 : sel a l = if 0 ≤ a - 1 then l[(a - 1).toNat]? else none := by
                unfold sel selN; rw [if_neg ha]
              have hnone : sel a l = none → OL = OK := fun hz => hon1 (fun y y1 y2 y3 y4 => by rw [hsel y y1 y2 y3 y4, hz]; simp)
              have hsome : ∀ z, sel a l = some z → ((z < lo ∨ hi < z) → OL = OK) ∧ (lo ≤ z → z ≤ hi → OL.set (z - lo).toNat [.b true] = OK) := fun z hz => by
                have hzm := hfm z (sel_mem hz)
                refine ⟨fun hzo => hon1 (fun y y1 y2 y3 y4 => ?_), fun hz1 hz2 => hon2 z hz1 (by omega) hzm.1 hzm.2 (fun y y1 y2 y3 y4 => ?_)⟩
                · rw [hsel y y1 y2 y3 y4, hz]
                  exact decide_eq_false (fun q => by cases q; omega)
                · rw [hsel y y1 y2 y3 y4, hz]
                  simp
              clear hon1 hon2 hsel hfm
              by_cases g1 : 0 ≤ a - 1
              · by_cases g2 : a - 1 < (l.length : Int)
                · have g3 : (a - 1).toNat < l.length := by omega
                  have hz : sel a l = some (l[(a - 1).toNat]) := by rw [hs1, if_pos g1]; exact List.getElem?_eq_getElem g3
                  have hg : (intR l)[(a - 1).toNat]? = some [.i .i64 l[(a - 1).toNat]] := by simp [intR, g3]
                  obtain ⟨hs2, hs3⟩ := hsome _ hz
                  generalize l[(a - 1).toNat] = z at *
                  clear hz hsome hnone hs1
                  by_cases g4 : lo ≤ z
                  · by_cases g5 : z ≤ hi
                    · have g6 := hs3 g4 g5
                      have g7 : (z - lo).toNat < OL.length := by omega
                      obtain ⟨ov, hov⟩ := hOLa (z - lo).toNat (by omega)
                      have g8 : ¬ z - lo < 0 := by omega
                      have hx := hnk n2 OK (by omega) (by omega) rfl
                      clear hs2 hs3 hnk
                      repeat' first | (with_reducible first | refine t_seq ?_ | refine t_skip ?_ | refine t_ret ?_ | refine t_end ?_ | refine t_cond ?_ | refine t_region ?_ | refine wr_done ?_ | refine WD.done _ ?_ | refine wdp_done ?_ | refine tr_some ?_ | refine t_inBlock ?_) | ((with_reducible refine t_isDraw ?_); refine t_draw rfl (by kernel_rfl) ?_) | ((fail_if_success with_reducible refine t_bl ?_); (with_reducible refine t_block ?_)) | ((with_reducible refine t_isExit ?_); refine t_exit rfl ?_) | simp only [decide_eq_true_eq, decide_eq_false_iff_not, Bool.not_eq_true', Bool.not_eq_false'] at * | simp (disch := omega) only [go_sem, Nat.reduceLT, Nat.reduceEqDiff, Nat.reduceAdd, Nat.reduceLeDiff, Nat.reduceMul, Int.reduceLT, Int.reduceLE, Int.reduceAdd, Int.reduceSub, Int.reduceNeg, Int.reduceToNat, Int.reduceBEq, Int.reduceEq, reduceCtorEq, ↓reduceIte, *] | (with_reducible first | refine tb_true ?_ | refine tb_false ?_) | ((with_reducible first | refine tb_split ?_ ?_ | refine wg_f ?_ ?_ | refine wg_t ?_ ?_ | refine wd_f ?_ ?_ | refine wd_t ?_ ?_) <;> intro _)
                      all_goals first | (exfalso; omega) | skip
                      all_goals
                        refine t_forget ⟨(ob, .rows 1 OK) :: FI2, n2⟩ (Sub.of (.cons _ (List.Sublist.refl _)) (Nat.le_refl _)) ?_
                        exact hx _ (by simp [get, t2]) (by simp [get, t3]) (by simp [get, t4]) (by simp [get, t6]) (by simp [get, t10]) (by simp [get, t12]) (by simp [get, t13]) (by simp [get, t15])
                    · have g6 := hs2 (by omega)
                      subst g6
                      have hx := hnk n2 OL (by omega) (by omega) rfl
                      clear hs2 hs3 hnk
                      repeat' first | (with_reducible first | refine t_seq ?_ | refine t_skip ?_ | refine t_ret ?_ | refine t_end ?_ | refine t_cond ?_ | refine t_region ?_ | refine wr_done ?_ | refine WD.done _ ?_ | refine wdp_done ?_ | refine tr_some ?_ | refine t_inBlock ?_) | ((with_reducible refine t_isDraw ?_); refine t_draw rfl (by kernel_rfl) ?_) | ((fail_if_success with_reducible refine t_bl ?_); (with_reducible refine t_block ?_)) | ((with_reducible refine t_isExit ?_); refine t_exit rfl ?_) | simp only [decide_eq_true_eq, decide_eq_false_iff_not, Bool.not_eq_true', Bool.not_eq_false'] at * | simp (disch := omega) only [go_sem, Nat.reduceLT, Nat.reduceEqDiff, Nat.reduceAdd, Nat.reduceLeDiff, Nat.reduceMul, Int.reduceLT, Int.reduceLE, Int.reduceAdd, Int.reduceSub, Int.reduceNeg, Int.reduceToNat, Int.reduceBEq, Int.reduceEq, reduceCtorEq, ↓reduceIte, *] | (with_reducible first | refine tb_true ?_ | refine tb_false ?_) | ((with_reducible first | refine tb_split ?_ ?_ | refine wg_f ?_ ?_ | refine wg_t ?_ ?_ | refine wd_f ?_ ?_ | refine wd_t ?_ ?_) <;> intro _)
                      all_goals first | (exfalso; omega) | skip
                      all_goals
                        refine t_forget ⟨(ob, .rows 1 OL) :: FI2, n2⟩ (Sub.of (.cons _ (List.Sublist.refl _)) (Nat.le_refl _)) ?_
                        exact hx _ (by simp [get, t2]) (by simp [get, t3]) (by simp [get, t4]) (by simp [get, t6]) (by simp [get, t10]) (by simp [get, t12]) (by simp [get, t13]) (by simp [get, t15])
                  · have g6 := hs2 (by omega)
                    subst g6
                    have hx := hnk n2 OL (by omega) (by omega) rfl
                    clear hs2 hs3 hnk
                    repeat' first | (with_reducible first | refine t_seq ?_ | refine t_skip ?_ | refine t_ret ?_ | refine t_end ?_ | refine t_cond ?_ | refine t_region ?_ | refine wr_done ?_ | refine WD.done _ ?_ | refine wdp_done ?_ | refine tr_some ?_ | refine t_inBlock ?_) | ((with_reducible refine t_isDraw ?_); refine t_draw rfl (by kernel_rfl) ?_) | ((fail_if_success with_reducible refine t_bl ?_); (with_reducible refine t_block ?_)) | ((with_reducible refine t_isExit ?_); refine t_exit rfl ?_) | simp only [decide_eq_true_eq, decide_eq_false_iff_not, Bool.not_eq_true', Bool.not_eq_false'] at * | simp (disch := omega) only [go_sem, Nat.reduceLT, Nat.reduceEqDiff, Nat.reduceAdd, Nat.reduceLeDiff, Nat.reduceMul, Int.reduceLT, Int.reduceLE, Int.reduceAdd, Int.reduceSub, Int.reduceNeg, Int.reduceToNat, Int.reduceBEq, Int.reduceEq, reduceCtorEq, ↓reduceIte, *] | (with_reducible first | refine tb_true ?_ | refine tb_false ?_) | ((with_reducible first | refine tb_split ?_ ?_ | refine wg_f ?_ ?_ | refine wg_t ?_ ?_ | refine wd_f ?_ ?_ | refine wd_t ?_ ?_) <;> intro _)
                    all_goals first | (exfalso; omega) | skip
                    all_goals
                      refine t_forget ⟨(ob, .rows 1 OL) :: FI2, n2⟩ (Sub.of (.cons _ (List.Sublist.refl _)) (Nat.le_refl _)) ?_
                      exact hx _ (by simp [get, t2]) (by simp [get, t3]) (by simp [get, t4]) (by simp [get, t6]) (by simp [get, t10]) (by simp [get, t12]) (by simp [get, t13]) (by simp [get, t15])
                · have g6 := hnone (by rw [hs1, if_pos g1]; exact List.getElem?_eq_none (by omega))
                  subst g6
                  have hx := hnk n2 OL (by omega) (by omega) rfl
                  clear hnone hsome hnk hs1
                  repeat' first | (with_reducible first | refine t_seq ?_ | refine t_skip ?_ | refine t_ret ?_ | refine t_end ?_ | refine t_cond ?_ | refine t_region ?_ | refine wr_done ?_ | refine WD.done _ ?_ | refine wdp_done ?_ | refine tr_some ?_ | refine t_inBlock ?_) | ((with_reducible refine t_isDraw ?_); refine t_draw rfl (by kernel_rfl) ?_) | ((fail_if_success with_reducible refine t_bl ?_); (with_reducible refine t_block ?_)) | ((with_reducible refine t_isExit ?_); refine t_exit rfl ?_) | simp only [decide_eq_true_eq, decide_eq_false_iff_not, Bool.not_eq_true', Bool.not_eq_false'] at * | simp (disch := omega) only [go_sem, Nat.reduceLT, Nat.reduceEqDiff, Nat.reduceAdd, Nat.reduceLeDiff, Nat.reduceMul, Int.reduceLT, Int.reduceLE, Int.reduceAdd, Int.reduceSub, Int.reduceNeg, Int.reduceToNat, Int.reduceBEq, Int.reduceEq, reduceCtorEq, ↓reduceIte, *] | (with_reducible first | refine tb_true ?_ | refine tb_false ?_) | ((with_reducible first | refine tb_split ?_ ?_ | refine wg_f ?_ ?_ | refine wg_t ?_ ?_ | refine wd_f ?_ ?_ | refine wd_t ?_ ?_) <;> intro _)
                  all_goals first | (exfalso; omega) | skip
                  all_goals
                    refine t_forget ⟨(ob, .rows 1 OL) :: FI2, n2⟩ (Sub.of (.cons _ (List.Sublist.refl _)) (Nat.le_refl _)) ?_
                    exact hx _ (by simp [get, t2]) (by simp [get, t3]) (by simp [get, t4]) (by simp [get, t6]) (by simp [get, t10]) (by simp [get, t12]) (by simp [get, t13]) (by simp [get, t15])
              · have g6 := hnone (by rw [hs1, if_neg g1])
                subst g6
                have hx := hnk n2 OL (by omega) (by omega) rfl
                clear hnone hsome hnk hs1
                repeat' first | (with_reducible first | refine t_seq ?_ | refine t_skip ?_ | refine t_ret ?_ | refine t_end ?_ | refine t_cond ?_ | refine t_region ?_ | refine wr_done ?_ | refine WD.done _ ?_ | refine wdp_done ?_ | refine tr_some ?_ | refine t_inBlock ?_) | ((with_reducible refine t_isDraw ?_); refine t_draw rfl (by kernel_rfl) ?_) | ((fail_if_success with_reducible refine t_bl ?_); (with_reducible refine t_block ?_)) | ((with_reducible refine t_isExit ?_); refine t_exit rfl ?_) | simp only [decide_eq_true_eq, decide_eq_false_iff_not, Bool.not_eq_true', Bool.not_eq_false'] at * | simp (disch := omega) only [go_sem, Nat.reduceLT, Nat.reduceEqDiff, Nat.reduceAdd, Nat.reduceLeDiff, Nat.reduceMul, Int.reduceLT, Int.reduceLE, Int.reduceAdd, Int.reduceSub, Int.reduceNeg, Int.reduceToNat, Int.reduceBEq, Int.reduceEq, reduceCtorEq, ↓reduceIte, *] | (with_reducible first | refine tb_true ?_ | refine tb_false ?_) | ((with_reducible first | refine tb_split ?_ ?_ | refine wg_f ?_ ?_ | refine wg_t ?_ ?_ | refine wd_f ?_ ?_ | refine wd_t ?_ ?_) <;> intro _)
                all_goals first | (exfalso; omega) | skip
                all_goals
                  refine t_forget ⟨(ob, .rows 1 OL) :: FI2, n2⟩ (Sub.of (.cons _ (List.Sublist.refl _)) (Nat.le_refl _)) ?_
                  exact hx _ (by simp [get, t2]) (by simp [get, t3]) (by simp [get, t4]) (by simp [get, t6]) (by simp [get, t10]) (by simp [get, t12]) (by simp [get, t13]) (by simp [get, t15])
    · have : i = N + 800 := by omega
      subst this
      clear hB hD2 hLie hon hrec
      have hx := hex
      clear hex
      repeat' first | refine hx _ _ ?_ | (with_reducible first | refine t_seq ?_ | refine t_skip ?_ | refine t_ret ?_ | refine t_end ?_ | refine t_cond ?_ | refine t_region ?_ | refine wr_done ?_ | refine WD.done _ ?_ | refine wdp_done ?_ | refine tr_some ?_ | refine t_inBlock ?_) | ((with_reducible refine t_isDraw ?_); refine t_draw rfl (by kernel_rfl) ?_) | ((fail_if_success with_reducible refine t_bl ?_); (with_reducible refine t_block ?_)) | ((with_reducible refine t_isExit ?_); refine t_exit rfl ?_) | simp only [decide_eq_true_eq, decide_eq_false_iff_not, Bool.not_eq_true', Bool.not_eq_false'] at * | simp (disch := omega) only [go_sem, Nat.reduceLT, Nat.reduceEqDiff, Nat.reduceAdd, Nat.reduceLeDiff, Nat.reduceMul, Int.reduceLT, Int.reduceLE, Int.reduceAdd, Int.reduceSub, Int.reduceNeg, Int.reduceToNat, Int.reduceBEq, Int.reduceEq, reduceCtorEq, ↓reduceIte, *] | (with_reducible first | refine tb_true ?_ | refine tb_false ?_) | ((with_reducible first | refine tb_split ?_ ?_ | refine wg_f ?_ ?_ | refine wg_t ?_ ?_ | refine wd_f ?_ ?_ | refine wd_t ?_ ?_) <;> intro _)
      all_goals first | (exfalso; omega) | skip
      all_goals exact ⟨nn, by omega, rfl⟩
  · rintro t h ⟨nn, hnn, rfl⟩
    rw [z2]
    clear hB hD2 hLie hon z2
    repeat' first | (with_reducible first | refine t_seq ?_ | refine t_skip ?_ | refine t_ret ?_ | refine t_end ?_ | refine t_cond ?_ | refine t_region ?_ | refine wr_done ?_ | refine WD.done _ ?_ | refine wdp_done ?_ | refine tr_some ?_ | refine t_inBlock ?_) | ((with_reducible refine t_isDraw ?_); refine t_draw rfl (by kernel_rfl) ?_) | ((fail_if_success with_reducible refine t_bl ?_); (with_reducible refine t_block ?_)) | ((with_reducible refine t_isExit ?_); refine t_exit rfl ?_) | simp only [decide_eq_true_eq, decide_eq_false_iff_not, Bool.not_eq_true', Bool.not_eq_false'] at * | simp (disch := omega) only [go_sem, Nat.reduceLT, Nat.reduceEqDiff, Nat.reduceAdd, Nat.reduceLeDiff, Nat.reduceMul, Int.reduceLT, Int.reduceLE, Int.reduceAdd, Int.reduceSub, Int.reduceNeg, Int.reduceToNat, Int.reduceBEq, Int.reduceEq, reduceCtorEq, ↓reduceIte, *] | (with_reducible first | refine tb_true ?_ | refine tb_false ?_) | ((with_reducible first | refine tb_split ?_ ?_ | refine wg_f ?_ ?_ | refine wg_t ?_ ?_ | refine wd_f ?_ ?_ | refine wd_t ?_ ?_) <;> intro _)
    exact Sub.of (List.Sublist.refl _) (by omega)
end Go.Proofs.YthahgmncnbeddaaGreatDoorA
