/- rule.Check, slices.Clone of months, compile.Compile. -/
import Derived.Test.YthahgmncnbeddaaGreatDoorPW11
set_option linter.unusedVariables false
set_option linter.unusedSimpArgs false
namespace Go.Proofs.YthahgmncnbeddaaGreatDoorA
open Go Go.RowKit Go.Proofs.YthahgmncnbeddaaGreatDoorFx Go.Proofs
attribute [local go_sem] List.take_succ_cons List.take_zero List.take_nil List.drop_succ_cons List.drop_nil List.cons_append List.nil_append List.set_cons_zero List.set_cons_succ
variable {m : Int}
noncomputable def infM : TypeInfo := (Tryz.prog.info? 128).getD default
@[go_sem] theorem infM_eq : Tryz.prog.info? 128 = some infM := by kernel_rfl
@[go_sem] theorem infM_b : infM.bytes = 32 := by kernel_rfl
noncomputable def infI : TypeInfo := (Tryz.prog.info? 3).getD default
@[go_sem] theorem infI_eq : Tryz.prog.info? 3 = some infI := by kernel_rfl
@[go_sem] theorem infI_b : infI.bytes = 8 := by kernel_rfl
@[go_sem] theorem nbeq0 : Nat.beq 0 0 = true := rfl
attribute [go_sem] and_self and_true true_and List.replicate_zero List.replicate_succ
/-- A rule as it is parsed. -/
def ruleA (nm : List UInt8) (ep cy : Int) (t : RExpr) (ms : List (List UInt8 × Int × Int)) : AV := .agg ([.s nm, .i .i64 ep, .i .i64 cy] ++ t.cells ++ [monA ms])
/-- Numbers, truth values, strings: they name no memory. -/
def flat : AV → Bool
  | .b _ => true
  | .i _ _ => true
  | .s _ => true
  | .nils => true
  | .isl _ _ _ => true
  | _ => false
theorem flat_fz {a : AV} (h : flat a = true) (hp : Hp) (d : Nat) : fz hp (d + 1) a = a ∧ noid (d + 1) a = true := by
  cases a <;> first | exact ⟨rfl, rfl⟩ | cases h
theorem fz_own {h : Hp} {id k off n d : Nat} {l : List (List AV)} (hl : look h.c id = some (.rows k l)) (hle : off + n ≤ l.length) (hs : (l.all fun (row : List AV) => row.all flat) = true) : fz h (d + 2) (.osl id off n) = .isl true k ((l.drop off).take n) := by
  have hrow : ∀ row ∈ l, row.map (fz h (d + 1)) = row := fun row hr => by
    have h1 := List.all_eq_true.1 (List.all_eq_true.1 hs row hr)
    conv => rhs; rw [← List.map_id row]
    exact List.map_congr_left (fun a ha => (flat_fz (h1 a ha) h d).1)
  have hm : ((l.drop off).take n).map (fun (row : List AV) => row.map (fz h (d + 1))) = (l.drop off).take n := by
    conv => rhs; rw [← List.map_id ((l.drop off).take n)]
    exact List.map_congr_left (fun row hr => hrow row (List.mem_of_mem_drop (List.mem_of_mem_take hr)))
  have hn : (((l.drop off).take n).map (fun (row : List AV) => row.map (fz h (d + 1)))).all (fun (row : List AV) => row.all (noid (d + 1))) = true := by
    rw [hm]
    refine List.all_eq_true.2 (fun row hr => List.all_eq_true.2 (fun a ha => ?_))
    have h1 := List.all_eq_true.1 (List.all_eq_true.1 hs row (List.mem_of_mem_drop (List.mem_of_mem_take hr)))
    exact (flat_fz (h1 a ha) h d).2
  show (match look h.c id with | some (.rows k l) => if off + n ≤ l.length ∧ (((l.drop off).take n).map fun (row : List AV) => row.map (fz h (d + 1))).all (fun (row : List AV) => row.all (noid (d + 1))) = true then AV.isl true k (((l.drop off).take n).map fun (row : List AV) => row.map (fz h (d + 1))) else AV.osl id off n | _ => AV.osl id off n) = _
  simp only [hl]
  rw [if_pos ⟨hle, hn⟩, hm]
set_option maxRecDepth 100000 in
theorem cloneP (ms : List (List UInt8 × Int × Int)) (h0 : ms ≠ []) (hl : ms.length ≤ 20) : MeetsP Tryz.prog (glT m) 78 [monA ms] (monA ms) := by
  simp only [monA]
  have hlen : (ms.map fun q => [AV.s q.1, AV.i .i64 q.2.1, AV.i .i64 q.2.2]).length = ms.length := by simp
  have hfl : ((ms.map fun q => [AV.s q.1, AV.i .i64 q.2.1, AV.i .i64 q.2.2]).all fun (row : List AV) => row.all flat) = true := by simp [flat]
  have hle : ms.length * 32 ≤ 70368744177664 := by omega
  have hne : ¬ (ms.map fun q => [AV.s q.1, AV.i .i64 q.2.1, AV.i .i64 q.2.2]) = [] := by simpa using h0
  generalize (ms.map fun q => [AV.s q.1, AV.i .i64 q.2.1, AV.i .i64 q.2.2]) = L at *
  refine meetsP (E := (EW m)) 8 [.tmp 2] (ew m) Tryz.func78 rfl (by decide) rfl rfl (by simp) ?_
  repeat' first | (with_reducible first | refine t_seq ?_ | refine t_skip ?_ | refine t_ret ?_ | refine t_end ?_ | refine t_cond ?_ | refine t_region ?_ | refine wr_done ?_ | refine WD.done _ ?_ | refine wdp_done ?_ | refine tr_some ?_ | refine t_inBlock ?_) | ((with_reducible refine t_isDraw ?_); refine t_draw rfl (by kernel_rfl) ?_) | ((fail_if_success with_reducible refine t_bl ?_); (with_reducible refine t_block ?_)) | ((with_reducible refine t_isExit ?_); refine t_exit rfl ?_) | simp only [decide_eq_true_eq, decide_eq_false_iff_not, Bool.not_eq_true', Bool.not_eq_false'] at * | simp (disch := omega) only [go_sem, Nat.reduceLT, Nat.reduceEqDiff, Nat.reduceAdd, Nat.reduceLeDiff, Nat.reduceMul, Int.reduceLT, Int.reduceLE, Int.reduceAdd, Int.reduceSub, Int.reduceNeg, Int.reduceToNat, Int.reduceBEq, Int.reduceEq, reduceCtorEq, ↓reduceIte, *] | (with_reducible first | refine tb_true ?_ | refine tb_false ?_) | ((with_reducible first | refine tb_split ?_ ?_ | refine wg_f ?_ ?_ | refine wg_t ?_ ?_ | refine wd_f ?_ ?_ | refine wd_t ?_ ?_) <;> intro _)
  refine ⟨?_, rfl⟩
  rw [show (12 : Nat) = 10 + 2 from rfl, fz_own (l := L) (k := 3) rfl (by omega) hfl]
  rw [List.drop_zero, List.take_of_length_le (by omega)]
set_option maxRecDepth 100000 in
theorem ruleCheckP {nm : List UInt8} {ep cy : Int} {t : RExpr} {ms : List (List UInt8 × Int × Int)} (hw : t.wf = true) (hs : t.size ≤ 60) (hd : t.depth ≤ 12) (hep1 : -4000000 ≤ ep) (hep2 : ep ≤ 4000000) (hcy1 : 1 ≤ cy) (hcy2 : cy ≤ 3000)
    (hname : MeetsP Tryz.prog (glT m) 80 [.s nm] (.b true)) (hmon : MeetsP Tryz.prog (glT m) 81 [monA ms] (.i .i64 0)) : MeetsP Tryz.prog (glT m) 77 [ruleA nm ep cy t ms] (.i .i64 0) := by
  have wk := walk_ok m t hw
  have hday := lineCheck (m := m) ep
  rw [chkDay_ok hep1 hep2] at hday
  have k1 : ¬ cy < 1 := by omega
  have k2 : ¬ 3000 < cy := by omega
  unfold ruleA
  obtain ⟨a1, a2, a3, hc⟩ : ∃ a1 a2 a3, t.cells = [a1, a2, a3] := by cases t <;> exact ⟨_, _, _, rfl⟩
  have h1 : one a1 = true ∧ one a2 = true ∧ one a3 = true := by have := rcells_one t; rw [hc] at this; simpa using this
  obtain ⟨o1, o2, o3⟩ := h1
  simp only [hc] at *
  simp only [monA] at *
  refine meetsP (E := (EW m)) 32 [.tmp 2] (ew m) Tryz.func77 rfl (by decide) rfl rfl (by simp) ?_
  repeat' first | ((with_reducible refine wr_isCall ?_); first | refine wr_P hname rfl ?_ | refine wr_P hday rfl ?_ | refine wr_P hmon rfl ?_ | refine wr_grow (wk _ _ _ 1 0 (by simp (disch := omega) only [go_sem, ↓reduceIte]) (by omega) (by omega) (by omega) (by omega) (by omega)) (fun n' hn' => ?_)) | (with_reducible first | refine t_seq ?_ | refine t_skip ?_ | refine t_ret ?_ | refine t_end ?_ | refine t_cond ?_ | refine t_region ?_ | refine wr_done ?_ | refine WD.done _ ?_ | refine wdp_done ?_ | refine tr_some ?_ | refine t_inBlock ?_) | ((with_reducible refine t_isDraw ?_); refine t_draw rfl (by kernel_rfl) ?_) | ((fail_if_success with_reducible refine t_bl ?_); (with_reducible refine t_block ?_)) | ((with_reducible refine t_isExit ?_); refine t_exit rfl ?_) | simp only [decide_eq_true_eq, decide_eq_false_iff_not, Bool.not_eq_true', Bool.not_eq_false'] at * | simp (disch := omega) only [go_sem, Nat.reduceLT, Nat.reduceEqDiff, Nat.reduceAdd, Nat.reduceLeDiff, Nat.reduceMul, Int.reduceLT, Int.reduceLE, Int.reduceAdd, Int.reduceSub, Int.reduceNeg, Int.reduceToNat, Int.reduceBEq, Int.reduceEq, reduceCtorEq, ↓reduceIte, *] | (with_reducible first | refine tb_true ?_ | refine tb_false ?_) | ((with_reducible first | refine tb_split ?_ ?_ | refine wg_f ?_ ?_ | refine wg_t ?_ ?_ | refine wd_f ?_ ?_ | refine wd_t ?_ ?_) <;> intro _)
  exact ⟨rfl, rfl⟩
/-- The years with a leap among the first n. -/
def leapsTo (t : RExpr) (n : Nat) : List Int := ((List.range n).map fun (i : Nat) => (i : Int) + 1).filter fun y => decide (evS y t ≠ some 0)
theorem leapsTo_succ (t : RExpr) (n : Nat) : leapsTo t (n + 1) = leapsTo t n ++ (if evS ((n : Int) + 1) t = some 0 then [] else [(n : Int) + 1]) := by
  unfold leapsTo
  rw [List.range_succ, List.map_append, List.filter_append]
  congr 1
  by_cases h : evS ((n : Int) + 1) t = some 0 <;> simp [h]
theorem leapsTo_len (t : RExpr) : ∀ n, (leapsTo t n).length ≤ n
  | 0 => by simp [leapsTo]
  | n + 1 => by
    have := leapsTo_len t n
    rw [leapsTo_succ]
    split <;> simp <;> omega
def intR (l : List Int) : List (List AV) := l.map fun y => [.i .i64 y]
/-- The leaps, as they are gathered. -/
def Lp (l : List Int) (n : Nat) (e : AV) (L : List (Nat × Ent)) : Prop := (l = [] ∧ e = .nils ∧ L = []) ∨ ∃ id, l ≠ [] ∧ 3 ≤ id ∧ id < n ∧ e = .osl id 0 l.length ∧ L = [(id, .rows 1 (intR l))]
def calOut (nm : List UInt8) (ep cy : Int) (ms : List (List UInt8 × Int × Int)) (l : List Int) : AV := .agg [.s nm, .i .i64 ep, .i .i64 cy, monA ms, if l = [] then .nils else .isl true 1 (intR l)]
theorem t_fg {E : Env} {f : FuncId} {K : List Item} {X : Ex → St → Prop} {t : List (Nat × AV)} {N n n' : Nat} {c c' : List (Nat × Ent)} (s : Sub ⟨c', n'⟩ ⟨c, n⟩) (h : T E f K ⟨t, N, ⟨c', n'⟩⟩ X) : T E f K ⟨t, N, ⟨c, n⟩⟩ X := t_forget (S := ⟨t, N, ⟨c, n⟩⟩) ⟨c', n'⟩ s h
theorem Sub.of_sublist {c c' : List (Nat × Ent)} {n n' : Nat} (s : c'.Sublist c) (hn : n ≤ n') : Sub ⟨c', n'⟩ ⟨c, n⟩ := ⟨fun x hx => s.subset hx, fun q => (s.map _).nodup q, hn⟩
set_option maxRecDepth 100000 in
set_option maxHeartbeats 1000000 in
theorem compileP {nm : List UInt8} {ep cy : Int} {t : RExpr} {ms : List (List UInt8 × Int × Int)} (hw : t.wf = true) (hs : t.size ≤ 60) (hd : t.depth ≤ 12) (hep1 : -4000000 ≤ ep) (hep2 : ep ≤ 4000000) (hcy1 : 1 ≤ cy) (hcy2 : cy ≤ 3000) (h0 : ms ≠ []) (hl : ms.length ≤ 20)
    (hname : MeetsP Tryz.prog (glT m) 80 [.s nm] (.b true)) (hmon : MeetsP Tryz.prog (glT m) 81 [monA ms] (.i .i64 0)) (hev : ∀ y : Int, 1 ≤ y → y ≤ cy → ∃ v, evS y t = some v) :
    MeetsP Tryz.prog (glT m) 58 [ruleA nm ep cy t ms] (.tup [calOut nm ep cy ms (leapsTo t cy.toNat), .i .i64 0]) := by
  have hck := ruleCheckP (m := m) hw hs hd hep1 hep2 hcy1 hcy2 hname hmon
  have hcl := cloneP (m := m) ms h0 hl
  have hE := fun y (h1 : 1 ≤ y) (h2 : y ≤ cy) v (hv : evS y t = some v) => evalP (m := m) hw hs hd (y := y) (by omega) (by omega) hv
  unfold ruleA at *
  obtain ⟨a1, a2, a3, hc⟩ : ∃ a1 a2 a3, t.cells = [a1, a2, a3] := by cases t <;> exact ⟨_, _, _, rfl⟩
  have h1 : one a1 = true ∧ one a2 = true ∧ one a3 = true := by have := rcells_one t; rw [hc] at this; simpa using this
  have hn1 : ∀ d, noid (d + 1) a1 = true ∧ noid (d + 1) a2 = true ∧ noid (d + 1) a3 = true := fun d => by cases t <;> (cases hc; exact ⟨rfl, rfl, rfl⟩)
  obtain ⟨o1, o2, o3⟩ := h1
  simp only [hc] at *
  simp only [calOut, monA] at *
  generalize (ms.map fun q => [AV.s q.1, AV.i .i64 q.2.1, AV.i .i64 q.2.2]) = M at *
  have hno : ([AV.agg ([.s nm, .i .i64 ep, .i .i64 cy] ++ [a1, a2, a3] ++ [.isl true 3 M])].all (noid 12)) = true := by simp only [List.all_cons, List.all_nil, List.cons_append, List.nil_append, noid_agg, noid_s, noid_i, noid_isl, (hn1 _).1, (hn1 _).2.1, (hn1 _).2.2, Bool.and_true, Bool.and_self]
  refine meetsP (E := (EW m)) 51 [.cell 2 71, .tmp 3] (ew m) Tryz.func58 rfl (by decide) rfl rfl (by simp) ?_
  repeat' first | ((with_reducible refine wr_isCall ?_); refine wr_P hck hno ?_) | ((with_reducible refine t_isDraw ?_); refine t_draw1 hcl (by kernel_rfl) ?_) | (with_reducible first | refine t_seq ?_ | refine t_skip ?_ | refine t_ret ?_ | refine t_end ?_ | refine t_cond ?_ | refine t_region ?_ | refine wr_done ?_ | refine WD.done _ ?_ | refine wdp_done ?_ | refine tr_some ?_ | refine t_inBlock ?_) | ((with_reducible refine t_isDraw ?_); refine t_draw rfl (by kernel_rfl) ?_) | ((fail_if_success with_reducible refine t_bl ?_); (with_reducible refine t_block ?_)) | ((with_reducible refine t_isExit ?_); refine t_exit rfl ?_) | simp only [decide_eq_true_eq, decide_eq_false_iff_not, Bool.not_eq_true', Bool.not_eq_false'] at * | simp (disch := omega) only [go_sem, Nat.reduceLT, Nat.reduceEqDiff, Nat.reduceAdd, Nat.reduceLeDiff, Nat.reduceMul, Int.reduceLT, Int.reduceLE, Int.reduceAdd, Int.reduceSub, Int.reduceNeg, Int.reduceToNat, Int.reduceBEq, Int.reduceEq, reduceCtorEq, ↓reduceIte, *] | (with_reducible first | refine tb_true ?_ | refine tb_false ?_) | ((with_reducible first | refine tb_split ?_ ?_ | refine wg_f ?_ ?_ | refine wg_t ?_ ?_ | refine wd_f ?_ ?_ | refine wd_t ?_ ?_) <;> intro _)
  refine t_while (I := fun (k : Nat) t' h => k ≤ cy.toNat ∧ (∃ n e L, 3 ≤ n ∧ Lp (leapsTo t k) n e L ∧ h = ⟨L ++ [(2, .rows 5 [[.s nm, .i .i64 ep, .i .i64 cy, .isl true 3 M, e]]), (1, .rows 5 [[.s [], .i .i64 0, .i .i64 0, .nils, .nils]]), (0, .rows 7 [[.s nm, .i .i64 ep, .i .i64 cy, a1, a2, a3, .isl true 3 M]])], n⟩) ∧ get t' 1 = .ptr 0 0 0 ∧ get t' 2 = .ptr 1 0 0 ∧ get t' 5 = .ptr 2 0 0 ∧ get t' 6 = .i .i64 (k + 1)) (m := fun k => cy.toNat - k)
    (J := fun t' h => (∃ n e L, 3 ≤ n ∧ Lp (leapsTo t cy.toNat) n e L ∧ h = ⟨L ++ [(2, .rows 5 [[.s nm, .i .i64 ep, .i .i64 cy, .isl true 3 M, e]]), (1, .rows 5 [[.s [], .i .i64 0, .i .i64 0, .nils, .nils]]), (0, .rows 7 [[.s nm, .i .i64 ep, .i .i64 cy, a1, a2, a3, .isl true 3 M]])], n⟩) ∧ get t' 2 = .ptr 1 0 0 ∧ get t' 5 = .ptr 2 0 0) 0 ⟨by omega, ⟨3, .nils, [], by omega, .inl ⟨rfl, rfl, rfl⟩, rfl⟩, by simp [get], by simp [get], by simp [get], by simp [get]⟩ ?_ ?_
  · rintro k t' h ⟨hk, ⟨n, e, L, hn, hLp, rfl⟩, g1, g2, g5, g6⟩ hrec hex
    have hlen := leapsTo_len t k
    have hsu := leapsTo_succ t k
    rcases hLp with ⟨z1, rfl, rfl⟩ | ⟨id, i0, i1, i2, rfl, rfl⟩
    · rw [z1] at hsu
      by_cases hkc : (k : Int) + 1 ≤ cy
      · obtain ⟨v, hv⟩ := hev _ (by omega) hkc
        have hEv := hE _ (by omega) hkc v hv
        by_cases hv0 : v = 0
        · subst hv0
          rw [if_pos hv] at hsu
          simp only [List.nil_append] at *
          repeat' first | ((with_reducible refine wr_isCall ?_); refine wr_P hEv (by simp only [List.all_cons, List.all_nil, List.cons_append, List.nil_append, noid_agg, noid_s, noid_i, noid_isl, (hn1 _).1, (hn1 _).2.1, (hn1 _).2.2, Bool.and_true, Bool.and_self]) ?_) | (with_reducible first | refine t_seq ?_ | refine t_skip ?_ | refine t_ret ?_ | refine t_end ?_ | refine t_cond ?_ | refine t_region ?_ | refine wr_done ?_ | refine WD.done _ ?_ | refine wdp_done ?_ | refine tr_some ?_ | refine t_inBlock ?_) | ((with_reducible refine t_isDraw ?_); refine t_draw rfl (by kernel_rfl) ?_) | ((fail_if_success with_reducible refine t_bl ?_); (with_reducible refine t_block ?_)) | ((with_reducible refine t_isExit ?_); refine t_exit rfl ?_) | simp only [decide_eq_true_eq, decide_eq_false_iff_not, Bool.not_eq_true', Bool.not_eq_false'] at * | simp (disch := omega) only [go_sem, Nat.reduceLT, Nat.reduceEqDiff, Nat.reduceAdd, Nat.reduceLeDiff, Nat.reduceMul, Int.reduceLT, Int.reduceLE, Int.reduceAdd, Int.reduceSub, Int.reduceNeg, Int.reduceToNat, Int.reduceBEq, Int.reduceEq, reduceCtorEq, ↓reduceIte, *] | (with_reducible first | refine tb_true ?_ | refine tb_false ?_) | ((with_reducible first | refine tb_split ?_ ?_ | refine wg_f ?_ ?_ | refine wg_t ?_ ?_ | refine wd_f ?_ ?_ | refine wd_t ?_ ?_) <;> intro _)
          exact hrec (k + 1) _ _ ⟨by omega, ⟨n, .nils, [], hn, .inl ⟨by rw [hsu], rfl, rfl⟩, rfl⟩, by simp [get, g1], by simp [get, g2], by simp [get, g5], by simp [get]⟩ (by omega)
        · have hv1 : ¬ evS ((k : Int) + 1) t = some 0 := fun q => by rw [hv] at q; exact hv0 (Option.some.inj q)
          rw [if_neg hv1] at hsu
          simp only [List.nil_append] at *
          repeat' first | ((with_reducible refine wr_isCall ?_); refine wr_P hEv (by simp only [List.all_cons, List.all_nil, List.cons_append, List.nil_append, noid_agg, noid_s, noid_i, noid_isl, (hn1 _).1, (hn1 _).2.1, (hn1 _).2.2, Bool.and_true, Bool.and_self]) ?_) | (with_reducible first | refine t_seq ?_ | refine t_skip ?_ | refine t_ret ?_ | refine t_end ?_ | refine t_cond ?_ | refine t_region ?_ | refine wr_done ?_ | refine WD.done _ ?_ | refine wdp_done ?_ | refine tr_some ?_ | refine t_inBlock ?_) | ((with_reducible refine t_isDraw ?_); refine t_draw rfl (by kernel_rfl) ?_) | ((fail_if_success with_reducible refine t_bl ?_); (with_reducible refine t_block ?_)) | ((with_reducible refine t_isExit ?_); refine t_exit rfl ?_) | simp only [decide_eq_true_eq, decide_eq_false_iff_not, Bool.not_eq_true', Bool.not_eq_false'] at * | simp (disch := omega) only [go_sem, Nat.reduceLT, Nat.reduceEqDiff, Nat.reduceAdd, Nat.reduceLeDiff, Nat.reduceMul, Int.reduceLT, Int.reduceLE, Int.reduceAdd, Int.reduceSub, Int.reduceNeg, Int.reduceToNat, Int.reduceBEq, Int.reduceEq, reduceCtorEq, ↓reduceIte, *] | (with_reducible first | refine tb_true ?_ | refine tb_false ?_) | ((with_reducible first | refine tb_split ?_ ?_ | refine wg_f ?_ ?_ | refine wg_t ?_ ?_ | refine wd_f ?_ ?_ | refine wd_t ?_ ?_) <;> intro _)
          refine t_fg (Sub.of_sublist (.cons_cons _ (.cons _ (List.Sublist.refl _))) (Nat.le_refl _)) ?_
          exact hrec (k + 1) _ _ ⟨by omega, ⟨n + 2, .osl (n + 1) 0 1, [(n + 1, .rows 1 [[.i .i64 (k + 1)]])], by omega, .inr ⟨n + 1, by rw [hsu]; simp, by omega, by omega, by rw [hsu]; rfl, by rw [hsu]; rfl⟩, rfl⟩, by simp [get, g1], by simp [get, g2], by simp [get, g5], by simp [get]⟩ (by omega)
      · simp only [List.nil_append] at *
        have hkk : k = cy.toNat := by omega
        have hkc' : ¬ (k : Int) + 1 ≤ cy := hkc
        repeat' first | refine hex _ _ ?_ | (with_reducible first | refine t_seq ?_ | refine t_skip ?_ | refine t_ret ?_ | refine t_end ?_ | refine t_cond ?_ | refine t_region ?_ | refine wr_done ?_ | refine WD.done _ ?_ | refine wdp_done ?_ | refine tr_some ?_ | refine t_inBlock ?_) | ((with_reducible refine t_isDraw ?_); refine t_draw rfl (by kernel_rfl) ?_) | ((fail_if_success with_reducible refine t_bl ?_); (with_reducible refine t_block ?_)) | ((with_reducible refine t_isExit ?_); refine t_exit rfl ?_) | simp only [decide_eq_true_eq, decide_eq_false_iff_not, Bool.not_eq_true', Bool.not_eq_false'] at * | simp (disch := omega) only [go_sem, Nat.reduceLT, Nat.reduceEqDiff, Nat.reduceAdd, Nat.reduceLeDiff, Nat.reduceMul, Int.reduceLT, Int.reduceLE, Int.reduceAdd, Int.reduceSub, Int.reduceNeg, Int.reduceToNat, Int.reduceBEq, Int.reduceEq, reduceCtorEq, ↓reduceIte, *] | (with_reducible first | refine tb_true ?_ | refine tb_false ?_) | ((with_reducible first | refine tb_split ?_ ?_ | refine wg_f ?_ ?_ | refine wg_t ?_ ?_ | refine wd_f ?_ ?_ | refine wd_t ?_ ?_) <;> intro _)
        · exfalso; omega
        · exact ⟨n, .nils, [], hn, .inl ⟨by rw [← hkk]; exact z1, rfl, rfl⟩, rfl⟩
    · simp only [List.cons_append, List.nil_append] at *
      by_cases hkc : (k : Int) + 1 ≤ cy
      · obtain ⟨v, hv⟩ := hev _ (by omega) hkc
        have hEv := hE _ (by omega) hkc v hv
        by_cases hv0 : v = 0
        · subst hv0
          rw [if_pos hv, List.append_nil] at hsu
          repeat' first | ((with_reducible refine wr_isCall ?_); refine wr_P hEv (by simp only [List.all_cons, List.all_nil, List.cons_append, List.nil_append, noid_agg, noid_s, noid_i, noid_isl, (hn1 _).1, (hn1 _).2.1, (hn1 _).2.2, Bool.and_true, Bool.and_self]) ?_) | (with_reducible first | refine t_seq ?_ | refine t_skip ?_ | refine t_ret ?_ | refine t_end ?_ | refine t_cond ?_ | refine t_region ?_ | refine wr_done ?_ | refine WD.done _ ?_ | refine wdp_done ?_ | refine tr_some ?_ | refine t_inBlock ?_) | ((with_reducible refine t_isDraw ?_); refine t_draw rfl (by kernel_rfl) ?_) | ((fail_if_success with_reducible refine t_bl ?_); (with_reducible refine t_block ?_)) | ((with_reducible refine t_isExit ?_); refine t_exit rfl ?_) | simp only [decide_eq_true_eq, decide_eq_false_iff_not, Bool.not_eq_true', Bool.not_eq_false'] at * | simp (disch := omega) only [go_sem, Nat.reduceLT, Nat.reduceEqDiff, Nat.reduceAdd, Nat.reduceLeDiff, Nat.reduceMul, Int.reduceLT, Int.reduceLE, Int.reduceAdd, Int.reduceSub, Int.reduceNeg, Int.reduceToNat, Int.reduceBEq, Int.reduceEq, reduceCtorEq, ↓reduceIte, *] | (with_reducible first | refine tb_true ?_ | refine tb_false ?_) | ((with_reducible first | refine tb_split ?_ ?_ | refine wg_f ?_ ?_ | refine wg_t ?_ ?_ | refine wd_f ?_ ?_ | refine wd_t ?_ ?_) <;> intro _)
          exact hrec (k + 1) _ _ ⟨by omega, ⟨n, .osl id 0 (leapsTo t k).length, [(id, .rows 1 (intR (leapsTo t k)))], hn, .inr ⟨id, by rw [hsu]; exact i0, i1, i2, by rw [hsu], by rw [hsu]⟩, rfl⟩, by simp [get, g1], by simp [get, g2], by simp [get, g5], by simp [get]⟩ (by omega)
        · have hv1 : ¬ evS ((k : Int) + 1) t = some 0 := fun q => by rw [hv] at q; exact hv0 (Option.some.inj q)
          rw [if_neg hv1] at hsu
          have hil : (intR (leapsTo t k)).length = (leapsTo t k).length := by simp [intR]
          have hle : ((leapsTo t k).length + 1) * 8 ≤ 70368744177664 := by omega
          repeat' first | ((with_reducible refine wr_isCall ?_); refine wr_P hEv (by simp only [List.all_cons, List.all_nil, List.cons_append, List.nil_append, noid_agg, noid_s, noid_i, noid_isl, (hn1 _).1, (hn1 _).2.1, (hn1 _).2.2, Bool.and_true, Bool.and_self]) ?_) | (with_reducible first | refine t_seq ?_ | refine t_skip ?_ | refine t_ret ?_ | refine t_end ?_ | refine t_cond ?_ | refine t_region ?_ | refine wr_done ?_ | refine WD.done _ ?_ | refine wdp_done ?_ | refine tr_some ?_ | refine t_inBlock ?_) | ((with_reducible refine t_isDraw ?_); refine t_draw rfl (by kernel_rfl) ?_) | ((fail_if_success with_reducible refine t_bl ?_); (with_reducible refine t_block ?_)) | ((with_reducible refine t_isExit ?_); refine t_exit rfl ?_) | simp only [decide_eq_true_eq, decide_eq_false_iff_not, Bool.not_eq_true', Bool.not_eq_false'] at * | simp (disch := omega) only [go_sem, Nat.reduceLT, Nat.reduceEqDiff, Nat.reduceAdd, Nat.reduceLeDiff, Nat.reduceMul, Int.reduceLT, Int.reduceLE, Int.reduceAdd, Int.reduceSub, Int.reduceNeg, Int.reduceToNat, Int.reduceBEq, Int.reduceEq, reduceCtorEq, ↓reduceIte, *] | (with_reducible first | refine tb_true ?_ | refine tb_false ?_) | ((with_reducible first | refine tb_split ?_ ?_ | refine wg_f ?_ ?_ | refine wg_t ?_ ?_ | refine wd_f ?_ ?_ | refine wd_t ?_ ?_) <;> intro _)
          refine t_fg (Sub.of_sublist (.cons_cons _ (.cons _ (List.Sublist.refl _))) (Nat.le_refl _)) ?_
          exact hrec (k + 1) _ _ ⟨by omega, ⟨n + 2, .osl (n + 1) 0 ((leapsTo t k).length + 1), [(n + 1, .rows 1 (intR (leapsTo t k) ++ [[.i .i64 (k + 1)]]))], by omega, .inr ⟨n + 1, by rw [hsu]; simp, by omega, by omega, by rw [hsu]; simp, by rw [hsu]; simp [intR]⟩, rfl⟩, by simp [get, g1], by simp [get, g2], by simp [get, g5], by simp [get]⟩ (by omega)
      · have hkk : k = cy.toNat := by omega
        repeat' first | refine hex _ _ ?_ | (with_reducible first | refine t_seq ?_ | refine t_skip ?_ | refine t_ret ?_ | refine t_end ?_ | refine t_cond ?_ | refine t_region ?_ | refine wr_done ?_ | refine WD.done _ ?_ | refine wdp_done ?_ | refine tr_some ?_ | refine t_inBlock ?_) | ((with_reducible refine t_isDraw ?_); refine t_draw rfl (by kernel_rfl) ?_) | ((fail_if_success with_reducible refine t_bl ?_); (with_reducible refine t_block ?_)) | ((with_reducible refine t_isExit ?_); refine t_exit rfl ?_) | simp only [decide_eq_true_eq, decide_eq_false_iff_not, Bool.not_eq_true', Bool.not_eq_false'] at * | simp (disch := omega) only [go_sem, Nat.reduceLT, Nat.reduceEqDiff, Nat.reduceAdd, Nat.reduceLeDiff, Nat.reduceMul, Int.reduceLT, Int.reduceLE, Int.reduceAdd, Int.reduceSub, Int.reduceNeg, Int.reduceToNat, Int.reduceBEq, Int.reduceEq, reduceCtorEq, ↓reduceIte, *] | (with_reducible first | refine tb_true ?_ | refine tb_false ?_) | ((with_reducible first | refine tb_split ?_ ?_ | refine wg_f ?_ ?_ | refine wg_t ?_ ?_ | refine wd_f ?_ ?_ | refine wd_t ?_ ?_) <;> intro _)
        · exfalso; omega
        · exact ⟨n, .osl id 0 (leapsTo t k).length, [(id, .rows 1 (intR (leapsTo t k)))], hn, .inr ⟨id, by rw [← hkk]; exact i0, i1, i2, by rw [hkk], by rw [hkk]⟩, by simp [hkk]⟩
  · rintro t' h ⟨⟨n, e, L, hn, hLp, rfl⟩, g2, g5⟩
    rcases hLp with ⟨z1, rfl, rfl⟩ | ⟨id, i0, i1, i2, rfl, rfl⟩
    · simp only [List.nil_append, z1, if_true]
      repeat' first | (with_reducible first | refine t_seq ?_ | refine t_skip ?_ | refine t_ret ?_ | refine t_end ?_ | refine t_cond ?_ | refine t_region ?_ | refine wr_done ?_ | refine WD.done _ ?_ | refine wdp_done ?_ | refine tr_some ?_ | refine t_inBlock ?_) | ((with_reducible refine t_isDraw ?_); refine t_draw rfl (by kernel_rfl) ?_) | ((fail_if_success with_reducible refine t_bl ?_); (with_reducible refine t_block ?_)) | ((with_reducible refine t_isExit ?_); refine t_exit rfl ?_) | simp only [decide_eq_true_eq, decide_eq_false_iff_not, Bool.not_eq_true', Bool.not_eq_false'] at * | simp (disch := omega) only [go_sem, Nat.reduceLT, Nat.reduceEqDiff, Nat.reduceAdd, Nat.reduceLeDiff, Nat.reduceMul, Int.reduceLT, Int.reduceLE, Int.reduceAdd, Int.reduceSub, Int.reduceNeg, Int.reduceToNat, Int.reduceBEq, Int.reduceEq, reduceCtorEq, ↓reduceIte, *] | (with_reducible first | refine tb_true ?_ | refine tb_false ?_) | ((with_reducible first | refine tb_split ?_ ?_ | refine wg_f ?_ ?_ | refine wg_t ?_ ?_ | refine wd_f ?_ ?_ | refine wd_t ?_ ?_) <;> intro _)
      exact ⟨rfl, rfl⟩
    · simp only [List.cons_append, List.nil_append, i0, if_false]
      repeat' first | (with_reducible first | refine t_seq ?_ | refine t_skip ?_ | refine t_ret ?_ | refine t_end ?_ | refine t_cond ?_ | refine t_region ?_ | refine wr_done ?_ | refine WD.done _ ?_ | refine wdp_done ?_ | refine tr_some ?_ | refine t_inBlock ?_) | ((with_reducible refine t_isDraw ?_); refine t_draw rfl (by kernel_rfl) ?_) | ((fail_if_success with_reducible refine t_bl ?_); (with_reducible refine t_block ?_)) | ((with_reducible refine t_isExit ?_); refine t_exit rfl ?_) | simp only [decide_eq_true_eq, decide_eq_false_iff_not, Bool.not_eq_true', Bool.not_eq_false'] at * | simp (disch := omega) only [go_sem, Nat.reduceLT, Nat.reduceEqDiff, Nat.reduceAdd, Nat.reduceLeDiff, Nat.reduceMul, Int.reduceLT, Int.reduceLE, Int.reduceAdd, Int.reduceSub, Int.reduceNeg, Int.reduceToNat, Int.reduceBEq, Int.reduceEq, reduceCtorEq, ↓reduceIte, *] | (with_reducible first | refine tb_true ?_ | refine tb_false ?_) | ((with_reducible first | refine tb_split ?_ ?_ | refine wg_f ?_ ?_ | refine wg_t ?_ ?_ | refine wd_f ?_ ?_ | refine wd_t ?_ ?_) <;> intro _)
      refine ⟨?_, rfl⟩
      have hfl : ((intR (leapsTo t cy.toNat)).all fun (row : List AV) => row.all flat) = true := by simp [intR, flat]
      simp only [fz_tup, fz_agg, List.map_cons, List.map_nil, fz_s, fz_i, fz_isl]
      rw [show (10 : Nat) = 8 + 2 from rfl, fz_own (l := intR (leapsTo t cy.toNat)) (k := 1) (by simp (disch := omega) only [go_sem, ↓reduceIte]) (by simp [intR]) hfl]
      rw [List.drop_zero, List.take_of_length_le (by simp [intR])]
end Go.Proofs.YthahgmncnbeddaaGreatDoorA
