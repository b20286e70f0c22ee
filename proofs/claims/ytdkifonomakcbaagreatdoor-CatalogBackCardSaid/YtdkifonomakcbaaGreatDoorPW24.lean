/- CatalogBack as a contract. -/
import Derived.Test.YtdkifonomakcbaaGreatDoorPW16
import Derived.Test.YtdkifonomakcbaaGreatDoorPD1
import Derived.Test.YtdkifonomakcbaaGreatDoorPK70
import Derived.Test.YtdkifonomakcbaaGreatDoorPK71
set_option linter.unusedVariables false
set_option linter.unusedSimpArgs false
namespace Go.Proofs.YtdkifonomakcbaaGreatDoorA
open Go Go.RowKit Go.Proofs.YtdkifonomakcbaaGreatDoorFx Go.Proofs
variable {m : Int}
set_option maxRecDepth 10000000 in
theorem printedAll (m : Int) : (catT.zipIdx.all fun p => chkPrint m p.2 p.1) = true := by
  have h0 := printed0 m
  have h1 := printed1 m
  have hs : catT.zipIdx = ((catT.zipIdx).drop 0).take 20 ++ ((catT.zipIdx).drop 20).take 20 := by kernel_rfl
  rw [hs, List.all_append, h0, h1]
  rfl
theorem printP {r : CatRow} {k : Nat} (h : (r, k) ∈ catT.zipIdx) : MeetsP Tryz.prog (glC m) 22 [treeA k r] (.tup [.s (textOf r), .i .i64 0]) :=
  evOP_ok (E := EC m) (ec m) (xc m) (ekN m) (ekO m) (isOut_eq (List.all_eq_true.1 (printedAll m) (r, k) h))
theorem cells3 (t : RExpr) : ∃ a b c, t.cells = [a, b, c] ∧ one a = true ∧ one b = true ∧ one c = true ∧ noid 11 a = true ∧ noid 11 b = true ∧ noid 11 c = true := by
  cases t <;> exact ⟨_, _, _, rfl, rfl, rfl, rfl, rfl, rfl, rfl⟩
theorem tree_parts (k : Nat) (r : CatRow) : ∃ a b c d, treeA k r = .agg [.s r.name, .i .i64 r.epoch, .i .i64 r.cycle, a, b, c, d] ∧ (one a = true ∧ one b = true ∧ one c = true ∧ one d = true) ∧ [AV.agg [.s r.name, .i .i64 r.epoch, .i .i64 r.cycle, a, b, c, d]].all (noid 12) = true := by
  obtain ⟨a, b, c, h, o1, o2, o3, n1, n2, n3⟩ := cells3 (leapOf k)
  refine ⟨a, b, c, monA (monOf r), by unfold treeA; rw [h]; rfl, ⟨o1, o2, o3, rfl⟩, ?_⟩
  simp only [List.all_cons, List.all_nil, noid_agg, noid_s, noid_i, noid_isl, monA, n1, n2, n3, Bool.and_true, Bool.and_self]
set_option maxRecDepth 100000 in
set_option maxHeartbeats 2000000 in
theorem catalogBackP (k day : Int) : MeetsP Tryz.prog (glC m) 8 [.i .i64 k, .i .i64 day] (.b true) := by
  have up := fun {f : FuncId} {args : List AV} {r : AV} (h : MeetsP Tryz.prog (glT m) f args r) => weakP (glC_of m) h
  have hk := up (knownP (m := m))
  have hn := up (nameP (m := m) k)
  have hx := up (textP (m := m) (row_mem (pick_mem k)))
  have hp := up (parseP (m := m) (pick_mem k))
  have hq := printP (m := m) (pick_mem k)
  have hct := up (kcutP (m := m) (a := day) (lo := -1000000) (n := 2000000) (by omega) (by omega) (by omega) (by omega))
  have hg := calAt_good (m := m) k
  have hm1 := Int.emod_nonneg day (show (2000000 : Int) ≠ 0 by omega)
  have hm2 := Int.emod_lt_of_pos day (show (0 : Int) < 2000000 by omega)
  generalize -1000000 + day % 2000000 = D at hct
  obtain ⟨a, b, c, d, ht, ⟨o1, o2, o3, o4⟩, n1⟩ := tree_parts (pick k) (rowAt k)
  rw [ht] at hp hq
  rcases fromDay_all hg D with hf | ⟨y, mo, hat⟩
  · have hd := up (dateP (pick_mem k) hf)
    unfold resD dateA at *
    refine meetsP (E := (EG (glC m))) 73 [.tmp 4] (eg (glC m)) Tryz.func8 rfl (by decide) rfl rfl (by simp) ?_
    repeat' first
      | ((with_reducible refine wr_isCall ?_); refine wr_P hk rfl ?_)
      | ((with_reducible refine wr_isCall ?_); refine wr_P hn rfl ?_)
      | ((with_reducible refine wr_isCall ?_); refine wr_P hx rfl ?_)
      | ((with_reducible refine wr_isCall ?_); refine wr_P hp rfl ?_)
      | ((with_reducible refine wr_isCall ?_); refine wr_P hq n1 ?_)
      | ((with_reducible refine wr_isCall ?_); refine wr_P hct rfl ?_)
      | ((with_reducible refine wr_isCall ?_); refine wr_P hd rfl ?_)
      | ((with_reducible refine t_isDraw ?_); refine t_drawg1 hn (by kernel_rfl) ?_)
      | (with_reducible refine t_seq ?_)
      | (with_reducible refine t_skip ?_)
      | (with_reducible refine t_ret ?_)
      | (with_reducible refine t_end ?_)
      | (with_reducible refine t_cond ?_)
      | (with_reducible refine t_region ?_)
      | (with_reducible refine wr_done ?_)
      | ((with_reducible refine t_isDraw ?_); refine t_draw rfl (by kernel_rfl) ?_)
      | (with_reducible refine WD.done _ ?_)
      | (with_reducible refine wdp_done ?_)
      | (with_reducible refine wdg_done ?_)
      | (with_reducible refine tr_some ?_)
      | ((fail_if_success with_reducible refine t_bl ?_); (with_reducible refine t_block ?_))
      | (with_reducible refine t_inBlock ?_)
      | ((with_reducible refine t_isExit ?_); refine t_exit rfl ?_)
      | simp only [decide_eq_true_eq, decide_eq_false_iff_not, Bool.not_eq_true', Bool.not_eq_false'] at *
      | simp (disch := omega) only [go_sem, Nat.reduceLT, Nat.reduceEqDiff, Nat.reduceAdd, Nat.reduceLeDiff, Nat.reduceMul, Int.reduceLT, Int.reduceLE, Int.reduceAdd, Int.reduceSub, Int.reduceNeg, Int.reduceToNat, Int.reduceBEq, Int.reduceEq, reduceCtorEq, List.take_succ_cons, List.take_zero, List.take_nil, List.drop_succ_cons, List.drop_nil, List.cons_append, List.nil_append, List.set_cons_zero, List.set_cons_succ, ↓reduceIte, *]
      | (with_reducible refine tb_true ?_)
      | (with_reducible refine tb_false ?_)
      | (with_reducible refine tb_split (fun _ => ?_) (fun _ => ?_))
      | (with_reducible refine wg_f (fun _ => ?_) (fun _ => ?_))
      | (with_reducible refine wg_t (fun _ => ?_) (fun _ => ?_))
      | (with_reducible refine wd_f (fun _ => ?_) (fun _ => ?_))
      | (with_reducible refine wd_t (fun _ => ?_) (fun _ => ?_))
    exact ⟨rfl, rfl⟩
  · have hd := up (dateP (pick_mem k) (hat.run hg))
    have hb := up (dayP (pick_mem k) (hat.back hg))
    generalize D - (calAt k).first y + 1 - (calAt k).bef y mo = Dd at *
    generalize ((mo : Int) + 1) = M at *
    unfold resD dateA at *
    refine meetsP (E := (EG (glC m))) 73 [.tmp 4] (eg (glC m)) Tryz.func8 rfl (by decide) rfl rfl (by simp) ?_
    repeat' first
      | ((with_reducible refine wr_isCall ?_); refine wr_P hk rfl ?_)
      | ((with_reducible refine wr_isCall ?_); refine wr_P hn rfl ?_)
      | ((with_reducible refine wr_isCall ?_); refine wr_P hx rfl ?_)
      | ((with_reducible refine wr_isCall ?_); refine wr_P hp rfl ?_)
      | ((with_reducible refine wr_isCall ?_); refine wr_P hq n1 ?_)
      | ((with_reducible refine wr_isCall ?_); refine wr_P hct rfl ?_)
      | ((with_reducible refine wr_isCall ?_); refine wr_P hd rfl ?_)
      | ((with_reducible refine t_isDraw ?_); refine t_drawg2 hn hb (by kernel_rfl) ?_)
      | (with_reducible refine t_seq ?_)
      | (with_reducible refine t_skip ?_)
      | (with_reducible refine t_ret ?_)
      | (with_reducible refine t_end ?_)
      | (with_reducible refine t_cond ?_)
      | (with_reducible refine t_region ?_)
      | (with_reducible refine wr_done ?_)
      | ((with_reducible refine t_isDraw ?_); refine t_draw rfl (by kernel_rfl) ?_)
      | (with_reducible refine WD.done _ ?_)
      | (with_reducible refine wdp_done ?_)
      | (with_reducible refine wdg_done ?_)
      | (with_reducible refine tr_some ?_)
      | ((fail_if_success with_reducible refine t_bl ?_); (with_reducible refine t_block ?_))
      | (with_reducible refine t_inBlock ?_)
      | ((with_reducible refine t_isExit ?_); refine t_exit rfl ?_)
      | simp only [decide_eq_true_eq, decide_eq_false_iff_not, Bool.not_eq_true', Bool.not_eq_false'] at *
      | simp (disch := omega) only [go_sem, Nat.reduceLT, Nat.reduceEqDiff, Nat.reduceAdd, Nat.reduceLeDiff, Nat.reduceMul, Int.reduceLT, Int.reduceLE, Int.reduceAdd, Int.reduceSub, Int.reduceNeg, Int.reduceToNat, Int.reduceBEq, Int.reduceEq, reduceCtorEq, List.take_succ_cons, List.take_zero, List.take_nil, List.drop_succ_cons, List.drop_nil, List.cons_append, List.nil_append, List.set_cons_zero, List.set_cons_succ, ↓reduceIte, *]
      | (with_reducible refine tb_true ?_)
      | (with_reducible refine tb_false ?_)
      | (with_reducible refine tb_split (fun _ => ?_) (fun _ => ?_))
      | (with_reducible refine wg_f (fun _ => ?_) (fun _ => ?_))
      | (with_reducible refine wg_t (fun _ => ?_) (fun _ => ?_))
      | (with_reducible refine wd_f (fun _ => ?_) (fun _ => ?_))
      | (with_reducible refine wd_t (fun _ => ?_) (fun _ => ?_))
    exact ⟨rfl, rfl⟩
end Go.Proofs.YtdkifonomakcbaaGreatDoorA
