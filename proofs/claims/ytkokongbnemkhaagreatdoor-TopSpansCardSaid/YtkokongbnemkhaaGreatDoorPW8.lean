/- compile.Check, arith.begin, NewYear, Month, ToDay. -/
import Derived.Test.YtkokongbnemkhaaGreatDoorPW7
set_option linter.unusedVariables false
set_option linter.unusedSimpArgs false
namespace Go.Proofs.YtkokongbnemkhaaGreatDoorA
open Go Go.RowKit Go.Proofs.YtkokongbnemkhaaGreatDoorFx Go.Proofs
variable {m : Int}
open Classical in
/-- Pure calls that are told beforehand: for regions that draw. -/
noncomputable def EL (m : Int) (L : List (FuncId × List AV × AV)) : Env := ⟨Tryz.prog, glT m, fun f args => (L.find? fun e => decide (e.1 = f ∧ e.2.1 = args)).map (·.2.2)⟩
@[go_sem] theorem elP (m : Int) (L : List (FuncId × List AV × AV)) : (EL m L).P = Tryz.prog := rfl
@[go_sem] theorem elG (m : Int) (L : List (FuncId × List AV × AV)) : (EL m L).gl = glT m := rfl
theorem el_ok {L : List (FuncId × List AV × AV)} (h : ∀ e ∈ L, MeetsP Tryz.prog (glT m) e.1 e.2.1 e.2.2) : ModOk (EL m L) := by
  intro f args r e
  simp only [EL, Option.map_eq_some_iff] at e
  obtain ⟨x, hx, rfl⟩ := e
  have h1 := List.find?_some hx
  simp only [decide_eq_true_eq] at h1
  have := h x (List.mem_of_find?_eq_some hx)
  rw [h1.1, h1.2] at this
  exact this
def callZ (E : Env) (h : Hp) (f : FuncId) (args : List AV) : OR := callA E h f args
@[go_sem] theorem el_hit (m : Int) (L : List (FuncId × List AV × AV)) (h : Hp) (f : FuncId) (args : List AV) (r : AV) : callA (EL m ((f, args, r) :: L)) h f args = if args.all (noid 12) = true then .val r h else callZ (EL m ((f, args, r) :: L)) h f args := by
  split
  · rename_i hn
    unfold callA
    rw [if_pos hn]
    simp [EL]
  · rfl
@[go_sem] theorem el_nil (m : Int) (h : Hp) (f : FuncId) (args : List AV) : callA (EL m []) h f args = .call f args := by
  unfold callA
  split
  · rfl
  · split <;> rfl
@[go_sem low] theorem el_miss (m : Int) (L : List (FuncId × List AV × AV)) (h : Hp) (f f0 : FuncId) (args a0 : List AV) (r : AV) : callA (EL m ((f0, a0, r) :: L)) h f args = if f0 = f then callZ (EL m ((f0, a0, r) :: L)) h f args else callA (EL m L) h f args := by
  split
  · rfl
  · rename_i hf
    unfold callA
    simp [EL, hf]
theorem t_with {f : FuncId} {K : List Item} {S : St} {X : Ex → St → Prop} (L : List (FuncId × List AV × AV)) (h : ∀ e ∈ L, MeetsP Tryz.prog (glT m) e.1 e.2.1 e.2.2) (hT : T (EL m L) f K S X) : T (EW m) f K S X :=
  fun F G ok w a b cs _ q3 q5 q6 q7 => hT F G ok w a b cs (el_ok h) q3 q5 q6 q7
theorem t_back {f : FuncId} {K : List Item} {S : St} {X : Ex → St → Prop} {L : List (FuncId × List AV × AV)} (hT : T (EW m) f K S X) : T (EL m L) f K S X :=
  fun F G ok w a b cs _ q3 q5 q6 q7 => hT F G ok w a b cs (ew m) q3 q5 q6 q7
inductive WDP (m : Int) (L : List (FuncId × List AV × AV)) (f : FuncId) (K : List Item) (X : Ex → St → Prop) (r : RR) : Prop
  | done (S : St) (h : T (EW m) f K S X) (e : r = .done S) : WDP m L f K X r
theorem wdp_done {L : List (FuncId × List AV × AV)} {f : FuncId} {K : List Item} {X : Ex → St → Prop} {S : St} (h : T (EW m) f K S X) : WDP m L f K X (.done S) := .done S h rfl
/-- A region that draws, with pure calls. -/
theorem t_drawP {f : FuncId} {K : List Item} {S : St} {X : Ex → St → Prop} {id : Nat} {ops : Array Oper} (L : List (FuncId × List AV × AV)) (h : ∀ e ∈ L, MeetsP Tryz.prog (glT m) e.1 e.2.1 e.2.2) (hO : orderB ops = true) (hT : WDP m L f K X (runA (EL m L) ops.toList ops.toList S)) : T (EW m) f (.code (.region id ops true) :: K) S X := by
  refine t_with L h (t_draw (E := EL m L) (by kernel_rfl) hO ?_)
  cases hT with
  | done S' hT e => rw [e]; exact .done S' (t_back hT)
theorem t_draw1 {f : FuncId} {K : List Item} {S : St} {X : Ex → St → Prop} {id : Nat} {ops : Array Oper} {g : FuncId} {args : List AV} {r : AV} (hp : MeetsP Tryz.prog (glT m) g args r) (hO : orderB ops = true) (hT : WDP m [(g, args, r)] f K X (runA (EL m [(g, args, r)]) ops.toList ops.toList S)) : T (EW m) f (.code (.region id ops true) :: K) S X :=
  t_drawP _ (fun e he => by simp only [List.mem_cons, List.not_mem_nil, or_false] at he; subst he; exact hp) hO hT
theorem t_draw2 {f : FuncId} {K : List Item} {S : St} {X : Ex → St → Prop} {id : Nat} {ops : Array Oper} {g g2 : FuncId} {args args2 : List AV} {r r2 : AV} (hp : MeetsP Tryz.prog (glT m) g args r) (hp2 : MeetsP Tryz.prog (glT m) g2 args2 r2) (hO : orderB ops = true) (hT : WDP m [(g, args, r), (g2, args2, r2)] f K X (runA (EL m [(g, args, r), (g2, args2, r2)]) ops.toList ops.toList S)) : T (EW m) f (.code (.region id ops true) :: K) S X :=
  t_drawP _ (fun e he => by simp only [List.mem_cons, List.not_mem_nil, or_false] at he; rcases he with rfl | rfl; exact hp; exact hp2) hO hT
theorem chkDay_ok {d : Int} (h1 : -4000000 ≤ d) (h2 : d ≤ 4000000) : chkDay d = 0 := by unfold chkDay; rw [if_neg (by omega)]
set_option maxRecDepth 100000 in
theorem checkP (c : Cal) (hc : c.Ok) (hname : MeetsP Tryz.prog (glT m) 55 [.s c.nm] (.b true)) (hmon : MeetsP Tryz.prog (glT m) 76 [monF c.ms] (.i .i64 0)) : MeetsP Tryz.prog (glT m) 50 [c.A] (.i .i64 0) := by
  have hl := hc.lsl
  have hs := hc.sorted
  have hw := hc.within
  have hcy := hc.cy1
  have hcy2 := hc.cy2
  have hday := lineCheck (m := m) c.ep
  rw [chkDay_ok hc.ep1 hc.ep2] at hday
  obtain ⟨nm, ep, cy, ms, ls⟩ := c
  simp only [Cal.A] at *
  have k1 : ¬ cy < 1 := by omega
  have k2 : ¬ 3000 < cy := by omega
  refine meetsP (E := (EW m)) 51 [.tmp 2] (ew m) Tryz.func50 rfl (by decide) rfl rfl (by simp) ?_
  repeat' first
    | ((with_reducible refine wr_isCall ?_); refine wr_P hname rfl ?_)
    | ((with_reducible refine wr_isCall ?_); refine wr_P hmon rfl ?_)
    | ((with_reducible refine wr_isCall ?_); refine wr_P hday rfl ?_)
    | (with_reducible refine t_seq ?_)
    | (with_reducible refine t_skip ?_)
    | (with_reducible refine t_ret ?_)
    | (with_reducible refine t_end ?_)
    | (with_reducible refine t_cond ?_)
    | (with_reducible refine t_region ?_)
    | (with_reducible refine wr_done ?_)
    | ((with_reducible refine t_isDraw ?_); refine t_draw rfl (by kernel_rfl) ?_)
    | (with_reducible refine WD.done _ ?_)
    | (with_reducible refine wdp_done ?_)
    | (with_reducible refine tr_some ?_)
    | ((fail_if_success with_reducible refine t_bl ?_); (with_reducible refine t_block ?_))
    | (with_reducible refine t_inBlock ?_)
    | ((with_reducible refine t_isExit ?_); refine t_exit rfl ?_)
    | simp only [decide_eq_true_eq, decide_eq_false_iff_not, Bool.not_eq_true', Bool.not_eq_false'] at *
    | simp (disch := omega) only [go_sem, Nat.reduceLT, Nat.reduceEqDiff, Nat.reduceAdd, Nat.reduceLeDiff, Nat.reduceMul, Int.reduceLT, Int.reduceLE, Int.reduceAdd, Int.reduceSub, Int.reduceNeg, Int.reduceToNat, Int.reduceBEq, Int.reduceEq, reduceCtorEq, List.take_succ_cons, List.take_zero, List.take_nil, List.drop_succ_cons, List.drop_nil, List.cons_append, List.nil_append, List.set_cons_zero, List.set_cons_succ, ↓reduceIte, *]
    | (with_reducible refine tb_true ?_)
    | (with_reducible refine tb_false ?_)
    | (with_reducible refine tb_split (fun _ => ?_) (fun _ => ?_))
    | (with_reducible refine wg_f (fun _ => ?_) (fun _ => ?_))
    | (with_reducible refine wg_t (fun _ => ?_) (fun _ => ?_))
    | (with_reducible refine wd_f (fun _ => ?_) (fun _ => ?_))
    | (with_reducible refine wd_t (fun _ => ?_) (fun _ => ?_))
  refine t_while (I := fun (i : Nat) t h => i ≤ ls.length ∧ h = ⟨[(0, .rows 5 [[.s nm, .i .i64 ep, .i .i64 cy, monF ms, intF ls]])], 1⟩ ∧ get t 1 = .ptr 0 0 0 ∧ get t 32 = intF ls ∧ get t 33 = .i .i64 ls.length ∧ get t 34 = .i .i64 i ∧ ∃ last : Int, get t 4 = .i .i64 last ∧ last < cy + 1 ∧ ∀ h : i < ls.length, last < ls[i]) (m := fun i => ls.length - i)
    (J := fun t h => True) 0 ⟨by omega, rfl, by simp [get], by simp [get], by simp [get], by simp [get], 0, by simp [get], by omega, fun h => by have := (hw _ (List.getElem_mem h)).1; omega⟩ ?_ ?_
  · rintro i t h ⟨hi, rfl, h1, h32, h33, h34, last, h4, hlast, hlt⟩ hrec hex
    repeat' first
      | refine hex _ _ trivial
      | (with_reducible refine t_seq ?_)
      | (with_reducible refine t_skip ?_)
      | (with_reducible refine t_ret ?_)
      | (with_reducible refine t_end ?_)
      | (with_reducible refine t_cond ?_)
      | (with_reducible refine t_region ?_)
      | (with_reducible refine wr_done ?_)
      | ((with_reducible refine t_isDraw ?_); refine t_draw rfl (by kernel_rfl) ?_)
      | (with_reducible refine WD.done _ ?_)
      | (with_reducible refine wdp_done ?_)
      | (with_reducible refine tr_some ?_)
      | ((fail_if_success with_reducible refine t_bl ?_); (with_reducible refine t_block ?_))
      | (with_reducible refine t_inBlock ?_)
      | ((with_reducible refine t_isExit ?_); refine t_exit rfl ?_)
      | simp only [decide_eq_true_eq, decide_eq_false_iff_not, Bool.not_eq_true', Bool.not_eq_false'] at *
      | simp (disch := omega) only [go_sem, Nat.reduceLT, Nat.reduceEqDiff, Nat.reduceAdd, Nat.reduceLeDiff, Nat.reduceMul, Int.reduceLT, Int.reduceLE, Int.reduceAdd, Int.reduceSub, Int.reduceNeg, Int.reduceToNat, Int.reduceBEq, Int.reduceEq, reduceCtorEq, List.take_succ_cons, List.take_zero, List.take_nil, List.drop_succ_cons, List.drop_nil, List.cons_append, List.nil_append, List.set_cons_zero, List.set_cons_succ, ↓reduceIte, *]
      | (with_reducible refine tb_true ?_)
      | (with_reducible refine tb_false ?_)
      | (with_reducible refine tb_split (fun _ => ?_) (fun _ => ?_))
      | (with_reducible refine wg_f (fun _ => ?_) (fun _ => ?_))
      | (with_reducible refine wg_t (fun _ => ?_) (fun _ => ?_))
      | (with_reducible refine wd_f (fun _ => ?_) (fun _ => ?_))
      | (with_reducible refine wd_t (fun _ => ?_) (fun _ => ?_))
    all_goals try (exfalso; have h9 := hw _ (List.getElem_mem (show i < ls.length by omega)); have h10 := hlt (by omega); omega)
    rename_i q1 q2 q3 q4
    have hi' : i < ls.length := by omega
    exact hrec (i + 1) _ _ ⟨by omega, rfl, by simp [get, h1], by simp [get, h32], by simp [get, h33], by simp [get], ls[i], by simp [get], by have := (hw _ (List.getElem_mem hi')).2; omega, fun h => List.pairwise_iff_getElem.1 hs _ _ _ _ (by omega)⟩ (by omega)
  · rintro t h -
    repeat' first
      | (with_reducible refine t_seq ?_)
      | (with_reducible refine t_skip ?_)
      | (with_reducible refine t_ret ?_)
      | (with_reducible refine t_end ?_)
      | (with_reducible refine t_cond ?_)
      | (with_reducible refine t_region ?_)
      | (with_reducible refine wr_done ?_)
      | ((with_reducible refine t_isDraw ?_); refine t_draw rfl (by kernel_rfl) ?_)
      | (with_reducible refine WD.done _ ?_)
      | (with_reducible refine wdp_done ?_)
      | (with_reducible refine tr_some ?_)
      | ((fail_if_success with_reducible refine t_bl ?_); (with_reducible refine t_block ?_))
      | (with_reducible refine t_inBlock ?_)
      | ((with_reducible refine t_isExit ?_); refine t_exit rfl ?_)
      | simp only [decide_eq_true_eq, decide_eq_false_iff_not, Bool.not_eq_true', Bool.not_eq_false'] at *
      | simp (disch := omega) only [go_sem, Nat.reduceLT, Nat.reduceEqDiff, Nat.reduceAdd, Nat.reduceLeDiff, Nat.reduceMul, Int.reduceLT, Int.reduceLE, Int.reduceAdd, Int.reduceSub, Int.reduceNeg, Int.reduceToNat, Int.reduceBEq, Int.reduceEq, reduceCtorEq, List.take_succ_cons, List.take_zero, List.take_nil, List.drop_succ_cons, List.drop_nil, List.cons_append, List.nil_append, List.set_cons_zero, List.set_cons_succ, ↓reduceIte, *]
      | (with_reducible refine tb_true ?_)
      | (with_reducible refine tb_false ?_)
      | (with_reducible refine tb_split (fun _ => ?_) (fun _ => ?_))
      | (with_reducible refine wg_f (fun _ => ?_) (fun _ => ?_))
      | (with_reducible refine wg_t (fun _ => ?_) (fun _ => ?_))
      | (with_reducible refine wd_f (fun _ => ?_) (fun _ => ?_))
      | (with_reducible refine wd_t (fun _ => ?_) (fun _ => ?_))
    exact ⟨rfl, rfl⟩
/-- What a year is asked for. -/
def chkYear (y : Int) : Int := if y < -10000 ∨ 10000 < y then 3 else 0
/-- A calendar that is checked. -/
structure Cal.Good (m : Int) (c : Cal) : Prop extends c.Ok where
  check : MeetsP Tryz.prog (glT m) 50 [c.A] (.i .i64 0)
section
variable {c : Cal} (hc : c.Good m)
include hc
set_option maxRecDepth 100000 in
theorem beginP (y : Int) : MeetsP Tryz.prog (glT m) 53 [c.A, .i .i64 y] (.i .i64 (chkYear y)) := by
  have hk := hc.check
  obtain ⟨nm, ep, cy, ms, ls⟩ := c
  simp only [Cal.A] at *
  refine meetsP (E := (EW m)) 17 [.tmp 4] (ew m) Tryz.func53 rfl (by decide) rfl rfl (by simp) ?_
  repeat' first
    | ((with_reducible refine wr_isCall ?_); refine wr_P hk rfl ?_)
    | (with_reducible refine t_seq ?_)
    | (with_reducible refine t_skip ?_)
    | (with_reducible refine t_ret ?_)
    | (with_reducible refine t_end ?_)
    | (with_reducible refine t_cond ?_)
    | (with_reducible refine t_region ?_)
    | (with_reducible refine wr_done ?_)
    | ((with_reducible refine t_isDraw ?_); refine t_draw rfl (by kernel_rfl) ?_)
    | (with_reducible refine WD.done _ ?_)
    | (with_reducible refine wdp_done ?_)
    | (with_reducible refine tr_some ?_)
    | ((fail_if_success with_reducible refine t_bl ?_); (with_reducible refine t_block ?_))
    | (with_reducible refine t_inBlock ?_)
    | ((with_reducible refine t_isExit ?_); refine t_exit rfl ?_)
    | simp only [decide_eq_true_eq, decide_eq_false_iff_not, Bool.not_eq_true', Bool.not_eq_false'] at *
    | simp (disch := omega) only [go_sem, Nat.reduceLT, Nat.reduceEqDiff, Nat.reduceAdd, Nat.reduceLeDiff, Nat.reduceMul, Int.reduceLT, Int.reduceLE, Int.reduceAdd, Int.reduceSub, Int.reduceNeg, Int.reduceToNat, Int.reduceBEq, Int.reduceEq, reduceCtorEq, List.take_succ_cons, List.take_zero, List.take_nil, List.drop_succ_cons, List.drop_nil, List.cons_append, List.nil_append, List.set_cons_zero, List.set_cons_succ, ↓reduceIte, *]
    | (with_reducible refine tb_true ?_)
    | (with_reducible refine tb_false ?_)
    | (with_reducible refine tb_split (fun _ => ?_) (fun _ => ?_))
    | (with_reducible refine wg_f (fun _ => ?_) (fun _ => ?_))
    | (with_reducible refine wg_t (fun _ => ?_) (fun _ => ?_))
    | (with_reducible refine wd_f (fun _ => ?_) (fun _ => ?_))
    | (with_reducible refine wd_t (fun _ => ?_) (fun _ => ?_))
  all_goals refine ⟨?_, rfl⟩
  all_goals simp [fz, chkYear, *]
set_option maxRecDepth 100000 in
theorem newYearP (y : Int) : MeetsP Tryz.prog (glT m) 28 [c.A, .i .i64 y] (if chkYear y = 0 then (if chkDay (c.first y) = 0 then .tup [.i .i64 (c.first y), .i .i64 0] else .tup [.i .i64 0, .i .i64 3]) else .tup [.i .i64 0, .i .i64 3]) := by
  have hb := beginP hc y
  have hf := fun h1 h2 => firstP (m := m) c hc.toOk y h1 h2
  have hd := lineCheck (m := m) (c.first y)
  generalize hF : c.first y = F at *
  obtain ⟨nm, ep, cy, ms, ls⟩ := c
  simp only [Cal.A] at *
  by_cases hy : y < -10000 ∨ 10000 < y
  · have e : chkYear y = 3 := if_pos hy
    rw [e] at hb ⊢
    refine meetsP (E := (EW m)) 21 [.tmp 4, .tmp 5] (ew m) Tryz.func28 rfl (by decide) rfl rfl (by simp) ?_
    repeat' first
      | ((with_reducible refine wr_isCall ?_); refine wr_P hb rfl ?_)
      | (with_reducible refine t_seq ?_)
      | (with_reducible refine t_skip ?_)
      | (with_reducible refine t_ret ?_)
      | (with_reducible refine t_end ?_)
      | (with_reducible refine t_cond ?_)
      | (with_reducible refine t_region ?_)
      | (with_reducible refine wr_done ?_)
      | ((with_reducible refine t_isDraw ?_); refine t_draw rfl (by kernel_rfl) ?_)
      | (with_reducible refine WD.done _ ?_)
      | (with_reducible refine wdp_done ?_)
      | (with_reducible refine tr_some ?_)
      | ((fail_if_success with_reducible refine t_bl ?_); (with_reducible refine t_block ?_))
      | (with_reducible refine t_inBlock ?_)
      | ((with_reducible refine t_isExit ?_); refine t_exit rfl ?_)
      | simp only [decide_eq_true_eq, decide_eq_false_iff_not, Bool.not_eq_true', Bool.not_eq_false'] at *
      | simp (disch := omega) only [go_sem, Nat.reduceLT, Nat.reduceEqDiff, Nat.reduceAdd, Nat.reduceLeDiff, Nat.reduceMul, Int.reduceLT, Int.reduceLE, Int.reduceAdd, Int.reduceSub, Int.reduceNeg, Int.reduceToNat, Int.reduceBEq, Int.reduceEq, reduceCtorEq, List.take_succ_cons, List.take_zero, List.take_nil, List.drop_succ_cons, List.drop_nil, List.cons_append, List.nil_append, List.set_cons_zero, List.set_cons_succ, ↓reduceIte, *]
      | (with_reducible refine tb_true ?_)
      | (with_reducible refine tb_false ?_)
      | (with_reducible refine tb_split (fun _ => ?_) (fun _ => ?_))
      | (with_reducible refine wg_f (fun _ => ?_) (fun _ => ?_))
      | (with_reducible refine wg_t (fun _ => ?_) (fun _ => ?_))
      | (with_reducible refine wd_f (fun _ => ?_) (fun _ => ?_))
      | (with_reducible refine wd_t (fun _ => ?_) (fun _ => ?_))
    exact ⟨rfl, rfl⟩
  · have e : chkYear y = 0 := if_neg hy
    have hf' := hf (by omega) (by omega)
    rw [e] at hb ⊢
    rw [if_pos rfl]
    generalize hD : chkDay F = D at *
    refine meetsP (E := (EW m)) 21 [.tmp 4, .tmp 5] (ew m) Tryz.func28 rfl (by decide) rfl rfl (by simp) ?_
    repeat' first
      | ((with_reducible refine wr_isCall ?_); refine wr_P hb rfl ?_)
      | ((with_reducible refine wr_isCall ?_); refine wr_P hf' rfl ?_)
      | ((with_reducible refine wr_isCall ?_); refine wr_P hd rfl ?_)
      | (with_reducible refine t_seq ?_)
      | (with_reducible refine t_skip ?_)
      | (with_reducible refine t_ret ?_)
      | (with_reducible refine t_end ?_)
      | (with_reducible refine t_cond ?_)
      | (with_reducible refine t_region ?_)
      | (with_reducible refine wr_done ?_)
      | ((with_reducible refine t_isDraw ?_); refine t_draw rfl (by kernel_rfl) ?_)
      | (with_reducible refine WD.done _ ?_)
      | (with_reducible refine wdp_done ?_)
      | (with_reducible refine tr_some ?_)
      | ((fail_if_success with_reducible refine t_bl ?_); (with_reducible refine t_block ?_))
      | (with_reducible refine t_inBlock ?_)
      | ((with_reducible refine t_isExit ?_); refine t_exit rfl ?_)
      | simp only [decide_eq_true_eq, decide_eq_false_iff_not, Bool.not_eq_true', Bool.not_eq_false'] at *
      | simp (disch := omega) only [go_sem, Nat.reduceLT, Nat.reduceEqDiff, Nat.reduceAdd, Nat.reduceLeDiff, Nat.reduceMul, Int.reduceLT, Int.reduceLE, Int.reduceAdd, Int.reduceSub, Int.reduceNeg, Int.reduceToNat, Int.reduceBEq, Int.reduceEq, reduceCtorEq, List.take_succ_cons, List.take_zero, List.take_nil, List.drop_succ_cons, List.drop_nil, List.cons_append, List.nil_append, List.set_cons_zero, List.set_cons_succ, ↓reduceIte, *]
      | (with_reducible refine tb_true ?_)
      | (with_reducible refine tb_false ?_)
      | (with_reducible refine tb_split (fun _ => ?_) (fun _ => ?_))
      | (with_reducible refine wg_f (fun _ => ?_) (fun _ => ?_))
      | (with_reducible refine wg_t (fun _ => ?_) (fun _ => ?_))
      | (with_reducible refine wd_f (fun _ => ?_) (fun _ => ?_))
      | (with_reducible refine wd_t (fun _ => ?_) (fun _ => ?_))
    all_goals exact ⟨rfl, rfl⟩
end
end Go.Proofs.YtkokongbnemkhaaGreatDoorA
