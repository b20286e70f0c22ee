/- sort.SearchInts, and what leans on it: arith.leap, arith.month, arith.first. -/
import Derived.Test.YtkokongbnemkhaaGreatDoorPW5
set_option linter.unusedVariables false
set_option linter.unusedSimpArgs false
namespace Go.Proofs.YtkokongbnemkhaaGreatDoorA
open Go Go.RowKit Go.Proofs.YtkokongbnemkhaaGreatDoorFx Go.Proofs
variable {m : Int}
@[go_sem high] theorem one_mon (l : List (List UInt8 × Int × Int)) : one (monF l) = true := rfl
@[go_sem high] theorem one_int (l : List Int) : one (intF l) = true := rfl
@[go_sem high] theorem cells_mon (l : List (List UInt8 × Int × Int)) : cellsA (monF l) = some [monF l] := rfl
@[go_sem high] theorem cells_int (l : List Int) : cellsA (intF l) = some [intF l] := rfl
@[go_sem high] theorem noid_mon (d : Nat) (l : List (List UInt8 × Int × Int)) : noid (d + 1) (monF l) = true := rfl
@[go_sem high] theorem noid_int (d : Nat) (l : List Int) : noid (d + 1) (intF l) = true := rfl
@[go_sem high] theorem fz_mon (h : Hp) (d : Nat) (l : List (List UInt8 × Int × Int)) : fz h (d + 1) (monF l) = monF l := rfl
@[go_sem high] theorem fz_int (h : Hp) (d : Nat) (l : List Int) : fz h (d + 1) (intF l) = intF l := rfl
@[go_sem high] theorem len_mon (l : List (List UInt8 × Int × Int)) : lenA (monF l) = some (l.length : Int) := by simp [lenA, monF]
@[go_sem high] theorem len_int (l : List Int) : lenA (intF l) = some (l.length : Int) := by simp [lenA, intF]
@[go_sem] theorem lenT_mon (h : Hp) (e : TypeId) (l : List (List UInt8 × Int × Int)) : lenT h (monF l) (some (.slice e)) = .val (.i .i64 l.length) h := by simp [lenT, lenA, monF]
@[go_sem] theorem lenT_int (h : Hp) (e : TypeId) (l : List Int) : lenT h (intF l) (some (.slice e)) = .val (.i .i64 l.length) h := by simp [lenT, lenA, intF]
@[go_sem high] theorem idx_mon {h : Hp} {l : List (List UInt8 × Int × Int)} {i : Int} (h0 : 0 ≤ i) (h1 : i < (l.length : Int)) : idxA h 3 (monF l) i = some (.ip [.s (l[i.toNat]'(by omega)).1, .i .i64 (l[i.toNat]'(by omega)).2.1, .i .i64 (l[i.toNat]'(by omega)).2.2] 0) := by
  simp only [monF]
  rw [idx_isl h0, List.getElem?_map, List.getElem?_eq_getElem (show i.toNat < l.length by omega)]; rfl
@[go_sem high] theorem idx_int {h : Hp} {l : List Int} {i : Int} (h0 : 0 ≤ i) (h1 : i < (l.length : Int)) : idxA h 1 (intF l) i = some (.ip [.i .i64 (l[i.toNat]'(by omega))] 0) := by
  simp only [intF]
  rw [idx_isl h0, List.getElem?_map, List.getElem?_eq_getElem (show i.toNat < l.length by omega)]; rfl
/-- How many are less than x. -/
def cnt (ls : List Int) (x : Int) : Nat := (ls.filter fun y => decide (y < x)).length
theorem cnt_le (ls : List Int) (x : Int) : cnt ls x ≤ ls.length := List.length_filter_le ..
theorem cnt_spec : ∀ {ls : List Int} {x : Int}, ls.Pairwise (· < ·) → ∀ (k : Nat) (h : k < ls.length), (ls[k] < x ↔ k < cnt ls x)
  | [], x, _, k, h => by simp at h
  | y :: ls, x, hs, k, h => by
    have h1 := List.pairwise_cons.1 hs
    by_cases hy : y < x
    · have hc : cnt (y :: ls) x = cnt ls x + 1 := by simp [cnt, hy]
      cases k with
      | zero => simp [hc, hy]
      | succ k =>
        have := cnt_spec (x := x) h1.2 k (by simpa using h)
        simp only [List.getElem_cons_succ, hc]
        omega
    · have hall : ∀ z ∈ ls, ¬ z < x := fun z hz => by have := h1.1 z hz; omega
      have hc : cnt (y :: ls) x = 0 := by
        simp only [cnt, List.length_eq_zero_iff, List.filter_eq_nil_iff, List.mem_cons, decide_eq_true_eq]
        rintro z (rfl | hz)
        · exact hy
        · exact hall z hz
      rw [hc]
      constructor
      · intro q
        exfalso
        cases k with
        | zero => exact hy q
        | succ k => exact hall _ (List.getElem_mem _) q
      · omega
@[go_sem] theorem wu64 {x : Int} (h1 : 0 ≤ x) (h2 : x ≤ 18446744073709551615) : IntKind.u64.wrap x = x := by
  simp only [IntKind.wrap, IntKind.bits, IntKind.signed]; simp; omega
@[go_sem] theorem shr1 {x : Int} : x.fdiv (2 ^ min (Int.toNat 1) 64) = x / 2 := by
  rw [show ((2 : Int) ^ min (Int.toNat 1) 64) = 2 by decide]
  exact Int.fdiv_eq_ediv_of_nonneg x (by omega)
@[go_sem] theorem shr2 {x : Int} : x.fdiv (2 ^ min 1 64) = x / 2 := by
  rw [show ((2 : Int) ^ min 1 64) = 2 by decide]
  exact Int.fdiv_eq_ediv_of_nonneg x (by omega)
def seaH (ls : List Int) (x : Int) : List (Nat × Ent) := [(1, .rows 1 [[.i .i64 x]]), (0, .rows 1 [[intF ls]])]
set_option maxRecDepth 100000 in
theorem seaF (ls : List Int) (x : Int) (k : Nat) (h : k < ls.length) : MeetsH (EW m) 107 [.i .i64 k, .ptr 0 0 0, .ptr 1 0 0] ⟨seaH ls x, 2⟩ (Is (.ret (.b (!decide (ls[k] < x)))) ⟨seaH ls x, 2⟩) := by
  refine meetsH (E := (EW m)) 11 [.tmp 4] Tryz.func107 rfl (by decide) rfl rfl (by simp) ?_
  simp only [seaH]
  repeat' first
    | (with_reducible refine t_seq ?_)
    | (with_reducible refine t_skip ?_)
    | (with_reducible refine t_ret ?_)
    | (with_reducible refine t_end ?_)
    | (with_reducible refine t_cond ?_)
    | (with_reducible refine t_region ?_)
    | (with_reducible refine wr_done ?_)
    | ((with_reducible refine t_isDraw ?_); refine t_draw rfl (by kernel_rfl) ?_)
    | (with_reducible refine WD.done _ ?_)
    | (with_reducible refine wdp_done ?_)
    | (with_reducible refine tr_some ?_)
    | ((fail_if_success with_reducible refine t_bl ?_); (with_reducible refine t_block ?_))
    | (with_reducible refine t_inBlock ?_)
    | ((with_reducible refine t_isExit ?_); refine t_exit rfl ?_)
    | simp only [decide_eq_true_eq, decide_eq_false_iff_not, Bool.not_eq_true', Bool.not_eq_false'] at *
    | simp (disch := omega) only [go_sem, Nat.reduceLT, Nat.reduceEqDiff, Nat.reduceAdd, Nat.reduceLeDiff, Nat.reduceMul, Int.reduceLT, Int.reduceLE, Int.reduceAdd, Int.reduceSub, Int.reduceNeg, Int.reduceToNat, Int.reduceBEq, Int.reduceEq, reduceCtorEq, List.take_succ_cons, List.take_zero, List.take_nil, List.drop_succ_cons, List.drop_nil, List.cons_append, List.nil_append, List.set_cons_zero, List.set_cons_succ, ↓reduceIte, *]
    | (with_reducible refine tb_true ?_)
    | (with_reducible refine tb_false ?_)
    | (with_reducible refine tb_split (fun _ => ?_) (fun _ => ?_))
    | (with_reducible refine wg_f (fun _ => ?_) (fun _ => ?_))
    | (with_reducible refine wg_t (fun _ => ?_) (fun _ => ?_))
    | (with_reducible refine wd_f (fun _ => ?_) (fun _ => ?_))
    | (with_reducible refine wd_t (fun _ => ?_) (fun _ => ?_))
  exact ⟨by rw [show (decide (x ≤ ls[k])) = !decide (ls[k] < x) by rw [Bool.eq_iff_iff]; simp], rfl⟩
set_option maxRecDepth 100000 in
theorem seaS (ls : List Int) (x : Int) (hs : ls.Pairwise (· < ·)) (hl : ls.length ≤ 1000000) : MeetsH (EW m) 106 [.i .i64 ls.length, .fn 107 [] [.ptr 0 0 0, .ptr 1 0 0]] ⟨seaH ls x, 2⟩ (Is (.ret (.i .i64 (cnt ls x))) ⟨seaH ls x, 2⟩) := by
  refine meetsH (E := (EW m)) 26 [.tmp 4] Tryz.func106 rfl (by decide) rfl rfl (by simp) ?_
  have hcl := cnt_le ls x
  repeat' first
    | (with_reducible refine t_seq ?_)
    | (with_reducible refine t_skip ?_)
    | (with_reducible refine t_ret ?_)
    | (with_reducible refine t_end ?_)
    | (with_reducible refine t_cond ?_)
    | (with_reducible refine t_region ?_)
    | (with_reducible refine wr_done ?_)
    | ((with_reducible refine t_isDraw ?_); refine t_draw rfl (by kernel_rfl) ?_)
    | (with_reducible refine WD.done _ ?_)
    | (with_reducible refine wdp_done ?_)
    | (with_reducible refine tr_some ?_)
    | ((fail_if_success with_reducible refine t_bl ?_); (with_reducible refine t_block ?_))
    | (with_reducible refine t_inBlock ?_)
    | ((with_reducible refine t_isExit ?_); refine t_exit rfl ?_)
    | simp only [decide_eq_true_eq, decide_eq_false_iff_not, Bool.not_eq_true', Bool.not_eq_false'] at *
    | simp (disch := omega) only [go_sem, Nat.reduceLT, Nat.reduceEqDiff, Nat.reduceAdd, Nat.reduceLeDiff, Nat.reduceMul, Int.reduceLT, Int.reduceLE, Int.reduceAdd, Int.reduceSub, Int.reduceNeg, Int.reduceToNat, Int.reduceBEq, Int.reduceEq, reduceCtorEq, List.take_succ_cons, List.take_zero, List.take_nil, List.drop_succ_cons, List.drop_nil, List.cons_append, List.nil_append, List.set_cons_zero, List.set_cons_succ, ↓reduceIte, *]
    | (with_reducible refine tb_true ?_)
    | (with_reducible refine tb_false ?_)
    | (with_reducible refine tb_split (fun _ => ?_) (fun _ => ?_))
    | (with_reducible refine wg_f (fun _ => ?_) (fun _ => ?_))
    | (with_reducible refine wg_t (fun _ => ?_) (fun _ => ?_))
    | (with_reducible refine wd_f (fun _ => ?_) (fun _ => ?_))
    | (with_reducible refine wd_t (fun _ => ?_) (fun _ => ?_))
  refine t_while (I := fun (p : Nat × Nat) t h => p.1 ≤ cnt ls x ∧ cnt ls x ≤ p.2 ∧ p.2 ≤ ls.length ∧ h = ⟨seaH ls x, 2⟩ ∧ get t 1 = .fn 107 [] [.ptr 0 0 0, .ptr 1 0 0] ∧ get t 5 = .i .i64 p.1 ∧ get t 6 = .i .i64 p.2) (m := fun p => p.2 - p.1)
    (J := fun t h => h = ⟨seaH ls x, 2⟩ ∧ get t 5 = .i .i64 (cnt ls x)) (0, ls.length) ⟨by omega, by omega, by omega, rfl, by simp [get], by simp [get], by simp [get]⟩ ?_ ?_
  · rintro ⟨i, j⟩ t h ⟨hi, hj, hjl, rfl, h1, h5, h6⟩ hrec hex
    simp only at hi hj hjl h5 h6
    have hmid : ((i : Int) + (j : Int)) / 2 = (((i + j) / 2 : Nat) : Int) := by omega
    have hsp := cnt_spec (x := x) hs ((i + j) / 2)
    repeat' first
      | refine hex _ _ ?_
      | ((with_reducible refine wr_isCall ?_); refine wr_ret (seaF ls x ((i + j) / 2) (by omega)) ?_)
      | (with_reducible refine t_seq ?_)
      | (with_reducible refine t_skip ?_)
      | (with_reducible refine t_ret ?_)
      | (with_reducible refine t_end ?_)
      | (with_reducible refine t_cond ?_)
      | (with_reducible refine t_region ?_)
      | (with_reducible refine wr_done ?_)
      | ((with_reducible refine t_isDraw ?_); refine t_draw rfl (by kernel_rfl) ?_)
      | (with_reducible refine WD.done _ ?_)
      | (with_reducible refine wdp_done ?_)
      | (with_reducible refine tr_some ?_)
      | ((fail_if_success with_reducible refine t_bl ?_); (with_reducible refine t_block ?_))
      | (with_reducible refine t_inBlock ?_)
      | ((with_reducible refine t_isExit ?_); refine t_exit rfl ?_)
      | simp only [decide_eq_true_eq, decide_eq_false_iff_not, Bool.not_eq_true', Bool.not_eq_false'] at *
      | simp (disch := omega) only [go_sem, Nat.reduceLT, Nat.reduceEqDiff, Nat.reduceAdd, Nat.reduceLeDiff, Nat.reduceMul, Int.reduceLT, Int.reduceLE, Int.reduceAdd, Int.reduceSub, Int.reduceNeg, Int.reduceToNat, Int.reduceBEq, Int.reduceEq, reduceCtorEq, List.take_succ_cons, List.take_zero, List.take_nil, List.drop_succ_cons, List.drop_nil, List.cons_append, List.nil_append, List.set_cons_zero, List.set_cons_succ, ↓reduceIte, *]
      | (with_reducible refine tb_true ?_)
      | (with_reducible refine tb_false ?_)
      | (with_reducible refine tb_split (fun _ => ?_) (fun _ => ?_))
      | (with_reducible refine wg_f (fun _ => ?_) (fun _ => ?_))
      | (with_reducible refine wg_t (fun _ => ?_) (fun _ => ?_))
      | (with_reducible refine wd_f (fun _ => ?_) (fun _ => ?_))
      | (with_reducible refine wd_t (fun _ => ?_) (fun _ => ?_))
    · refine hrec ((i + j) / 2 + 1, j) _ _ ⟨by simp only; omega, hj, hjl, rfl, by simp [get, h1], by simp [get], by simp [get, h6]⟩ (by simp only; omega)
    · refine hrec (i, (i + j) / 2) _ _ ⟨hi, by simp only; omega, by simp only; omega, rfl, by simp [get, h1], by simp [get, h5], by simp [get]⟩ (by simp only; omega)
    · rename_i q
      have : i = cnt ls x := by omega
      exact ⟨trivial, by rw [this]⟩
  · rintro t h ⟨rfl, h5⟩
    repeat' first
      | (with_reducible refine t_seq ?_)
      | (with_reducible refine t_skip ?_)
      | (with_reducible refine t_ret ?_)
      | (with_reducible refine t_end ?_)
      | (with_reducible refine t_cond ?_)
      | (with_reducible refine t_region ?_)
      | (with_reducible refine wr_done ?_)
      | ((with_reducible refine t_isDraw ?_); refine t_draw rfl (by kernel_rfl) ?_)
      | (with_reducible refine WD.done _ ?_)
      | (with_reducible refine wdp_done ?_)
      | (with_reducible refine tr_some ?_)
      | ((fail_if_success with_reducible refine t_bl ?_); (with_reducible refine t_block ?_))
      | (with_reducible refine t_inBlock ?_)
      | ((with_reducible refine t_isExit ?_); refine t_exit rfl ?_)
      | simp only [decide_eq_true_eq, decide_eq_false_iff_not, Bool.not_eq_true', Bool.not_eq_false'] at *
      | simp (disch := omega) only [go_sem, Nat.reduceLT, Nat.reduceEqDiff, Nat.reduceAdd, Nat.reduceLeDiff, Nat.reduceMul, Int.reduceLT, Int.reduceLE, Int.reduceAdd, Int.reduceSub, Int.reduceNeg, Int.reduceToNat, Int.reduceBEq, Int.reduceEq, reduceCtorEq, List.take_succ_cons, List.take_zero, List.take_nil, List.drop_succ_cons, List.drop_nil, List.cons_append, List.nil_append, List.set_cons_zero, List.set_cons_succ, ↓reduceIte, *]
      | (with_reducible refine tb_true ?_)
      | (with_reducible refine tb_false ?_)
      | (with_reducible refine tb_split (fun _ => ?_) (fun _ => ?_))
      | (with_reducible refine wg_f (fun _ => ?_) (fun _ => ?_))
      | (with_reducible refine wg_t (fun _ => ?_) (fun _ => ?_))
      | (with_reducible refine wd_f (fun _ => ?_) (fun _ => ?_))
      | (with_reducible refine wd_t (fun _ => ?_) (fun _ => ?_))
    exact ⟨rfl, rfl⟩
set_option maxRecDepth 100000 in
theorem searchP (ls : List Int) (x : Int) (hs : ls.Pairwise (· < ·)) (hl : ls.length ≤ 1000000) : MeetsP Tryz.prog (glT m) 78 [intF ls, .i .i64 x] (.i .i64 (cnt ls x)) := by
  have hh := seaS (m := m) ls x hs hl
  simp only [seaH] at hh ⊢
  refine meetsP (E := (EW m)) 9 [.tmp 4] (ew m) Tryz.func78 rfl (by decide) rfl rfl (by simp) ?_
  repeat' first
    | ((with_reducible refine wr_isCall ?_); refine wr_ret hh ?_)
    | (with_reducible refine t_seq ?_)
    | (with_reducible refine t_skip ?_)
    | (with_reducible refine t_ret ?_)
    | (with_reducible refine t_end ?_)
    | (with_reducible refine t_cond ?_)
    | (with_reducible refine t_region ?_)
    | (with_reducible refine wr_done ?_)
    | ((with_reducible refine t_isDraw ?_); refine t_draw rfl (by kernel_rfl) ?_)
    | (with_reducible refine WD.done _ ?_)
    | (with_reducible refine wdp_done ?_)
    | (with_reducible refine tr_some ?_)
    | ((fail_if_success with_reducible refine t_bl ?_); (with_reducible refine t_block ?_))
    | (with_reducible refine t_inBlock ?_)
    | ((with_reducible refine t_isExit ?_); refine t_exit rfl ?_)
    | simp only [decide_eq_true_eq, decide_eq_false_iff_not, Bool.not_eq_true', Bool.not_eq_false'] at *
    | simp (disch := omega) only [go_sem, Nat.reduceLT, Nat.reduceEqDiff, Nat.reduceAdd, Nat.reduceLeDiff, Nat.reduceMul, Int.reduceLT, Int.reduceLE, Int.reduceAdd, Int.reduceSub, Int.reduceNeg, Int.reduceToNat, Int.reduceBEq, Int.reduceEq, reduceCtorEq, List.take_succ_cons, List.take_zero, List.take_nil, List.drop_succ_cons, List.drop_nil, List.cons_append, List.nil_append, List.set_cons_zero, List.set_cons_succ, ↓reduceIte, *]
    | (with_reducible refine tb_true ?_)
    | (with_reducible refine tb_false ?_)
    | (with_reducible refine tb_split (fun _ => ?_) (fun _ => ?_))
    | (with_reducible refine wg_f (fun _ => ?_) (fun _ => ?_))
    | (with_reducible refine wg_t (fun _ => ?_) (fun _ => ?_))
    | (with_reducible refine wd_f (fun _ => ?_) (fun _ => ?_))
    | (with_reducible refine wd_t (fun _ => ?_) (fun _ => ?_))
  exact ⟨by simp [fz], rfl⟩
/-- The place of a year in its cycle. -/
def Cal.place (c : Cal) (y : Int) : Int := (y - 1) % c.cy
def Cal.leap (c : Cal) (y : Int) : Bool := decide ((y - 1) % c.cy + 1 ∈ c.ls)
theorem mem_cnt {ls : List Int} {x : Int} (hs : ls.Pairwise (· < ·)) : x ∈ ls ↔ ∃ h : cnt ls x < ls.length, ls[cnt ls x] = x := by
  constructor
  · intro hx
    obtain ⟨k, hk, rfl⟩ := List.mem_iff_getElem.1 hx
    have h1 := cnt_spec (x := ls[k]) hs k hk
    have h2 : ¬ k < cnt ls ls[k] := fun q => by have := h1.2 q; omega
    have h3 : ¬ cnt ls ls[k] < k := fun q => by
      have h4 := (cnt_spec (x := ls[k]) hs (cnt ls ls[k]) (by omega))
      have h5 : ls[cnt ls ls[k]]'(by omega) < ls[k] := List.pairwise_iff_getElem.1 hs _ _ _ _ q
      have := h4.1 h5
      omega
    have h6 : cnt ls ls[k] = k := by omega
    exact ⟨by omega, by simp only [h6]⟩
  · rintro ⟨h, e⟩
    rw [← e]; exact List.getElem_mem h
theorem Cal.Ok.lsc {c : Cal} (h : c.Ok) : (c.ls.length : Int) ≤ c.cy := by
  have key : ∀ (l : List Int) (a b : Int), l.Pairwise (· < ·) → (∀ y ∈ l, a ≤ y ∧ y ≤ b) → a ≤ b + 1 → (l.length : Int) ≤ b - a + 1 := by
    intro l
    induction l with
    | nil => intro a b _ _ hab; simp; omega
    | cons y l ih =>
      intro a b hp hw hab
      have h1 := List.pairwise_cons.1 hp
      have h2 := hw y (List.mem_cons_self ..)
      have := ih (y + 1) b h1.2 (fun z hz => ⟨by have := h1.1 z hz; omega, (hw z (List.mem_cons_of_mem _ hz)).2⟩) (by omega)
      simp only [List.length_cons]; omega
  have := key c.ls 1 c.cy h.sorted h.within (by have := h.cy1; omega)
  omega
theorem Cal.Ok.lsl {c : Cal} (h : c.Ok) : c.ls.length ≤ 3000 := by
  have := h.lsc
  have := h.cy2
  omega
set_option maxHeartbeats 1000000 in
set_option maxRecDepth 100000 in
theorem leapP (c : Cal) (hc : c.Ok) (y : Int) (h1 : -1000000 ≤ y) (h2 : y ≤ 1000000) : MeetsP Tryz.prog (glT m) 79 [c.A, .i .i64 y] (.b (c.leap y)) := by
  have hl := hc.lsl
  have hs := hc.sorted
  have hcy := hc.cy1
  have hcy2 := hc.cy2
  obtain ⟨nm, ep, cy, ms, ls⟩ := c
  simp only [Cal.A, Cal.leap] at *
  have hm1 := Int.emod_nonneg (y - 1) (show cy ≠ 0 by omega)
  have hm2 := Int.emod_lt_of_pos (y - 1) (show 0 < cy by omega)
  have hM := modP (m := m) (a := y - 1) (b := cy) (by omega) (by omega) (by omega) (by omega)
  have hS := searchP (m := m) ls ((y - 1) % cy + 1) hs (by omega)
  generalize (y - 1) % cy = r at *
  have hcl := cnt_le ls (r + 1)
  refine meetsP (E := (EW m)) 31 [.tmp 4] (ew m) Tryz.func79 rfl (by decide) rfl rfl (by simp) ?_
  repeat' first
    | ((with_reducible refine wr_isCall ?_); refine wr_P hM rfl ?_)
    | ((with_reducible refine wr_isCall ?_); refine wr_P hS rfl ?_)
    | (with_reducible refine t_seq ?_)
    | (with_reducible refine t_skip ?_)
    | (with_reducible refine t_ret ?_)
    | (with_reducible refine t_end ?_)
    | (with_reducible refine t_cond ?_)
    | (with_reducible refine t_region ?_)
    | (with_reducible refine wr_done ?_)
    | ((with_reducible refine t_isDraw ?_); refine t_draw rfl (by kernel_rfl) ?_)
    | (with_reducible refine WD.done _ ?_)
    | (with_reducible refine wdp_done ?_)
    | (with_reducible refine tr_some ?_)
    | ((fail_if_success with_reducible refine t_bl ?_); (with_reducible refine t_block ?_))
    | (with_reducible refine t_inBlock ?_)
    | ((with_reducible refine t_isExit ?_); refine t_exit rfl ?_)
    | simp only [decide_eq_true_eq, decide_eq_false_iff_not, Bool.not_eq_true', Bool.not_eq_false'] at *
    | simp (disch := omega) only [go_sem, Nat.reduceLT, Nat.reduceEqDiff, Nat.reduceAdd, Nat.reduceLeDiff, Nat.reduceMul, Int.reduceLT, Int.reduceLE, Int.reduceAdd, Int.reduceSub, Int.reduceNeg, Int.reduceToNat, Int.reduceBEq, Int.reduceEq, reduceCtorEq, List.take_succ_cons, List.take_zero, List.take_nil, List.drop_succ_cons, List.drop_nil, List.cons_append, List.nil_append, List.set_cons_zero, List.set_cons_succ, ↓reduceIte, *]
    | (with_reducible refine tb_true ?_)
    | (with_reducible refine tb_false ?_)
    | (with_reducible refine tb_split (fun _ => ?_) (fun _ => ?_))
    | (with_reducible refine wg_f (fun _ => ?_) (fun _ => ?_))
    | (with_reducible refine wg_t (fun _ => ?_) (fun _ => ?_))
    | (with_reducible refine wd_f (fun _ => ?_) (fun _ => ?_))
    | (with_reducible refine wd_t (fun _ => ?_) (fun _ => ?_))
  all_goals (have hmem := mem_cnt (x := r + 1) hs; refine ⟨?_, rfl⟩)
  · rename_i q
    have e : decide (ls[cnt ls (r + 1)] = r + 1) = decide (r + 1 ∈ ls) := decide_eq_decide.2 ⟨fun e => hmem.2 ⟨by omega, e⟩, fun h => (hmem.1 h).2⟩
    simp only [fz, e]
  · rename_i q
    have e : decide (r + 1 ∈ ls) = false := decide_eq_false (fun h => by obtain ⟨h, _⟩ := hmem.1 h; omega)
    simp only [fz, e]
end Go.Proofs.YtkokongbnemkhaaGreatDoorA
