/- strings.Join. -/
import Derived.Test.YtkokongbnemkhaaGreatDoorNT
import Derived.Test.YtkokongbnemkhaaGreatDoorNB
import Derived.Test.YtkokongbnemkhaaGreatDoorPP1
set_option linter.unusedVariables false
set_option linter.unusedSimpArgs false
namespace Go.Proofs.YtkokongbnemkhaaGreatDoorA
open Go Go.RowKit Go.Proofs.YtkokongbnemkhaaGreatDoorFx Go.Proofs
variable {m : Int}
theorem byteRows_len (l : List UInt8) : (byteRows l).length = l.length := by simp [byteRows]
theorem byteRows_app (a b : List UInt8) : byteRows a ++ byteRows b = byteRows (a ++ b) := by simp [byteRows]
/-- The own blocks of a builder that holds bytes. -/
abbrev bldH (g n : Nat) (l : List UInt8) : Hp := ⟨[(g, .tr 5 1 (byteRows l)), (0, .tr 115 2 [[.ptr 0 0 0, .osl g 0 l.length]])], n⟩
set_option maxRecDepth 100000 in
theorem writeH {l s : List UInt8} {g n : Nat} (hg : g ≠ 0) (hgn : g < n) (hlen : l.length + s.length ≤ 70368744177664) :
    MeetsH (EW m) 63 [.ptr 0 0 0, .s s] (bldH g n l) (Is (.ret (.tup [.i .i64 s.length, .ni])) (bldH n (n + 1) (l ++ s))) := by
  have hcc : MeetsH (EW m) 83 [.ptr 0 0 0] (bldH g n l) (Is (.ret (.tup [])) (bldH g n l)) := by
    have h := copyCheckH (E := EW m) rfl (c := (bldH g n l).c) (id := 0) (m := n) (a := .ptr 0 0 0) (b := .osl g 0 l.length) (by simp [tyOf, hg, Ent.ty]) (by simp [look, hg, Ent.plain]) (.inr rfl)
    simpa [upd, hg, Ent.keep] using h
  have e1 := byteRows_len l
  have e2 := byteRows_len s
  have e3 := byteRows_app l s
  have e4 : (l ++ s).length = l.length + s.length := List.length_append
  have e5 : ∀ x : List UInt8, List.map (fun b => [AV.i .u8 b.toNat]) x = byteRows x := fun _ => rfl
  obtain ⟨inf, hi, hb⟩ : ∃ i, Tryz.prog.info? 5 = some i ∧ i.bytes = 1 := by
    obtain ⟨i, h1, h2⟩ := Option.map_eq_some_iff.1 (show (Tryz.prog.info? 5).map (·.bytes) = some 1 by kernel_rfl)
    exact ⟨i, h1, h2⟩
  have hn0 : ¬ n = 0 := by omega
  have hng : ¬ g = n := by omega
  unfold bldH at *
  rw [e4, ← e3]
  generalize byteRows l = L at *
  generalize hS : byteRows s = R at *
  refine meetsH (E := (EW m)) 19 [.tmp 4, .tmp 5] Tryz.func63 rfl (by decide) rfl rfl (by simp) ?_
  repeat' first
    | ((with_reducible refine wr_isCall ?_); refine wr_ret hcc ?_)
    | (with_reducible refine t_seq ?_)
    | (with_reducible refine t_skip ?_)
    | (with_reducible refine t_ret ?_)
    | (with_reducible refine t_end ?_)
    | (with_reducible refine t_cond ?_)
    | (with_reducible refine t_region ?_)
    | (with_reducible refine wr_done ?_)
    | ((with_reducible refine t_isDraw ?_); refine t_draw rfl (by kernel_rfl) ?_)
    | (with_reducible refine WD.done _ ?_)
    | (with_reducible refine wdp_done ?_)
    | (with_reducible refine tr_some ?_)
    | ((fail_if_success with_reducible refine t_bl ?_); (with_reducible refine t_block ?_))
    | (with_reducible refine t_inBlock ?_)
    | ((with_reducible refine t_isExit ?_); refine t_exit rfl ?_)
    | simp only [decide_eq_true_eq, decide_eq_false_iff_not, Bool.not_eq_true', Bool.not_eq_false'] at *
    | simp (disch := omega) only [go_sem, Nat.reduceLT, Nat.reduceEqDiff, Nat.reduceAdd, Nat.reduceLeDiff, Nat.reduceMul, Int.reduceLT, Int.reduceLE, Int.reduceAdd, Int.reduceSub, Int.reduceNeg, Int.reduceToNat, Int.reduceBEq, Int.reduceEq, reduceCtorEq, List.take_succ_cons, List.take_zero, List.take_nil, List.drop_succ_cons, List.drop_nil, List.cons_append, List.nil_append, List.set_cons_zero, List.set_cons_succ, ↓reduceIte, *]
    | (with_reducible refine tb_true ?_)
    | (with_reducible refine tb_false ?_)
    | (with_reducible refine tb_split (fun _ => ?_) (fun _ => ?_))
    | (with_reducible refine wg_f (fun _ => ?_) (fun _ => ?_))
    | (with_reducible refine wg_t (fun _ => ?_) (fun _ => ?_))
    | (with_reducible refine wd_f (fun _ => ?_) (fun _ => ?_))
    | (with_reducible refine wd_t (fun _ => ?_) (fun _ => ?_))
  all_goals first | (exfalso; omega) | exact ⟨rfl, rfl⟩ | skip
def strR (L : List (List UInt8)) : List (List AV) := L.map fun s => [AV.s s]
theorem strR_len (L : List (List UInt8)) : (strR L).length = L.length := by simp [strR]
theorem strR_get {L : List (List UInt8)} {i : Nat} (h : i < L.length) : (strR L)[i]? = some [.s (L.getD i [])] := by
  simp [strR, h, List.getD]
/-- The lengths of the first texts. -/
def sl (L : List (List UInt8)) : Nat → Nat
  | 0 => 0
  | i + 1 => sl L i + (L.getD i []).length
/-- The first texts, joined. -/
def jn (sep : List UInt8) (L : List (List UInt8)) : Nat → List UInt8
  | 0 => L.getD 0 []
  | i + 1 => jn sep L i ++ sep ++ L.getD (i + 1) []
theorem sl_mono (L : List (List UInt8)) (i : Nat) : ∀ k, sl L i ≤ sl L (i + k)
  | 0 => Nat.le_refl _
  | k + 1 => by have := sl_mono L i k; show sl L i ≤ sl L (i + k) + _; omega
theorem jn_len (sep : List UInt8) (L : List (List UInt8)) : ∀ i, (jn sep L i).length = sl L (i + 1) + i * sep.length
  | 0 => by simp [jn, sl]
  | i + 1 => by
    have h := jn_len sep L i
    have e : sl L (i + 1 + 1) = sl L (i + 1) + (L.getD (i + 1) []).length := rfl
    have e2 : (i + 1) * sep.length = i * sep.length + sep.length := Nat.succ_mul ..
    show (jn sep L i ++ sep ++ L.getD (i + 1) []).length = _
    rw [List.length_append, List.length_append, h, e, e2]
    omega
def joinS (sep : List UInt8) (L : List (List UInt8)) : List UInt8 := if L = [] then [] else jn sep L (L.length - 1)
set_option maxRecDepth 100000 in
set_option maxHeartbeats 4000000 in
theorem joinP {sep : List UInt8} {L : List (List UInt8)} (hs : sep.length = 1) (hk : L.length ≤ 100000) (hb : sl L L.length ≤ 1000000000) : MeetsP Tryz.prog (glT m) 43 [.isl true 1 (strR L), .s sep] (.s (joinS sep L)) := by
  have hdr := strR_len L
  have hget := fun i h => strR_get (L := L) (i := i) h
  have hsl : ∀ i, i ≤ L.length → sl L i ≤ 1000000000 := fun i hi => by
    have := sl_mono L i (L.length - i)
    rw [show i + (L.length - i) = L.length by omega] at this
    omega
  have hjl := jn_len sep L
  unfold joinS
  by_cases h0 : L.length = 0
  · have : L = [] := List.length_eq_zero_iff.1 h0
    rw [if_pos this]
    subst this
    generalize strR [] = R at *
    rw [h0] at hdr
    refine meetsP (E := (EW m)) 75 [.tmp 4] (ew m) Tryz.func43 rfl (by decide) rfl rfl (by simp) ?_
    repeat' first
      | (with_reducible refine t_seq ?_)
      | (with_reducible refine t_skip ?_)
      | (with_reducible refine t_ret ?_)
      | (with_reducible refine t_end ?_)
      | (with_reducible refine t_cond ?_)
      | (with_reducible refine t_region ?_)
      | (with_reducible refine wr_done ?_)
      | ((with_reducible refine t_isDraw ?_); refine t_draw rfl (by kernel_rfl) ?_)
      | (with_reducible refine WD.done _ ?_)
      | (with_reducible refine wdp_done ?_)
      | (with_reducible refine tr_some ?_)
      | ((fail_if_success with_reducible refine t_bl ?_); (with_reducible refine t_block ?_))
      | (with_reducible refine t_inBlock ?_)
      | ((with_reducible refine t_isExit ?_); refine t_exit rfl ?_)
      | simp only [decide_eq_true_eq, decide_eq_false_iff_not, Bool.not_eq_true', Bool.not_eq_false'] at *
      | simp (disch := omega) only [go_sem, Nat.reduceLT, Nat.reduceEqDiff, Nat.reduceAdd, Nat.reduceLeDiff, Nat.reduceMul, Int.reduceLT, Int.reduceLE, Int.reduceAdd, Int.reduceSub, Int.reduceNeg, Int.reduceToNat, Int.reduceBEq, Int.reduceEq, reduceCtorEq, List.take_succ_cons, List.take_zero, List.take_nil, List.drop_succ_cons, List.drop_nil, List.cons_append, List.nil_append, List.set_cons_zero, List.set_cons_succ, ↓reduceIte, *]
      | (with_reducible refine tb_true ?_)
      | (with_reducible refine tb_false ?_)
      | (with_reducible refine tb_split (fun _ => ?_) (fun _ => ?_))
      | (with_reducible refine wg_f (fun _ => ?_) (fun _ => ?_))
      | (with_reducible refine wg_t (fun _ => ?_) (fun _ => ?_))
      | (with_reducible refine wd_f (fun _ => ?_) (fun _ => ?_))
      | (with_reducible refine wd_t (fun _ => ?_) (fun _ => ?_))
    all_goals first | (exfalso; omega) | exact ⟨rfl, rfl⟩
  rw [if_neg (fun q => h0 (by rw [q]; rfl))]
  by_cases h1 : L.length = 1
  · have hg := hget 0 (by omega)
    rw [h1]
    unfold jn
    generalize strR L = R at *
    rw [h1] at hdr
    clear hget hsl hjl
    refine meetsP (E := (EW m)) 75 [.tmp 4] (ew m) Tryz.func43 rfl (by decide) rfl rfl (by simp) ?_
    repeat' first
      | (with_reducible refine t_seq ?_)
      | (with_reducible refine t_skip ?_)
      | (with_reducible refine t_ret ?_)
      | (with_reducible refine t_end ?_)
      | (with_reducible refine t_cond ?_)
      | (with_reducible refine t_region ?_)
      | (with_reducible refine wr_done ?_)
      | ((with_reducible refine t_isDraw ?_); refine t_draw rfl (by kernel_rfl) ?_)
      | (with_reducible refine WD.done _ ?_)
      | (with_reducible refine wdp_done ?_)
      | (with_reducible refine tr_some ?_)
      | ((fail_if_success with_reducible refine t_bl ?_); (with_reducible refine t_block ?_))
      | (with_reducible refine t_inBlock ?_)
      | ((with_reducible refine t_isExit ?_); refine t_exit rfl ?_)
      | simp only [decide_eq_true_eq, decide_eq_false_iff_not, Bool.not_eq_true', Bool.not_eq_false'] at *
      | simp (disch := omega) only [go_sem, Nat.reduceLT, Nat.reduceEqDiff, Nat.reduceAdd, Nat.reduceLeDiff, Nat.reduceMul, Int.reduceLT, Int.reduceLE, Int.reduceAdd, Int.reduceSub, Int.reduceNeg, Int.reduceToNat, Int.reduceBEq, Int.reduceEq, reduceCtorEq, List.take_succ_cons, List.take_zero, List.take_nil, List.drop_succ_cons, List.drop_nil, List.cons_append, List.nil_append, List.set_cons_zero, List.set_cons_succ, ↓reduceIte, *]
      | (with_reducible refine tb_true ?_)
      | (with_reducible refine tb_false ?_)
      | (with_reducible refine tb_split (fun _ => ?_) (fun _ => ?_))
      | (with_reducible refine wg_f (fun _ => ?_) (fun _ => ?_))
      | (with_reducible refine wg_t (fun _ => ?_) (fun _ => ?_))
      | (with_reducible refine wd_f (fun _ => ?_) (fun _ => ?_))
      | (with_reducible refine wd_t (fun _ => ?_) (fun _ => ?_))
    all_goals first | (exfalso; omega) | exact ⟨rfl, rfl⟩
  have hd1 : ¬ (L.length : Int) - 1 = 0 := by omega
  have hq : ¬ (9223372036854775807 : Int).tdiv ((L.length : Int) - 1) ≤ 1 := by
    rw [Int.tdiv_eq_ediv_of_nonneg (by omega)]
    intro q
    have := (Int.le_ediv_iff_mul_le (a := 2) (b := 9223372036854775807) (c := (L.length : Int) - 1) (by omega)).2 (by omega)
    omega
  have hq2 : IntKind.i64.wrap ((9223372036854775807 : Int).tdiv ((L.length : Int) - 1)) = (9223372036854775807 : Int).tdiv ((L.length : Int) - 1) := by
    refine w64 ?_ ?_
    · rw [Int.tdiv_eq_ediv_of_nonneg (by omega)]
      have := Int.ediv_nonneg (a := 9223372036854775807) (b := (L.length : Int) - 1) (by omega) (by omega)
      omega
    · rw [Int.tdiv_eq_ediv_of_nonneg (by omega)]
      exact Int.ediv_le_self _ (by omega)
  have hRR : ∀ i, i + 1 < L.length → ((strR L).drop 1)[i]? = some [.s (L.getD (i + 1) [])] := fun i hi => by
    rw [List.getElem?_drop, Nat.add_comm 1 i]; exact hget (i + 1) hi
  have hRl : ((strR L).drop 1).length = L.length - 1 := by rw [List.length_drop, hdr]
  have hT : List.drop 1 (List.take L.length (strR L)) = (strR L).drop 1 := by rw [List.take_of_length_le (by omega)]
  generalize hR1 : (strR L).drop 1 = R1 at *
  generalize strR L = R at *
  generalize hK : L.length = K at *
  refine meetsP (E := (EW m)) 75 [.tmp 4] (ew m) Tryz.func43 rfl (by decide) rfl rfl (by simp) ?_
  repeat' first
    | (with_reducible refine t_seq ?_)
    | (with_reducible refine t_skip ?_)
    | (with_reducible refine t_ret ?_)
    | (with_reducible refine t_end ?_)
    | (with_reducible refine t_cond ?_)
    | (with_reducible refine t_region ?_)
    | (with_reducible refine wr_done ?_)
    | ((with_reducible refine t_isDraw ?_); refine t_draw rfl (by kernel_rfl) ?_)
    | (with_reducible refine WD.done _ ?_)
    | (with_reducible refine wdp_done ?_)
    | (with_reducible refine tr_some ?_)
    | ((fail_if_success with_reducible refine t_bl ?_); (with_reducible refine t_block ?_))
    | (with_reducible refine t_inBlock ?_)
    | ((with_reducible refine t_isExit ?_); refine t_exit rfl ?_)
    | simp only [decide_eq_true_eq, decide_eq_false_iff_not, Bool.not_eq_true', Bool.not_eq_false'] at *
    | simp (disch := omega) only [go_sem, Nat.reduceLT, Nat.reduceEqDiff, Nat.reduceAdd, Nat.reduceLeDiff, Nat.reduceMul, Int.reduceLT, Int.reduceLE, Int.reduceAdd, Int.reduceSub, Int.reduceNeg, Int.reduceToNat, Int.reduceBEq, Int.reduceEq, reduceCtorEq, List.take_succ_cons, List.take_zero, List.take_nil, List.drop_succ_cons, List.drop_nil, List.cons_append, List.nil_append, List.set_cons_zero, List.set_cons_succ, ↓reduceIte, *]
    | (with_reducible refine tb_true ?_)
    | (with_reducible refine tb_false ?_)
    | (with_reducible refine tb_split (fun _ => ?_) (fun _ => ?_))
    | (with_reducible refine wg_f (fun _ => ?_) (fun _ => ?_))
    | (with_reducible refine wg_t (fun _ => ?_) (fun _ => ?_))
    | (with_reducible refine wd_f (fun _ => ?_) (fun _ => ?_))
    | (with_reducible refine wd_t (fun _ => ?_) (fun _ => ?_))
  all_goals first | (exfalso; omega) | skip
  have hK2 : 2 ≤ K := by omega
  refine t_while (I := fun (i : Nat) t h => i ≤ K ∧ h = ⟨[], 0⟩ ∧ get t 0 = .isl true 1 R ∧ get t 1 = .s sep ∧ get t 39 = .isl true 1 R ∧ get t 40 = .i .i64 K ∧ get t 41 = .i .i64 i ∧ get t 5 = .i .i64 ((K : Int) - 1 + sl L i)) (m := fun i => K - i)
    (J := fun t h => h = ⟨[], 0⟩ ∧ get t 0 = .isl true 1 R ∧ get t 1 = .s sep ∧ get t 5 = .i .i64 ((K : Int) - 1 + sl L K)) 0 ⟨by omega, rfl, by simp [get], by simp [get], by simp [get], by simp [get], by simp [get], by simp [get, sl]⟩ ?_ ?_
  · rintro i t h ⟨hi, rfl, g0, g1, g39, g40, g41, g5⟩ hrec hex
    by_cases hiK : i = K
    · subst hiK
      clear hget hRR
      repeat' first
        | refine hex _ _ ?_
        | (with_reducible refine t_seq ?_)
        | (with_reducible refine t_skip ?_)
        | (with_reducible refine t_ret ?_)
        | (with_reducible refine t_end ?_)
        | (with_reducible refine t_cond ?_)
        | (with_reducible refine t_region ?_)
        | (with_reducible refine wr_done ?_)
        | ((with_reducible refine t_isDraw ?_); refine t_draw rfl (by kernel_rfl) ?_)
        | (with_reducible refine WD.done _ ?_)
        | (with_reducible refine wdp_done ?_)
        | (with_reducible refine tr_some ?_)
        | ((fail_if_success with_reducible refine t_bl ?_); (with_reducible refine t_block ?_))
        | (with_reducible refine t_inBlock ?_)
        | ((with_reducible refine t_isExit ?_); refine t_exit rfl ?_)
        | simp only [decide_eq_true_eq, decide_eq_false_iff_not, Bool.not_eq_true', Bool.not_eq_false'] at *
        | simp (disch := omega) only [go_sem, Nat.reduceLT, Nat.reduceEqDiff, Nat.reduceAdd, Nat.reduceLeDiff, Nat.reduceMul, Int.reduceLT, Int.reduceLE, Int.reduceAdd, Int.reduceSub, Int.reduceNeg, Int.reduceToNat, Int.reduceBEq, Int.reduceEq, reduceCtorEq, List.take_succ_cons, List.take_zero, List.take_nil, List.drop_succ_cons, List.drop_nil, List.cons_append, List.nil_append, List.set_cons_zero, List.set_cons_succ, ↓reduceIte, *]
        | (with_reducible refine tb_true ?_)
        | (with_reducible refine tb_false ?_)
        | (with_reducible refine tb_split (fun _ => ?_) (fun _ => ?_))
        | (with_reducible refine wg_f (fun _ => ?_) (fun _ => ?_))
        | (with_reducible refine wg_t (fun _ => ?_) (fun _ => ?_))
        | (with_reducible refine wd_f (fun _ => ?_) (fun _ => ?_))
        | (with_reducible refine wd_t (fun _ => ?_) (fun _ => ?_))
      all_goals first | (exfalso; omega) | simp [get, g0, g1, g39, g40, g41, g5]
    · have hg := hget i (by omega)
      have b1 := hsl (i + 1) (by omega)
      have e1 : sl L (i + 1) = sl L i + (L.getD i []).length := rfl
      generalize L.getD i [] = x at *
      clear hget hRR hsl
      repeat' first
        | (with_reducible refine t_seq ?_)
        | (with_reducible refine t_skip ?_)
        | (with_reducible refine t_ret ?_)
        | (with_reducible refine t_end ?_)
        | (with_reducible refine t_cond ?_)
        | (with_reducible refine t_region ?_)
        | (with_reducible refine wr_done ?_)
        | ((with_reducible refine t_isDraw ?_); refine t_draw rfl (by kernel_rfl) ?_)
        | (with_reducible refine WD.done _ ?_)
        | (with_reducible refine wdp_done ?_)
        | (with_reducible refine tr_some ?_)
        | ((fail_if_success with_reducible refine t_bl ?_); (with_reducible refine t_block ?_))
        | (with_reducible refine t_inBlock ?_)
        | ((with_reducible refine t_isExit ?_); refine t_exit rfl ?_)
        | simp only [decide_eq_true_eq, decide_eq_false_iff_not, Bool.not_eq_true', Bool.not_eq_false'] at *
        | simp (disch := omega) only [go_sem, Nat.reduceLT, Nat.reduceEqDiff, Nat.reduceAdd, Nat.reduceLeDiff, Nat.reduceMul, Int.reduceLT, Int.reduceLE, Int.reduceAdd, Int.reduceSub, Int.reduceNeg, Int.reduceToNat, Int.reduceBEq, Int.reduceEq, reduceCtorEq, List.take_succ_cons, List.take_zero, List.take_nil, List.drop_succ_cons, List.drop_nil, List.cons_append, List.nil_append, List.set_cons_zero, List.set_cons_succ, ↓reduceIte, *]
        | (with_reducible refine tb_true ?_)
        | (with_reducible refine tb_false ?_)
        | (with_reducible refine tb_split (fun _ => ?_) (fun _ => ?_))
        | (with_reducible refine wg_f (fun _ => ?_) (fun _ => ?_))
        | (with_reducible refine wg_t (fun _ => ?_) (fun _ => ?_))
        | (with_reducible refine wd_f (fun _ => ?_) (fun _ => ?_))
        | (with_reducible refine wd_t (fun _ => ?_) (fun _ => ?_))
      all_goals first | (exfalso; omega) | skip
      all_goals exact hrec (i + 1) _ _ ⟨by omega, rfl, by simp [get, g0], by simp [get, g1], by simp [get, g39], by simp [get, g40], by simp [get], by simp [get, e1]; omega⟩ (by omega)
  rintro t h ⟨rfl, g0, g1, g5⟩
  have bK := hsl K (by omega)
  have hN : (K : Int) - 1 + sl L K = ((K - 1 + sl L K : Nat) : Int) := by omega
  rw [hN] at g5
  have hG : MeetsH (EW m) 62 [.ptr 0 0 0, .i .i64 ((K - 1 + sl L K : Nat) : Int)] ⟨[(0, .tr 115 2 [[.np, .nils]])], 1⟩ (Is (.ret (.tup [])) (bldH 1 2 [])) :=
    growH (E := EW m) rfl (c := [(0, .tr 115 2 [[.np, .nils]])]) (id := 0) (m := 1) (n := K - 1 + sl L K) (by omega) (by omega) (by omega) rfl rfl
  have hg0 := hget 0 (by omega)
  have hw1 := writeH (m := m) (l := []) (s := L.getD 0 []) (g := 1) (n := 2) (by omega) (by omega) (by
    have b1 := hsl 1 (by omega)
    have e1 : sl L 1 = sl L 0 + (L.getD 0 []).length := rfl
    simp only [List.length_nil]; omega)
  rw [List.nil_append] at hw1
  unfold bldH at hG hw1
  generalize ((K - 1 + sl L K : Nat) : Int) = NN at *
  repeat' first
    | ((with_reducible refine wr_isCall ?_); refine wr_ret hG ?_)
    | ((with_reducible refine wr_isCall ?_); refine wr_ret hw1 ?_)
    | (with_reducible refine t_seq ?_)
    | (with_reducible refine t_skip ?_)
    | (with_reducible refine t_ret ?_)
    | (with_reducible refine t_end ?_)
    | (with_reducible refine t_cond ?_)
    | (with_reducible refine t_region ?_)
    | (with_reducible refine wr_done ?_)
    | ((with_reducible refine t_isDraw ?_); refine t_draw rfl (by kernel_rfl) ?_)
    | (with_reducible refine WD.done _ ?_)
    | (with_reducible refine wdp_done ?_)
    | (with_reducible refine tr_some ?_)
    | ((fail_if_success with_reducible refine t_bl ?_); (with_reducible refine t_block ?_))
    | (with_reducible refine t_inBlock ?_)
    | ((with_reducible refine t_isExit ?_); refine t_exit rfl ?_)
    | simp only [decide_eq_true_eq, decide_eq_false_iff_not, Bool.not_eq_true', Bool.not_eq_false'] at *
    | simp (disch := omega) only [go_sem, Nat.reduceLT, Nat.reduceEqDiff, Nat.reduceAdd, Nat.reduceLeDiff, Nat.reduceMul, Int.reduceLT, Int.reduceLE, Int.reduceAdd, Int.reduceSub, Int.reduceNeg, Int.reduceToNat, Int.reduceBEq, Int.reduceEq, reduceCtorEq, List.take_succ_cons, List.take_zero, List.take_nil, List.drop_succ_cons, List.drop_nil, List.cons_append, List.nil_append, List.set_cons_zero, List.set_cons_succ, ↓reduceIte, *]
    | (with_reducible refine tb_true ?_)
    | (with_reducible refine tb_false ?_)
    | (with_reducible refine tb_split (fun _ => ?_) (fun _ => ?_))
    | (with_reducible refine wg_f (fun _ => ?_) (fun _ => ?_))
    | (with_reducible refine wg_t (fun _ => ?_) (fun _ => ?_))
    | (with_reducible refine wd_f (fun _ => ?_) (fun _ => ?_))
    | (with_reducible refine wd_t (fun _ => ?_) (fun _ => ?_))
  all_goals first | (exfalso; omega) | skip
  refine t_while (I := fun (i : Nat) t h => i ≤ K - 1 ∧ (∃ g n, g ≠ 0 ∧ g < n ∧ h = bldH g n (jn sep L i)) ∧ get t 1 = .s sep ∧ get t 8 = .ptr 0 0 0 ∧ get t 63 = .isl true 1 R1 ∧ get t 64 = .i .i64 ((K - 1 : Nat) : Int) ∧ get t 65 = .i .i64 i) (m := fun i => K - 1 - i)
    (J := fun t h => (∃ g n, g ≠ 0 ∧ g < n ∧ h = bldH g n (jn sep L (K - 1))) ∧ get t 8 = .ptr 0 0 0) 0 ⟨by omega, ⟨2, 3, by omega, by omega, rfl⟩, by simp [get, g1], by simp [get], by simp [get], by simp [get, hRl], by simp [get]⟩ ?_ ?_
  · rintro i t h ⟨hi, ⟨g, n, hg, hgn, rfl⟩, g1, g8, g63, g64, g65⟩ hrec hex
    by_cases hiK : i = K - 1
    · subst hiK
      clear hget hRR hw1 hG hjl
      unfold bldH at *
      repeat' first
        | refine hex _ _ ?_
        | (with_reducible refine t_seq ?_)
        | (with_reducible refine t_skip ?_)
        | (with_reducible refine t_ret ?_)
        | (with_reducible refine t_end ?_)
        | (with_reducible refine t_cond ?_)
        | (with_reducible refine t_region ?_)
        | (with_reducible refine wr_done ?_)
        | ((with_reducible refine t_isDraw ?_); refine t_draw rfl (by kernel_rfl) ?_)
        | (with_reducible refine WD.done _ ?_)
        | (with_reducible refine wdp_done ?_)
        | (with_reducible refine tr_some ?_)
        | ((fail_if_success with_reducible refine t_bl ?_); (with_reducible refine t_block ?_))
        | (with_reducible refine t_inBlock ?_)
        | ((with_reducible refine t_isExit ?_); refine t_exit rfl ?_)
        | simp only [decide_eq_true_eq, decide_eq_false_iff_not, Bool.not_eq_true', Bool.not_eq_false'] at *
        | simp (disch := omega) only [go_sem, Nat.reduceLT, Nat.reduceEqDiff, Nat.reduceAdd, Nat.reduceLeDiff, Nat.reduceMul, Int.reduceLT, Int.reduceLE, Int.reduceAdd, Int.reduceSub, Int.reduceNeg, Int.reduceToNat, Int.reduceBEq, Int.reduceEq, reduceCtorEq, List.take_succ_cons, List.take_zero, List.take_nil, List.drop_succ_cons, List.drop_nil, List.cons_append, List.nil_append, List.set_cons_zero, List.set_cons_succ, ↓reduceIte, *]
        | (with_reducible refine tb_true ?_)
        | (with_reducible refine tb_false ?_)
        | (with_reducible refine tb_split (fun _ => ?_) (fun _ => ?_))
        | (with_reducible refine wg_f (fun _ => ?_) (fun _ => ?_))
        | (with_reducible refine wg_t (fun _ => ?_) (fun _ => ?_))
        | (with_reducible refine wd_f (fun _ => ?_) (fun _ => ?_))
        | (with_reducible refine wd_t (fun _ => ?_) (fun _ => ?_))
      all_goals first | (exfalso; omega) | skip
      all_goals first | exact ⟨⟨g, n, hg, hgn, rfl⟩, by simp [get, g8]⟩ | exact ⟨g, n, hg, hgn, rfl⟩ | exact ⟨g, hg, hgn, rfl⟩
    · have hgx := hRR i (by omega)
      have b1 := hsl (i + 1) (by omega)
      have b2 := hsl (i + 1 + 1) (by omega)
      have e1 : sl L (i + 1 + 1) = sl L (i + 1) + (L.getD (i + 1) []).length := rfl
      have e2 := hjl i
      have e3 : jn sep L (i + 1) = jn sep L i ++ sep ++ L.getD (i + 1) [] := rfl
      rw [hs, Nat.mul_one] at e2
      have w1 := writeH (m := m) (l := jn sep L i) (s := sep) (g := g) (n := n) hg hgn (by omega)
      have w2 := writeH (m := m) (l := jn sep L i ++ sep) (s := L.getD (i + 1) []) (g := n) (n := n + 1) (by omega) (by omega) (by rw [List.length_append]; omega)
      rw [← e3] at w2
      have hlt : (i : Int) < ((K - 1 : Nat) : Int) := by omega
      have n0 : ¬ n = 0 := by omega
      generalize L.getD (i + 1) [] = x at *
      clear hget hRR hsl hw1 hG e3 e2 hjl
      unfold bldH at *
      repeat' first
        | ((with_reducible refine wr_isCall ?_); refine wr_ret w1 ?_)
        | ((with_reducible refine wr_isCall ?_); refine wr_ret w2 ?_)
        | (with_reducible refine t_seq ?_)
        | (with_reducible refine t_skip ?_)
        | (with_reducible refine t_ret ?_)
        | (with_reducible refine t_end ?_)
        | (with_reducible refine t_cond ?_)
        | (with_reducible refine t_region ?_)
        | (with_reducible refine wr_done ?_)
        | ((with_reducible refine t_isDraw ?_); refine t_draw rfl (by kernel_rfl) ?_)
        | (with_reducible refine WD.done _ ?_)
        | (with_reducible refine wdp_done ?_)
        | (with_reducible refine tr_some ?_)
        | ((fail_if_success with_reducible refine t_bl ?_); (with_reducible refine t_block ?_))
        | (with_reducible refine t_inBlock ?_)
        | ((with_reducible refine t_isExit ?_); refine t_exit rfl ?_)
        | simp only [decide_eq_true_eq, decide_eq_false_iff_not, Bool.not_eq_true', Bool.not_eq_false'] at *
        | simp (disch := omega) only [go_sem, Nat.reduceLT, Nat.reduceEqDiff, Nat.reduceAdd, Nat.reduceLeDiff, Nat.reduceMul, Int.reduceLT, Int.reduceLE, Int.reduceAdd, Int.reduceSub, Int.reduceNeg, Int.reduceToNat, Int.reduceBEq, Int.reduceEq, reduceCtorEq, List.take_succ_cons, List.take_zero, List.take_nil, List.drop_succ_cons, List.drop_nil, List.cons_append, List.nil_append, List.set_cons_zero, List.set_cons_succ, ↓reduceIte, *]
        | (with_reducible refine tb_true ?_)
        | (with_reducible refine tb_false ?_)
        | (with_reducible refine tb_split (fun _ => ?_) (fun _ => ?_))
        | (with_reducible refine wg_f (fun _ => ?_) (fun _ => ?_))
        | (with_reducible refine wg_t (fun _ => ?_) (fun _ => ?_))
        | (with_reducible refine wd_f (fun _ => ?_) (fun _ => ?_))
        | (with_reducible refine wd_t (fun _ => ?_) (fun _ => ?_))
      all_goals first | (exfalso; omega) | skip
      all_goals exact hrec (i + 1) _ _ ⟨by omega, ⟨n + 1, n + 1 + 1, by omega, by omega, rfl⟩, by simp [get, g1], by simp [get, g8], by simp [get, g63], by simp [get, g64], by simp [get]⟩ (by omega)
  rintro t h ⟨⟨g, n, hg, hgn, rfl⟩, g8⟩
  have e2 := hjl (K - 1)
  rw [hs, Nat.mul_one, show K - 1 + 1 = K by omega] at e2
  have hne : jn sep L (K - 1) ≠ [] := fun q => by rw [q] at e2; simp at e2; omega
  have hS := stringH (E := EW m) rfl (c := (bldH g n (jn sep L (K - 1))).c) (id := 0) (idb := g) (m := n) (a := .ptr 0 0 0) hne (by omega) (by simp [tyOf, hg, Ent.ty]) (by simp [look, hg, Ent.plain]) (by simp [tyOf, Ent.ty]) (by simp [look, Ent.plain])
  clear hget hRR hsl hw1 hG e2 hjl
  unfold bldH at *
  repeat' first
    | ((with_reducible refine wr_isCall ?_); refine wr_ret hS ?_)
    | (with_reducible refine t_seq ?_)
    | (with_reducible refine t_skip ?_)
    | (with_reducible refine t_ret ?_)
    | (with_reducible refine t_end ?_)
    | (with_reducible refine t_cond ?_)
    | (with_reducible refine t_region ?_)
    | (with_reducible refine wr_done ?_)
    | ((with_reducible refine t_isDraw ?_); refine t_draw rfl (by kernel_rfl) ?_)
    | (with_reducible refine WD.done _ ?_)
    | (with_reducible refine wdp_done ?_)
    | (with_reducible refine tr_some ?_)
    | ((fail_if_success with_reducible refine t_bl ?_); (with_reducible refine t_block ?_))
    | (with_reducible refine t_inBlock ?_)
    | ((with_reducible refine t_isExit ?_); refine t_exit rfl ?_)
    | simp only [decide_eq_true_eq, decide_eq_false_iff_not, Bool.not_eq_true', Bool.not_eq_false'] at *
    | simp (disch := omega) only [go_sem, Nat.reduceLT, Nat.reduceEqDiff, Nat.reduceAdd, Nat.reduceLeDiff, Nat.reduceMul, Int.reduceLT, Int.reduceLE, Int.reduceAdd, Int.reduceSub, Int.reduceNeg, Int.reduceToNat, Int.reduceBEq, Int.reduceEq, reduceCtorEq, List.take_succ_cons, List.take_zero, List.take_nil, List.drop_succ_cons, List.drop_nil, List.cons_append, List.nil_append, List.set_cons_zero, List.set_cons_succ, ↓reduceIte, *]
    | (with_reducible refine tb_true ?_)
    | (with_reducible refine tb_false ?_)
    | (with_reducible refine tb_split (fun _ => ?_) (fun _ => ?_))
    | (with_reducible refine wg_f (fun _ => ?_) (fun _ => ?_))
    | (with_reducible refine wg_t (fun _ => ?_) (fun _ => ?_))
    | (with_reducible refine wd_f (fun _ => ?_) (fun _ => ?_))
    | (with_reducible refine wd_t (fun _ => ?_) (fun _ => ?_))
  all_goals first | (exfalso; omega) | exact ⟨rfl, rfl⟩ | skip
end Go.Proofs.YtkokongbnemkhaaGreatDoorA
/- strings.Split. -/
set_option linter.unusedVariables false
set_option linter.unusedSimpArgs false
namespace Go.Proofs.YtkokongbnemkhaaGreatDoorA
open Go Go.RowKit Go.Proofs.YtkokongbnemkhaaGreatDoorFx Go.Proofs
variable {m : Int}
section
variable {gl : Nat → Option (List AV)}
theorem splitBP {k : Int} (hm : gl 8 = some [.i .i64 k]) {a b : List UInt8} (ha : a.length < 4294967281) (hb : 1 ≤ b.length) :
    MeetsP Tryz.prog gl 44 [.s a, .s b] (.isl true 1 (strR (Lib.split a b))) := by
  refine ⟨⟨_, Tryz.func44, rfl, by decide⟩, fun ok w vals hg hlt hl hr => ?_⟩
  obtain ⟨x, y, rfl, r0, r1⟩ := args2 hl hr
  cases r0 with
  | s _ s => cases r1 with
    | s _ t =>
    refine (Tryz.strings_Split s t k w (by rw [size_str]; omega) (glob_int hg hm) (by rw [size_str]; omega)).mono ?_
    rintro e w' ⟨rfl, rfl⟩
    have hL : strR (Lib.split s.data.toList t.data.toList) = (Lib.splitB t 0 (Lib.countB s t) s).map fun x => [AV.s x.data.toList] := by
      unfold strR Lib.split
      rw [show Lib.count s.data.toList t.data.toList = Lib.countB s t from rfl, ← Lib.splitB_data, List.map_map]; rfl
    have hlen : (Lib.splitB t 0 (Lib.countB s t) s).length = Lib.countB s t + 1 := Lib.splitB_all t (by rw [size_str]; omega) 0 _ s rfl
    rw [hL, ← hlen]
    generalize Lib.splitB t 0 (Lib.countB s t) s = L
    have hB : Below w.heap.size w (w.alloc (.cells (L.map Value.string).toArray 9)) := (Below.refl _ _).alloc (Nat.le_refl _) _
    have hheap : (w.alloc (.cells (L.map Value.string).toArray 9)).heap[w.heap.size]? = some (.cells (L.map Value.string).toArray 9 (0, 0)) := by
      rw [show (w.alloc (.cells (L.map Value.string).toArray 9)).heap = w.heap.push (.cells (L.map Value.string).toArray 9) from rfl]
      simp
    refine ⟨_, fun b i => ok b i ∨ b = w.heap.size, rfl, hB, fun b i q1 q2 => ?_, fun b i q => .inl q, fun b i q => ?_, ?_⟩
    · rcases q2 with q2 | q2
      · exact q2
      · omega
    · have := hB.size
      rcases q with q | q
      · have := hlt b i q; omega
      · subst q; simp
    · refine .isl _ true 1 _ _ w.heap.size 0 L.length (fun i _ => ((L.map Value.string)[i]?).getD undef) (by simp) (by simp) (fun row hrow => ?_) (fun i row hi j hj => ?_) (fun i row hi j b hb => ?_)
      · obtain ⟨l, _, rfl⟩ := List.mem_map.1 hrow; rfl
      · rw [List.getElem?_map] at hi
        cases hl' : L[i]? with
        | none => rw [hl'] at hi; cases hi
        | some l =>
          rw [hl'] at hi
          cases hi
          have : j = 0 := by simpa using hj
          subst this
          refine ⟨?_, .inr rfl, ?_⟩
          · rw [cell_of_row _ _ _ _ _ _ hheap]; simp [hl']
          · simp [hl']; rfl
      · rw [List.getElem?_map] at hi
        cases hl' : L[i]? with
        | none => rw [hl'] at hi; cases hi
        | some l =>
          rw [hl'] at hi
          cases hi
          have : j = 0 := by
            have := lt_of_get hb
            simpa using this
          subst this
          cases hb
          simp [hl']
          exact .s _ _
end
theorem strSplitP {L : List (List UInt8)} {c : UInt8} (hL : L ≠ []) (h : ∀ x ∈ L, c ∉ x) (hl : (jl c L).length < 4294967281) : MeetsP Tryz.prog (glT m) 44 [.s (jl c L), .s [c]] (.isl true 1 (strR L)) := by
  have := splitBP (gl := glT m) (k := m) rfl (a := jl c L) (b := [c]) hl (by simp)
  rwa [split_jl hL h] at this
end Go.Proofs.YtkokongbnemkhaaGreatDoorA
