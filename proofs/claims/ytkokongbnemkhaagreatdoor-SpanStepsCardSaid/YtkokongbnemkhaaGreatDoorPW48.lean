/- span.Text. -/
import Derived.Test.YtkokongbnemkhaaGreatDoorNU
import Derived.Test.YtkokongbnemkhaaGreatDoorND
set_option linter.unusedVariables false
set_option linter.unusedSimpArgs false
namespace Go.Proofs.YtkokongbnemkhaaGreatDoorA
open Go Go.RowKit Go.Proofs.YtkokongbnemkhaaGreatDoorFx Go.Proofs
variable {m : Int}
@[go_sem] theorem cast4 : ((4 : Nat) : Int) = 4 := rfl
def durV (a b c d : Int) : Nat → Int
  | 0 => a
  | 1 => b
  | 2 => c
  | _ => d
def unitS : Nat → List UInt8
  | 0 => [121]
  | 1 => [109]
  | 2 => [100]
  | _ => [109, 115]
/-- The first words of a duration. -/
def durL (v : Nat → Int) : Nat → List (List UInt8)
  | 0 => []
  | i + 1 => durL v i ++ (if v i = 0 then [] else [Lib.itoa (v i) ++ unitS i])
def durT (v : Nat → Int) : List UInt8 := if durL v 4 = [] then [48, 100] else jl 32 (durL v 4)
theorem durL_len (v : Nat → Int) : ∀ i, (durL v i).length ≤ i
  | 0 => Nat.le_refl _
  | i + 1 => by
    have := durL_len v i
    unfold durL
    split <;> simp <;> omega
theorem durL_mem {v : Nat → Int} (hv : ∀ i, (v i).natAbs < 10 ^ 16) : ∀ {i : Nat} {x : List UInt8}, x ∈ durL v i → ∃ k, k < i ∧ v k ≠ 0 ∧ x = Lib.itoa (v k) ++ unitS k ∧ x.length ≤ 20
  | 0, x, h => by cases h
  | i + 1, x, h => by
    unfold durL at h
    rcases List.mem_append.1 h with q | q
    · obtain ⟨k, h1, h2⟩ := durL_mem hv q
      exact ⟨k, by omega, h2⟩
    · split at q
      · cases q
      · rename_i hne
        have : x = Lib.itoa (v i) ++ unitS i := by simpa using q
        subst this
        refine ⟨i, by omega, hne, rfl, ?_⟩
        have h1 := itoa_len (n := v i) (k := 15) (hv i)
        have h2 : (unitS i).length ≤ 2 := by unfold unitS; split <;> simp
        rw [List.length_append]; omega
theorem sl_le {L : List (List UInt8)} {B : Nat} (h : ∀ x ∈ L, x.length ≤ B) : ∀ i, sl L i ≤ i * B
  | 0 => by simp [sl]
  | i + 1 => by
    have h1 := sl_le h i
    have h2 : (L.getD i []).length ≤ B := by
      rcases Nat.lt_or_ge i L.length with q | q
      · rw [List.getD_eq_getElem?_getD, List.getElem?_eq_getElem q, Option.getD_some]; exact h _ (List.getElem_mem q)
      · rw [List.getD_eq_getElem?_getD, List.getElem?_eq_none q]; simp
    unfold sl
    rw [Nat.succ_mul]; omega
theorem jn_cons (c : UInt8) (x : List UInt8) (L : List (List UInt8)) : ∀ i, jn [c] (x :: L) (i + 1) = x ++ c :: jn [c] L i
  | 0 => by simp [jn, List.getD]
  | i + 1 => by
    have h := jn_cons c x L i
    show jn [c] (x :: L) (i + 1) ++ [c] ++ (x :: L).getD (i + 2) [] = x ++ c :: (jn [c] L i ++ [c] ++ L.getD (i + 1) [])
    rw [h]; simp [List.getD]
theorem jn_jl (c : UInt8) : ∀ {L : List (List UInt8)}, L ≠ [] → jn [c] L (L.length - 1) = jl c L
  | [], h => absurd rfl h
  | [x], _ => by simp [jn, jl, List.getD]
  | x :: y :: r, _ => by
    have h := jn_jl c (L := y :: r) (by simp)
    show jn [c] (x :: y :: r) ((y :: r).length - 1 + 1) = x ++ c :: jl c (y :: r)
    rw [jn_cons, h]
theorem joinL {c : UInt8} {L : List (List UInt8)} (h0 : L ≠ []) (hk : L.length ≤ 100000) (hb : ∀ x ∈ L, x.length ≤ 1000) : MeetsP Tryz.prog (glT m) 43 [.isl true 1 (strR L), .s [c]] (.s (jl c L)) := by
  have h := joinP (m := m) (sep := [c]) (L := L) rfl hk (by have := sl_le hb L.length; omega)
  unfold joinS at h
  rw [if_neg h0, jn_jl c h0] at h
  exact h
/-- A list of texts that grows by append: nil, or an own block. -/
def LsB (b : Nat) (l : List (List UInt8)) (n : Nat) (e : AV) (L : List (Nat × Ent)) : Prop := (l = [] ∧ e = .nils ∧ L = []) ∨ ∃ id, l ≠ [] ∧ b ≤ id ∧ id < n ∧ e = .osl id 0 l.length ∧ L = [(id, .rows 1 (strR l))]
theorem strR_snoc (l : List (List UInt8)) (x : List UInt8) : strR l ++ [[.s x]] = strR (l ++ [x]) := by simp [strR]
theorem fz_strs {h : Hp} {id d : Nat} {l : List (List UInt8)} (hl : look h.c id = some (.rows 1 (strR l))) : fz h (d + 2) (.osl id 0 l.length) = .isl true 1 (strR l) := by
  have e : (strR l).map (fun row => row.map (fz h (d + 1))) = strR l := by simp [strR, List.map_map, fz]
  have e2 : (strR l).length = l.length := strR_len l
  unfold fz
  simp only [hl]
  rw [List.drop_zero, List.take_of_length_le (by omega), e]
  rw [if_pos ⟨by omega, by simp [strR, noid]⟩]
set_option maxRecDepth 100000 in
set_option maxHeartbeats 8000000 in
theorem spanTextP {a b c d : Int} (hin : inLen a b c d) : MeetsP Tryz.prog (glT m) 22 [durA a b c d] (.tup [.s (durT (durV a b c d)), .i .i64 0]) := by
  have hk := spanCheckP (m := m) a b c d
  rw [if_pos hin] at hk
  obtain ⟨⟨i1, i2⟩, ⟨i3, i4⟩, ⟨i5, i6⟩, ⟨i7, i8⟩⟩ := hin
  have ha := itoaP (gl := glT m) rfl (n := a) (by omega) (by omega)
  have hb := itoaP (gl := glT m) rfl (n := b) (by omega) (by omega)
  have hc := itoaP (gl := glT m) rfl (n := c) (by omega) (by omega)
  have hd := itoaP (gl := glT m) rfl (n := d) (by omega) (by omega)
  have la := itoa_len (n := a) (k := 15) (by omega)
  have lb := itoa_len (n := b) (k := 15) (by omega)
  have lc := itoa_len (n := c) (k := 15) (by omega)
  have ld := itoa_len (n := d) (k := 15) (by omega)
  obtain ⟨inf, hif, hib⟩ : ∃ i, Tryz.prog.info? 9 = some i ∧ i.bytes = 16 := by
    obtain ⟨i, h1, h2⟩ := Option.map_eq_some_iff.1 (show (Tryz.prog.info? 9).map (·.bytes) = some 16 by kernel_rfl)
    exact ⟨i, h1, h2⟩
  have hvb : ∀ i, (durV a b c d i).natAbs < 10 ^ 16 := fun i => by unfold durV; split <;> omega
  have hmem := fun x (h : x ∈ durL (durV a b c d) 4) => durL_mem hvb h
  have hlen := durL_len (durV a b c d)
  have s0 : durL (durV a b c d) 0 = [] := rfl
  have s1 : durL (durV a b c d) (0 + 1) = durL (durV a b c d) 0 ++ (if a = 0 then [] else [Lib.itoa a ++ [121]]) := rfl
  have s2 : durL (durV a b c d) (1 + 1) = durL (durV a b c d) 1 ++ (if b = 0 then [] else [Lib.itoa b ++ [109]]) := rfl
  have s3 : durL (durV a b c d) (2 + 1) = durL (durV a b c d) 2 ++ (if c = 0 then [] else [Lib.itoa c ++ [100]]) := rfl
  have s4 : durL (durV a b c d) (3 + 1) = durL (durV a b c d) 3 ++ (if d = 0 then [] else [Lib.itoa d ++ [109, 115]]) := rfl
  unfold durT
  generalize durL (durV a b c d) = DL at *
  generalize hTT : (if DL 4 = [] then [48, 100] else jl 32 (DL 4)) = TT
  clear hvb
  unfold durA at *
  clear i1 i2 i3 i4 i5 i6 i7 i8
  refine meetsP (E := (EW m)) 42 [.tmp 2, .tmp 3] (ew m) Tryz.func22 rfl (by decide) rfl rfl (by simp) ?_
  repeat' first
    | ((with_reducible refine wr_isCall ?_); refine wr_P hk rfl ?_)
    | (with_reducible refine t_seq ?_)
    | (with_reducible refine t_skip ?_)
    | (with_reducible refine t_ret ?_)
    | (with_reducible refine t_end ?_)
    | (with_reducible refine t_cond ?_)
    | (with_reducible refine t_region ?_)
    | (with_reducible refine wr_done ?_)
    | ((with_reducible refine t_isDraw ?_); refine t_draw rfl (by kernel_rfl) ?_)
    | (with_reducible refine WD.done _ ?_)
    | (with_reducible refine wdp_done ?_)
    | (with_reducible refine tr_some ?_)
    | ((fail_if_success with_reducible refine t_bl ?_); (with_reducible refine t_block ?_))
    | (with_reducible refine t_inBlock ?_)
    | ((with_reducible refine t_isExit ?_); refine t_exit rfl ?_)
    | simp only [decide_eq_true_eq, decide_eq_false_iff_not, Bool.not_eq_true', Bool.not_eq_false'] at *
    | simp (disch := omega) only [go_sem, Nat.reduceLT, Nat.reduceEqDiff, Nat.reduceAdd, Nat.reduceLeDiff, Nat.reduceMul, Int.reduceLT, Int.reduceLE, Int.reduceAdd, Int.reduceSub, Int.reduceNeg, Int.reduceToNat, Int.reduceBEq, Int.reduceEq, reduceCtorEq, List.take_succ_cons, List.take_zero, List.take_nil, List.drop_succ_cons, List.drop_nil, List.cons_append, List.nil_append, List.set_cons_zero, List.set_cons_succ, ↓reduceIte, *]
    | (with_reducible refine tb_true ?_)
    | (with_reducible refine tb_false ?_)
    | (with_reducible refine tb_split (fun _ => ?_) (fun _ => ?_))
    | (with_reducible refine wg_f (fun _ => ?_) (fun _ => ?_))
    | (with_reducible refine wg_t (fun _ => ?_) (fun _ => ?_))
    | (with_reducible refine wd_f (fun _ => ?_) (fun _ => ?_))
    | (with_reducible refine wd_t (fun _ => ?_) (fun _ => ?_))
  all_goals first | (exfalso; omega) | skip
  refine t_while (I := fun (i : Nat) t h => i ≤ 4 ∧ (∃ n e L, 1 ≤ n ∧ LsB 1 (DL i) n e L ∧ h = ⟨L ++ [(0, .rows 4 [[.i .i64 a, .i .i64 b, .i .i64 c, .i .i64 d]])], n⟩ ∧ get t 5 = e) ∧ get t 1 = .ptr 0 0 0 ∧ get t 21 = .agg [.i .i64 a, .i .i64 b, .i .i64 c, .i .i64 d] ∧ get t 22 = .i .i64 i) (m := fun i => 4 - i)
    (J := fun t h => ∃ n e L, 1 ≤ n ∧ LsB 1 (DL 4) n e L ∧ h = ⟨L ++ [(0, .rows 4 [[.i .i64 a, .i .i64 b, .i .i64 c, .i .i64 d]])], n⟩ ∧ get t 5 = e) 0
    ⟨by omega, ⟨1, .nils, [], by omega, .inl ⟨s0, rfl, rfl⟩, rfl, by simp [get]⟩, by simp [get], by simp [get], by simp [get]⟩ ?_ ?_
  · rintro i t h ⟨hi, ⟨n, e, L, hn, hLs, rfl, g5⟩, g1, g21, g22⟩ hrec hex
    have hn0 : ¬ n = 0 := by omega
    have hn1 : ¬ n + 1 = 0 := by omega
    obtain rfl | rfl | rfl | rfl | rfl : i = 0 ∨ i = 1 ∨ i = 2 ∨ i = 3 ∨ i = 4 := by omega
    · rw [show ((0 : Nat) : Int) = 0 from rfl] at g22
      have hl := hlen 0
      by_cases hz : a = 0
      · subst hz
        rw [if_pos rfl, List.append_nil] at s1
        rw [← s1] at hLs
        rcases hLs with ⟨z1, rfl, rfl⟩ | ⟨id, z0, z1, z2, rfl, rfl⟩
        · simp only [List.nil_append] at *
          clear hb hc hd s0 s2 s3 s4 hk hmem hTT hlen ha s1
          repeat' first
            | (with_reducible refine t_seq ?_)
            | (with_reducible refine t_skip ?_)
            | (with_reducible refine t_ret ?_)
            | (with_reducible refine t_end ?_)
            | (with_reducible refine t_cond ?_)
            | (with_reducible refine t_region ?_)
            | (with_reducible refine wr_done ?_)
            | ((with_reducible refine t_isDraw ?_); refine t_draw rfl (by kernel_rfl) ?_)
            | (with_reducible refine WD.done _ ?_)
            | (with_reducible refine wdp_done ?_)
            | (with_reducible refine tr_some ?_)
            | ((fail_if_success with_reducible refine t_bl ?_); (with_reducible refine t_block ?_))
            | (with_reducible refine t_inBlock ?_)
            | ((with_reducible refine t_isExit ?_); refine t_exit rfl ?_)
            | simp only [decide_eq_true_eq, decide_eq_false_iff_not, Bool.not_eq_true', Bool.not_eq_false'] at *
            | simp (disch := omega) only [go_sem, Nat.reduceLT, Nat.reduceEqDiff, Nat.reduceAdd, Nat.reduceLeDiff, Nat.reduceMul, Int.reduceLT, Int.reduceLE, Int.reduceAdd, Int.reduceSub, Int.reduceNeg, Int.reduceToNat, Int.reduceBEq, Int.reduceEq, reduceCtorEq, List.take_succ_cons, List.take_zero, List.take_nil, List.drop_succ_cons, List.drop_nil, List.cons_append, List.nil_append, List.set_cons_zero, List.set_cons_succ, ↓reduceIte, *]
            | (with_reducible refine tb_true ?_)
            | (with_reducible refine tb_false ?_)
            | (with_reducible refine tb_split (fun _ => ?_) (fun _ => ?_))
            | (with_reducible refine wg_f (fun _ => ?_) (fun _ => ?_))
            | (with_reducible refine wg_t (fun _ => ?_) (fun _ => ?_))
            | (with_reducible refine wd_f (fun _ => ?_) (fun _ => ?_))
            | (with_reducible refine wd_t (fun _ => ?_) (fun _ => ?_))
          all_goals first | (exfalso; omega) | (exfalso; simp_all; done) | skip
          all_goals exact hrec 1 _ _ ⟨by omega, ⟨n, .nils, [], hn, .inl ⟨z1, rfl, rfl⟩, rfl, by simp [get, g5]⟩, by simp [get, g1], by simp [get, g21], by simp [get]⟩ (by omega)
        · have hid0 : ¬ id = 0 := by omega
          simp only [List.cons_append, List.nil_append] at *
          clear hb hc hd s0 s2 s3 s4 hk hmem hTT hlen ha s1
          repeat' first
            | (with_reducible refine t_seq ?_)
            | (with_reducible refine t_skip ?_)
            | (with_reducible refine t_ret ?_)
            | (with_reducible refine t_end ?_)
            | (with_reducible refine t_cond ?_)
            | (with_reducible refine t_region ?_)
            | (with_reducible refine wr_done ?_)
            | ((with_reducible refine t_isDraw ?_); refine t_draw rfl (by kernel_rfl) ?_)
            | (with_reducible refine WD.done _ ?_)
            | (with_reducible refine wdp_done ?_)
            | (with_reducible refine tr_some ?_)
            | ((fail_if_success with_reducible refine t_bl ?_); (with_reducible refine t_block ?_))
            | (with_reducible refine t_inBlock ?_)
            | ((with_reducible refine t_isExit ?_); refine t_exit rfl ?_)
            | simp only [decide_eq_true_eq, decide_eq_false_iff_not, Bool.not_eq_true', Bool.not_eq_false'] at *
            | simp (disch := omega) only [go_sem, Nat.reduceLT, Nat.reduceEqDiff, Nat.reduceAdd, Nat.reduceLeDiff, Nat.reduceMul, Int.reduceLT, Int.reduceLE, Int.reduceAdd, Int.reduceSub, Int.reduceNeg, Int.reduceToNat, Int.reduceBEq, Int.reduceEq, reduceCtorEq, List.take_succ_cons, List.take_zero, List.take_nil, List.drop_succ_cons, List.drop_nil, List.cons_append, List.nil_append, List.set_cons_zero, List.set_cons_succ, ↓reduceIte, *]
            | (with_reducible refine tb_true ?_)
            | (with_reducible refine tb_false ?_)
            | (with_reducible refine tb_split (fun _ => ?_) (fun _ => ?_))
            | (with_reducible refine wg_f (fun _ => ?_) (fun _ => ?_))
            | (with_reducible refine wg_t (fun _ => ?_) (fun _ => ?_))
            | (with_reducible refine wd_f (fun _ => ?_) (fun _ => ?_))
            | (with_reducible refine wd_t (fun _ => ?_) (fun _ => ?_))
          all_goals first | (exfalso; omega) | (exfalso; simp_all; done) | exact hrec 1 _ _ ⟨by omega, ⟨n, _, _, hn, .inr ⟨id, z0, z1, z2, rfl, rfl⟩, rfl, by simp [get, g5]⟩, by simp [get, g1], by simp [get, g21], by simp [get]⟩ (by omega)
      · rw [if_neg hz] at s1
        have hw : strA .add (Lib.itoa a) [121] = some (.s (Lib.itoa a ++ [121])) := str_add (by have := la; simp; omega)
        generalize Lib.itoa a = w at *
        rcases hLs with ⟨z1, rfl, rfl⟩ | ⟨id, z0, z1, z2, rfl, rfl⟩
        · rw [z1] at s1
          simp only [List.nil_append] at *
          clear hb hc hd s0 s2 s3 s4 hk hmem hTT hlen
          repeat' first
            | ((with_reducible refine t_isDraw ?_); refine t_draw1 ha (by kernel_rfl) ?_)
            | (with_reducible refine t_seq ?_)
            | (with_reducible refine t_skip ?_)
            | (with_reducible refine t_ret ?_)
            | (with_reducible refine t_end ?_)
            | (with_reducible refine t_cond ?_)
            | (with_reducible refine t_region ?_)
            | (with_reducible refine wr_done ?_)
            | ((with_reducible refine t_isDraw ?_); refine t_draw rfl (by kernel_rfl) ?_)
            | (with_reducible refine WD.done _ ?_)
            | (with_reducible refine wdp_done ?_)
            | (with_reducible refine tr_some ?_)
            | ((fail_if_success with_reducible refine t_bl ?_); (with_reducible refine t_block ?_))
            | (with_reducible refine t_inBlock ?_)
            | ((with_reducible refine t_isExit ?_); refine t_exit rfl ?_)
            | simp only [decide_eq_true_eq, decide_eq_false_iff_not, Bool.not_eq_true', Bool.not_eq_false'] at *
            | simp (disch := omega) only [go_sem, Nat.reduceLT, Nat.reduceEqDiff, Nat.reduceAdd, Nat.reduceLeDiff, Nat.reduceMul, Int.reduceLT, Int.reduceLE, Int.reduceAdd, Int.reduceSub, Int.reduceNeg, Int.reduceToNat, Int.reduceBEq, Int.reduceEq, reduceCtorEq, List.take_succ_cons, List.take_zero, List.take_nil, List.drop_succ_cons, List.drop_nil, List.cons_append, List.nil_append, List.set_cons_zero, List.set_cons_succ, ↓reduceIte, *]
            | (with_reducible refine tb_true ?_)
            | (with_reducible refine tb_false ?_)
            | (with_reducible refine tb_split (fun _ => ?_) (fun _ => ?_))
            | (with_reducible refine wg_f (fun _ => ?_) (fun _ => ?_))
            | (with_reducible refine wg_t (fun _ => ?_) (fun _ => ?_))
            | (with_reducible refine wd_f (fun _ => ?_) (fun _ => ?_))
            | (with_reducible refine wd_t (fun _ => ?_) (fun _ => ?_))
          all_goals first | (exfalso; omega) | (exfalso; simp_all; done) | (refine t_fg (Sub.of_sublist (.cons_cons _ (.cons _ (List.Sublist.refl _))) (Nat.le_refl _)) ?_; exact hrec 1 _ _ ⟨by omega, ⟨n + 1 + 1, .osl (n + 1) 0 1, [(n + 1, .rows 1 [[.s (w ++ [121])]])], by omega, .inr ⟨n + 1, by rw [s1]; simp, by omega, by omega, by rw [s1]; rfl, by rw [s1]; rfl⟩, rfl, by simp [get]⟩, by simp [get, g1], by simp [get, g21], by simp [get]⟩ (by omega))
        · have hid0 : ¬ id = 0 := by omega
          have hidn : ¬ id = n := by omega
          have hnid : ¬ n = id := by omega
          have hbd : ((DL 0).length + 1) * 16 ≤ 70368744177664 := by omega
          have hR := strR_len (DL 0)
          have hR2 := strR_snoc (DL 0) (w ++ [121])
          rw [← s1] at hR2
          simp only [List.cons_append, List.nil_append] at *
          generalize strR (DL 0) = R at *
          clear hb hc hd s0 s2 s3 s4 hk hmem hTT hlen
          repeat' first
            | ((with_reducible refine t_isDraw ?_); refine t_draw1 ha (by kernel_rfl) ?_)
            | (with_reducible refine t_seq ?_)
            | (with_reducible refine t_skip ?_)
            | (with_reducible refine t_ret ?_)
            | (with_reducible refine t_end ?_)
            | (with_reducible refine t_cond ?_)
            | (with_reducible refine t_region ?_)
            | (with_reducible refine wr_done ?_)
            | ((with_reducible refine t_isDraw ?_); refine t_draw rfl (by kernel_rfl) ?_)
            | (with_reducible refine WD.done _ ?_)
            | (with_reducible refine wdp_done ?_)
            | (with_reducible refine tr_some ?_)
            | ((fail_if_success with_reducible refine t_bl ?_); (with_reducible refine t_block ?_))
            | (with_reducible refine t_inBlock ?_)
            | ((with_reducible refine t_isExit ?_); refine t_exit rfl ?_)
            | simp only [decide_eq_true_eq, decide_eq_false_iff_not, Bool.not_eq_true', Bool.not_eq_false'] at *
            | simp (disch := omega) only [go_sem, Nat.reduceLT, Nat.reduceEqDiff, Nat.reduceAdd, Nat.reduceLeDiff, Nat.reduceMul, Int.reduceLT, Int.reduceLE, Int.reduceAdd, Int.reduceSub, Int.reduceNeg, Int.reduceToNat, Int.reduceBEq, Int.reduceEq, reduceCtorEq, List.take_succ_cons, List.take_zero, List.take_nil, List.drop_succ_cons, List.drop_nil, List.cons_append, List.nil_append, List.set_cons_zero, List.set_cons_succ, ↓reduceIte, *]
            | (with_reducible refine tb_true ?_)
            | (with_reducible refine tb_false ?_)
            | (with_reducible refine tb_split (fun _ => ?_) (fun _ => ?_))
            | (with_reducible refine wg_f (fun _ => ?_) (fun _ => ?_))
            | (with_reducible refine wg_t (fun _ => ?_) (fun _ => ?_))
            | (with_reducible refine wd_f (fun _ => ?_) (fun _ => ?_))
            | (with_reducible refine wd_t (fun _ => ?_) (fun _ => ?_))
          all_goals first | (exfalso; omega) | (exfalso; simp_all; done) | (refine t_fg (Sub.of_sublist (.cons_cons _ (.cons _ (List.Sublist.refl _))) (Nat.le_refl _)) ?_; exact hrec 1 _ _ ⟨by omega, ⟨n + 1 + 1, .osl (n + 1) 0 ((DL 0).length + 1), [(n + 1, .rows 1 (strR (DL 0 ++ [w ++ [121]])))], by omega, .inr ⟨n + 1, by rw [s1]; simp, by omega, by omega, by rw [s1]; simp, by rw [s1]⟩, rfl, by simp [get]⟩, by simp [get, g1], by simp [get, g21], by simp [get]⟩ (by omega))
    · rw [show ((1 : Nat) : Int) = 1 from rfl] at g22
      have hl := hlen 1
      by_cases hz : b = 0
      · subst hz
        rw [if_pos rfl, List.append_nil] at s2
        rw [← s2] at hLs
        rcases hLs with ⟨z1, rfl, rfl⟩ | ⟨id, z0, z1, z2, rfl, rfl⟩
        · simp only [List.nil_append] at *
          clear ha hc hd s0 s1 s3 s4 hk hmem hTT hlen hb s2
          repeat' first
            | (with_reducible refine t_seq ?_)
            | (with_reducible refine t_skip ?_)
            | (with_reducible refine t_ret ?_)
            | (with_reducible refine t_end ?_)
            | (with_reducible refine t_cond ?_)
            | (with_reducible refine t_region ?_)
            | (with_reducible refine wr_done ?_)
            | ((with_reducible refine t_isDraw ?_); refine t_draw rfl (by kernel_rfl) ?_)
            | (with_reducible refine WD.done _ ?_)
            | (with_reducible refine wdp_done ?_)
            | (with_reducible refine tr_some ?_)
            | ((fail_if_success with_reducible refine t_bl ?_); (with_reducible refine t_block ?_))
            | (with_reducible refine t_inBlock ?_)
            | ((with_reducible refine t_isExit ?_); refine t_exit rfl ?_)
            | simp only [decide_eq_true_eq, decide_eq_false_iff_not, Bool.not_eq_true', Bool.not_eq_false'] at *
            | simp (disch := omega) only [go_sem, Nat.reduceLT, Nat.reduceEqDiff, Nat.reduceAdd, Nat.reduceLeDiff, Nat.reduceMul, Int.reduceLT, Int.reduceLE, Int.reduceAdd, Int.reduceSub, Int.reduceNeg, Int.reduceToNat, Int.reduceBEq, Int.reduceEq, reduceCtorEq, List.take_succ_cons, List.take_zero, List.take_nil, List.drop_succ_cons, List.drop_nil, List.cons_append, List.nil_append, List.set_cons_zero, List.set_cons_succ, ↓reduceIte, *]
            | (with_reducible refine tb_true ?_)
            | (with_reducible refine tb_false ?_)
            | (with_reducible refine tb_split (fun _ => ?_) (fun _ => ?_))
            | (with_reducible refine wg_f (fun _ => ?_) (fun _ => ?_))
            | (with_reducible refine wg_t (fun _ => ?_) (fun _ => ?_))
            | (with_reducible refine wd_f (fun _ => ?_) (fun _ => ?_))
            | (with_reducible refine wd_t (fun _ => ?_) (fun _ => ?_))
          all_goals first | (exfalso; omega) | (exfalso; simp_all; done) | skip
          all_goals exact hrec 2 _ _ ⟨by omega, ⟨n, .nils, [], hn, .inl ⟨z1, rfl, rfl⟩, rfl, by simp [get, g5]⟩, by simp [get, g1], by simp [get, g21], by simp [get]⟩ (by omega)
        · have hid0 : ¬ id = 0 := by omega
          simp only [List.cons_append, List.nil_append] at *
          clear ha hc hd s0 s1 s3 s4 hk hmem hTT hlen hb s2
          repeat' first
            | (with_reducible refine t_seq ?_)
            | (with_reducible refine t_skip ?_)
            | (with_reducible refine t_ret ?_)
            | (with_reducible refine t_end ?_)
            | (with_reducible refine t_cond ?_)
            | (with_reducible refine t_region ?_)
            | (with_reducible refine wr_done ?_)
            | ((with_reducible refine t_isDraw ?_); refine t_draw rfl (by kernel_rfl) ?_)
            | (with_reducible refine WD.done _ ?_)
            | (with_reducible refine wdp_done ?_)
            | (with_reducible refine tr_some ?_)
            | ((fail_if_success with_reducible refine t_bl ?_); (with_reducible refine t_block ?_))
            | (with_reducible refine t_inBlock ?_)
            | ((with_reducible refine t_isExit ?_); refine t_exit rfl ?_)
            | simp only [decide_eq_true_eq, decide_eq_false_iff_not, Bool.not_eq_true', Bool.not_eq_false'] at *
            | simp (disch := omega) only [go_sem, Nat.reduceLT, Nat.reduceEqDiff, Nat.reduceAdd, Nat.reduceLeDiff, Nat.reduceMul, Int.reduceLT, Int.reduceLE, Int.reduceAdd, Int.reduceSub, Int.reduceNeg, Int.reduceToNat, Int.reduceBEq, Int.reduceEq, reduceCtorEq, List.take_succ_cons, List.take_zero, List.take_nil, List.drop_succ_cons, List.drop_nil, List.cons_append, List.nil_append, List.set_cons_zero, List.set_cons_succ, ↓reduceIte, *]
            | (with_reducible refine tb_true ?_)
            | (with_reducible refine tb_false ?_)
            | (with_reducible refine tb_split (fun _ => ?_) (fun _ => ?_))
            | (with_reducible refine wg_f (fun _ => ?_) (fun _ => ?_))
            | (with_reducible refine wg_t (fun _ => ?_) (fun _ => ?_))
            | (with_reducible refine wd_f (fun _ => ?_) (fun _ => ?_))
            | (with_reducible refine wd_t (fun _ => ?_) (fun _ => ?_))
          all_goals first | (exfalso; omega) | (exfalso; simp_all; done) | exact hrec 2 _ _ ⟨by omega, ⟨n, _, _, hn, .inr ⟨id, z0, z1, z2, rfl, rfl⟩, rfl, by simp [get, g5]⟩, by simp [get, g1], by simp [get, g21], by simp [get]⟩ (by omega)
      · rw [if_neg hz] at s2
        have hw : strA .add (Lib.itoa b) [109] = some (.s (Lib.itoa b ++ [109])) := str_add (by have := lb; simp; omega)
        generalize Lib.itoa b = w at *
        rcases hLs with ⟨z1, rfl, rfl⟩ | ⟨id, z0, z1, z2, rfl, rfl⟩
        · rw [z1] at s2
          simp only [List.nil_append] at *
          clear ha hc hd s0 s1 s3 s4 hk hmem hTT hlen
          repeat' first
            | ((with_reducible refine t_isDraw ?_); refine t_draw1 hb (by kernel_rfl) ?_)
            | (with_reducible refine t_seq ?_)
            | (with_reducible refine t_skip ?_)
            | (with_reducible refine t_ret ?_)
            | (with_reducible refine t_end ?_)
            | (with_reducible refine t_cond ?_)
            | (with_reducible refine t_region ?_)
            | (with_reducible refine wr_done ?_)
            | ((with_reducible refine t_isDraw ?_); refine t_draw rfl (by kernel_rfl) ?_)
            | (with_reducible refine WD.done _ ?_)
            | (with_reducible refine wdp_done ?_)
            | (with_reducible refine tr_some ?_)
            | ((fail_if_success with_reducible refine t_bl ?_); (with_reducible refine t_block ?_))
            | (with_reducible refine t_inBlock ?_)
            | ((with_reducible refine t_isExit ?_); refine t_exit rfl ?_)
            | simp only [decide_eq_true_eq, decide_eq_false_iff_not, Bool.not_eq_true', Bool.not_eq_false'] at *
            | simp (disch := omega) only [go_sem, Nat.reduceLT, Nat.reduceEqDiff, Nat.reduceAdd, Nat.reduceLeDiff, Nat.reduceMul, Int.reduceLT, Int.reduceLE, Int.reduceAdd, Int.reduceSub, Int.reduceNeg, Int.reduceToNat, Int.reduceBEq, Int.reduceEq, reduceCtorEq, List.take_succ_cons, List.take_zero, List.take_nil, List.drop_succ_cons, List.drop_nil, List.cons_append, List.nil_append, List.set_cons_zero, List.set_cons_succ, ↓reduceIte, *]
            | (with_reducible refine tb_true ?_)
            | (with_reducible refine tb_false ?_)
            | (with_reducible refine tb_split (fun _ => ?_) (fun _ => ?_))
            | (with_reducible refine wg_f (fun _ => ?_) (fun _ => ?_))
            | (with_reducible refine wg_t (fun _ => ?_) (fun _ => ?_))
            | (with_reducible refine wd_f (fun _ => ?_) (fun _ => ?_))
            | (with_reducible refine wd_t (fun _ => ?_) (fun _ => ?_))
          all_goals first | (exfalso; omega) | (exfalso; simp_all; done) | (refine t_fg (Sub.of_sublist (.cons_cons _ (.cons _ (List.Sublist.refl _))) (Nat.le_refl _)) ?_; exact hrec 2 _ _ ⟨by omega, ⟨n + 1 + 1, .osl (n + 1) 0 1, [(n + 1, .rows 1 [[.s (w ++ [109])]])], by omega, .inr ⟨n + 1, by rw [s2]; simp, by omega, by omega, by rw [s2]; rfl, by rw [s2]; rfl⟩, rfl, by simp [get]⟩, by simp [get, g1], by simp [get, g21], by simp [get]⟩ (by omega))
        · have hid0 : ¬ id = 0 := by omega
          have hidn : ¬ id = n := by omega
          have hnid : ¬ n = id := by omega
          have hbd : ((DL 1).length + 1) * 16 ≤ 70368744177664 := by omega
          have hR := strR_len (DL 1)
          have hR2 := strR_snoc (DL 1) (w ++ [109])
          rw [← s2] at hR2
          simp only [List.cons_append, List.nil_append] at *
          generalize strR (DL 1) = R at *
          clear ha hc hd s0 s1 s3 s4 hk hmem hTT hlen
          repeat' first
            | ((with_reducible refine t_isDraw ?_); refine t_draw1 hb (by kernel_rfl) ?_)
            | (with_reducible refine t_seq ?_)
            | (with_reducible refine t_skip ?_)
            | (with_reducible refine t_ret ?_)
            | (with_reducible refine t_end ?_)
            | (with_reducible refine t_cond ?_)
            | (with_reducible refine t_region ?_)
            | (with_reducible refine wr_done ?_)
            | ((with_reducible refine t_isDraw ?_); refine t_draw rfl (by kernel_rfl) ?_)
            | (with_reducible refine WD.done _ ?_)
            | (with_reducible refine wdp_done ?_)
            | (with_reducible refine tr_some ?_)
            | ((fail_if_success with_reducible refine t_bl ?_); (with_reducible refine t_block ?_))
            | (with_reducible refine t_inBlock ?_)
            | ((with_reducible refine t_isExit ?_); refine t_exit rfl ?_)
            | simp only [decide_eq_true_eq, decide_eq_false_iff_not, Bool.not_eq_true', Bool.not_eq_false'] at *
            | simp (disch := omega) only [go_sem, Nat.reduceLT, Nat.reduceEqDiff, Nat.reduceAdd, Nat.reduceLeDiff, Nat.reduceMul, Int.reduceLT, Int.reduceLE, Int.reduceAdd, Int.reduceSub, Int.reduceNeg, Int.reduceToNat, Int.reduceBEq, Int.reduceEq, reduceCtorEq, List.take_succ_cons, List.take_zero, List.take_nil, List.drop_succ_cons, List.drop_nil, List.cons_append, List.nil_append, List.set_cons_zero, List.set_cons_succ, ↓reduceIte, *]
            | (with_reducible refine tb_true ?_)
            | (with_reducible refine tb_false ?_)
            | (with_reducible refine tb_split (fun _ => ?_) (fun _ => ?_))
            | (with_reducible refine wg_f (fun _ => ?_) (fun _ => ?_))
            | (with_reducible refine wg_t (fun _ => ?_) (fun _ => ?_))
            | (with_reducible refine wd_f (fun _ => ?_) (fun _ => ?_))
            | (with_reducible refine wd_t (fun _ => ?_) (fun _ => ?_))
          all_goals first | (exfalso; omega) | (exfalso; simp_all; done) | (refine t_fg (Sub.of_sublist (.cons_cons _ (.cons _ (List.Sublist.refl _))) (Nat.le_refl _)) ?_; exact hrec 2 _ _ ⟨by omega, ⟨n + 1 + 1, .osl (n + 1) 0 ((DL 1).length + 1), [(n + 1, .rows 1 (strR (DL 1 ++ [w ++ [109]])))], by omega, .inr ⟨n + 1, by rw [s2]; simp, by omega, by omega, by rw [s2]; simp, by rw [s2]⟩, rfl, by simp [get]⟩, by simp [get, g1], by simp [get, g21], by simp [get]⟩ (by omega))
    · rw [show ((2 : Nat) : Int) = 2 from rfl] at g22
      have hl := hlen 2
      by_cases hz : c = 0
      · subst hz
        rw [if_pos rfl, List.append_nil] at s3
        rw [← s3] at hLs
        rcases hLs with ⟨z1, rfl, rfl⟩ | ⟨id, z0, z1, z2, rfl, rfl⟩
        · simp only [List.nil_append] at *
          clear ha hb hd s0 s1 s2 s4 hk hmem hTT hlen hc s3
          repeat' first
            | (with_reducible refine t_seq ?_)
            | (with_reducible refine t_skip ?_)
            | (with_reducible refine t_ret ?_)
            | (with_reducible refine t_end ?_)
            | (with_reducible refine t_cond ?_)
            | (with_reducible refine t_region ?_)
            | (with_reducible refine wr_done ?_)
            | ((with_reducible refine t_isDraw ?_); refine t_draw rfl (by kernel_rfl) ?_)
            | (with_reducible refine WD.done _ ?_)
            | (with_reducible refine wdp_done ?_)
            | (with_reducible refine tr_some ?_)
            | ((fail_if_success with_reducible refine t_bl ?_); (with_reducible refine t_block ?_))
            | (with_reducible refine t_inBlock ?_)
            | ((with_reducible refine t_isExit ?_); refine t_exit rfl ?_)
            | simp only [decide_eq_true_eq, decide_eq_false_iff_not, Bool.not_eq_true', Bool.not_eq_false'] at *
            | simp (disch := omega) only [go_sem, Nat.reduceLT, Nat.reduceEqDiff, Nat.reduceAdd, Nat.reduceLeDiff, Nat.reduceMul, Int.reduceLT, Int.reduceLE, Int.reduceAdd, Int.reduceSub, Int.reduceNeg, Int.reduceToNat, Int.reduceBEq, Int.reduceEq, reduceCtorEq, List.take_succ_cons, List.take_zero, List.take_nil, List.drop_succ_cons, List.drop_nil, List.cons_append, List.nil_append, List.set_cons_zero, List.set_cons_succ, ↓reduceIte, *]
            | (with_reducible refine tb_true ?_)
            | (with_reducible refine tb_false ?_)
            | (with_reducible refine tb_split (fun _ => ?_) (fun _ => ?_))
            | (with_reducible refine wg_f (fun _ => ?_) (fun _ => ?_))
            | (with_reducible refine wg_t (fun _ => ?_) (fun _ => ?_))
            | (with_reducible refine wd_f (fun _ => ?_) (fun _ => ?_))
            | (with_reducible refine wd_t (fun _ => ?_) (fun _ => ?_))
          all_goals first | (exfalso; omega) | (exfalso; simp_all; done) | skip
          all_goals exact hrec 3 _ _ ⟨by omega, ⟨n, .nils, [], hn, .inl ⟨z1, rfl, rfl⟩, rfl, by simp [get, g5]⟩, by simp [get, g1], by simp [get, g21], by simp [get]⟩ (by omega)
        · have hid0 : ¬ id = 0 := by omega
          simp only [List.cons_append, List.nil_append] at *
          clear ha hb hd s0 s1 s2 s4 hk hmem hTT hlen hc s3
          repeat' first
            | (with_reducible refine t_seq ?_)
            | (with_reducible refine t_skip ?_)
            | (with_reducible refine t_ret ?_)
            | (with_reducible refine t_end ?_)
            | (with_reducible refine t_cond ?_)
            | (with_reducible refine t_region ?_)
            | (with_reducible refine wr_done ?_)
            | ((with_reducible refine t_isDraw ?_); refine t_draw rfl (by kernel_rfl) ?_)
            | (with_reducible refine WD.done _ ?_)
            | (with_reducible refine wdp_done ?_)
            | (with_reducible refine tr_some ?_)
            | ((fail_if_success with_reducible refine t_bl ?_); (with_reducible refine t_block ?_))
            | (with_reducible refine t_inBlock ?_)
            | ((with_reducible refine t_isExit ?_); refine t_exit rfl ?_)
            | simp only [decide_eq_true_eq, decide_eq_false_iff_not, Bool.not_eq_true', Bool.not_eq_false'] at *
            | simp (disch := omega) only [go_sem, Nat.reduceLT, Nat.reduceEqDiff, Nat.reduceAdd, Nat.reduceLeDiff, Nat.reduceMul, Int.reduceLT, Int.reduceLE, Int.reduceAdd, Int.reduceSub, Int.reduceNeg, Int.reduceToNat, Int.reduceBEq, Int.reduceEq, reduceCtorEq, List.take_succ_cons, List.take_zero, List.take_nil, List.drop_succ_cons, List.drop_nil, List.cons_append, List.nil_append, List.set_cons_zero, List.set_cons_succ, ↓reduceIte, *]
            | (with_reducible refine tb_true ?_)
            | (with_reducible refine tb_false ?_)
            | (with_reducible refine tb_split (fun _ => ?_) (fun _ => ?_))
            | (with_reducible refine wg_f (fun _ => ?_) (fun _ => ?_))
            | (with_reducible refine wg_t (fun _ => ?_) (fun _ => ?_))
            | (with_reducible refine wd_f (fun _ => ?_) (fun _ => ?_))
            | (with_reducible refine wd_t (fun _ => ?_) (fun _ => ?_))
          all_goals first | (exfalso; omega) | (exfalso; simp_all; done) | exact hrec 3 _ _ ⟨by omega, ⟨n, _, _, hn, .inr ⟨id, z0, z1, z2, rfl, rfl⟩, rfl, by simp [get, g5]⟩, by simp [get, g1], by simp [get, g21], by simp [get]⟩ (by omega)
      · rw [if_neg hz] at s3
        have hw : strA .add (Lib.itoa c) [100] = some (.s (Lib.itoa c ++ [100])) := str_add (by have := lc; simp; omega)
        generalize Lib.itoa c = w at *
        rcases hLs with ⟨z1, rfl, rfl⟩ | ⟨id, z0, z1, z2, rfl, rfl⟩
        · rw [z1] at s3
          simp only [List.nil_append] at *
          clear ha hb hd s0 s1 s2 s4 hk hmem hTT hlen
          repeat' first
            | ((with_reducible refine t_isDraw ?_); refine t_draw1 hc (by kernel_rfl) ?_)
            | (with_reducible refine t_seq ?_)
            | (with_reducible refine t_skip ?_)
            | (with_reducible refine t_ret ?_)
            | (with_reducible refine t_end ?_)
            | (with_reducible refine t_cond ?_)
            | (with_reducible refine t_region ?_)
            | (with_reducible refine wr_done ?_)
            | ((with_reducible refine t_isDraw ?_); refine t_draw rfl (by kernel_rfl) ?_)
            | (with_reducible refine WD.done _ ?_)
            | (with_reducible refine wdp_done ?_)
            | (with_reducible refine tr_some ?_)
            | ((fail_if_success with_reducible refine t_bl ?_); (with_reducible refine t_block ?_))
            | (with_reducible refine t_inBlock ?_)
            | ((with_reducible refine t_isExit ?_); refine t_exit rfl ?_)
            | simp only [decide_eq_true_eq, decide_eq_false_iff_not, Bool.not_eq_true', Bool.not_eq_false'] at *
            | simp (disch := omega) only [go_sem, Nat.reduceLT, Nat.reduceEqDiff, Nat.reduceAdd, Nat.reduceLeDiff, Nat.reduceMul, Int.reduceLT, Int.reduceLE, Int.reduceAdd, Int.reduceSub, Int.reduceNeg, Int.reduceToNat, Int.reduceBEq, Int.reduceEq, reduceCtorEq, List.take_succ_cons, List.take_zero, List.take_nil, List.drop_succ_cons, List.drop_nil, List.cons_append, List.nil_append, List.set_cons_zero, List.set_cons_succ, ↓reduceIte, *]
            | (with_reducible refine tb_true ?_)
            | (with_reducible refine tb_false ?_)
            | (with_reducible refine tb_split (fun _ => ?_) (fun _ => ?_))
            | (with_reducible refine wg_f (fun _ => ?_) (fun _ => ?_))
            | (with_reducible refine wg_t (fun _ => ?_) (fun _ => ?_))
            | (with_reducible refine wd_f (fun _ => ?_) (fun _ => ?_))
            | (with_reducible refine wd_t (fun _ => ?_) (fun _ => ?_))
          all_goals first | (exfalso; omega) | (exfalso; simp_all; done) | (refine t_fg (Sub.of_sublist (.cons_cons _ (.cons _ (List.Sublist.refl _))) (Nat.le_refl _)) ?_; exact hrec 3 _ _ ⟨by omega, ⟨n + 1 + 1, .osl (n + 1) 0 1, [(n + 1, .rows 1 [[.s (w ++ [100])]])], by omega, .inr ⟨n + 1, by rw [s3]; simp, by omega, by omega, by rw [s3]; rfl, by rw [s3]; rfl⟩, rfl, by simp [get]⟩, by simp [get, g1], by simp [get, g21], by simp [get]⟩ (by omega))
        · have hid0 : ¬ id = 0 := by omega
          have hidn : ¬ id = n := by omega
          have hnid : ¬ n = id := by omega
          have hbd : ((DL 2).length + 1) * 16 ≤ 70368744177664 := by omega
          have hR := strR_len (DL 2)
          have hR2 := strR_snoc (DL 2) (w ++ [100])
          rw [← s3] at hR2
          simp only [List.cons_append, List.nil_append] at *
          generalize strR (DL 2) = R at *
          clear ha hb hd s0 s1 s2 s4 hk hmem hTT hlen
          repeat' first
            | ((with_reducible refine t_isDraw ?_); refine t_draw1 hc (by kernel_rfl) ?_)
            | (with_reducible refine t_seq ?_)
            | (with_reducible refine t_skip ?_)
            | (with_reducible refine t_ret ?_)
            | (with_reducible refine t_end ?_)
            | (with_reducible refine t_cond ?_)
            | (with_reducible refine t_region ?_)
            | (with_reducible refine wr_done ?_)
            | ((with_reducible refine t_isDraw ?_); refine t_draw rfl (by kernel_rfl) ?_)
            | (with_reducible refine WD.done _ ?_)
            | (with_reducible refine wdp_done ?_)
            | (with_reducible refine tr_some ?_)
            | ((fail_if_success with_reducible refine t_bl ?_); (with_reducible refine t_block ?_))
            | (with_reducible refine t_inBlock ?_)
            | ((with_reducible refine t_isExit ?_); refine t_exit rfl ?_)
            | simp only [decide_eq_true_eq, decide_eq_false_iff_not, Bool.not_eq_true', Bool.not_eq_false'] at *
            | simp (disch := omega) only [go_sem, Nat.reduceLT, Nat.reduceEqDiff, Nat.reduceAdd, Nat.reduceLeDiff, Nat.reduceMul, Int.reduceLT, Int.reduceLE, Int.reduceAdd, Int.reduceSub, Int.reduceNeg, Int.reduceToNat, Int.reduceBEq, Int.reduceEq, reduceCtorEq, List.take_succ_cons, List.take_zero, List.take_nil, List.drop_succ_cons, List.drop_nil, List.cons_append, List.nil_append, List.set_cons_zero, List.set_cons_succ, ↓reduceIte, *]
            | (with_reducible refine tb_true ?_)
            | (with_reducible refine tb_false ?_)
            | (with_reducible refine tb_split (fun _ => ?_) (fun _ => ?_))
            | (with_reducible refine wg_f (fun _ => ?_) (fun _ => ?_))
            | (with_reducible refine wg_t (fun _ => ?_) (fun _ => ?_))
            | (with_reducible refine wd_f (fun _ => ?_) (fun _ => ?_))
            | (with_reducible refine wd_t (fun _ => ?_) (fun _ => ?_))
          all_goals first | (exfalso; omega) | (exfalso; simp_all; done) | (refine t_fg (Sub.of_sublist (.cons_cons _ (.cons _ (List.Sublist.refl _))) (Nat.le_refl _)) ?_; exact hrec 3 _ _ ⟨by omega, ⟨n + 1 + 1, .osl (n + 1) 0 ((DL 2).length + 1), [(n + 1, .rows 1 (strR (DL 2 ++ [w ++ [100]])))], by omega, .inr ⟨n + 1, by rw [s3]; simp, by omega, by omega, by rw [s3]; simp, by rw [s3]⟩, rfl, by simp [get]⟩, by simp [get, g1], by simp [get, g21], by simp [get]⟩ (by omega))
    · rw [show ((3 : Nat) : Int) = 3 from rfl] at g22
      have hl := hlen 3
      by_cases hz : d = 0
      · subst hz
        rw [if_pos rfl, List.append_nil] at s4
        rw [← s4] at hLs
        rcases hLs with ⟨z1, rfl, rfl⟩ | ⟨id, z0, z1, z2, rfl, rfl⟩
        · simp only [List.nil_append] at *
          clear ha hb hc s0 s1 s2 s3 hk hmem hTT hlen hd s4
          repeat' first
            | (with_reducible refine t_seq ?_)
            | (with_reducible refine t_skip ?_)
            | (with_reducible refine t_ret ?_)
            | (with_reducible refine t_end ?_)
            | (with_reducible refine t_cond ?_)
            | (with_reducible refine t_region ?_)
            | (with_reducible refine wr_done ?_)
            | ((with_reducible refine t_isDraw ?_); refine t_draw rfl (by kernel_rfl) ?_)
            | (with_reducible refine WD.done _ ?_)
            | (with_reducible refine wdp_done ?_)
            | (with_reducible refine tr_some ?_)
            | ((fail_if_success with_reducible refine t_bl ?_); (with_reducible refine t_block ?_))
            | (with_reducible refine t_inBlock ?_)
            | ((with_reducible refine t_isExit ?_); refine t_exit rfl ?_)
            | simp only [decide_eq_true_eq, decide_eq_false_iff_not, Bool.not_eq_true', Bool.not_eq_false'] at *
            | simp (disch := omega) only [go_sem, Nat.reduceLT, Nat.reduceEqDiff, Nat.reduceAdd, Nat.reduceLeDiff, Nat.reduceMul, Int.reduceLT, Int.reduceLE, Int.reduceAdd, Int.reduceSub, Int.reduceNeg, Int.reduceToNat, Int.reduceBEq, Int.reduceEq, reduceCtorEq, List.take_succ_cons, List.take_zero, List.take_nil, List.drop_succ_cons, List.drop_nil, List.cons_append, List.nil_append, List.set_cons_zero, List.set_cons_succ, ↓reduceIte, *]
            | (with_reducible refine tb_true ?_)
            | (with_reducible refine tb_false ?_)
            | (with_reducible refine tb_split (fun _ => ?_) (fun _ => ?_))
            | (with_reducible refine wg_f (fun _ => ?_) (fun _ => ?_))
            | (with_reducible refine wg_t (fun _ => ?_) (fun _ => ?_))
            | (with_reducible refine wd_f (fun _ => ?_) (fun _ => ?_))
            | (with_reducible refine wd_t (fun _ => ?_) (fun _ => ?_))
          all_goals first | (exfalso; omega) | (exfalso; simp_all; done) | skip
          all_goals exact hrec 4 _ _ ⟨by omega, ⟨n, .nils, [], hn, .inl ⟨z1, rfl, rfl⟩, rfl, by simp [get, g5]⟩, by simp [get, g1], by simp [get, g21], by simp [get]⟩ (by omega)
        · have hid0 : ¬ id = 0 := by omega
          simp only [List.cons_append, List.nil_append] at *
          clear ha hb hc s0 s1 s2 s3 hk hmem hTT hlen hd s4
          repeat' first
            | (with_reducible refine t_seq ?_)
            | (with_reducible refine t_skip ?_)
            | (with_reducible refine t_ret ?_)
            | (with_reducible refine t_end ?_)
            | (with_reducible refine t_cond ?_)
            | (with_reducible refine t_region ?_)
            | (with_reducible refine wr_done ?_)
            | ((with_reducible refine t_isDraw ?_); refine t_draw rfl (by kernel_rfl) ?_)
            | (with_reducible refine WD.done _ ?_)
            | (with_reducible refine wdp_done ?_)
            | (with_reducible refine tr_some ?_)
            | ((fail_if_success with_reducible refine t_bl ?_); (with_reducible refine t_block ?_))
            | (with_reducible refine t_inBlock ?_)
            | ((with_reducible refine t_isExit ?_); refine t_exit rfl ?_)
            | simp only [decide_eq_true_eq, decide_eq_false_iff_not, Bool.not_eq_true', Bool.not_eq_false'] at *
            | simp (disch := omega) only [go_sem, Nat.reduceLT, Nat.reduceEqDiff, Nat.reduceAdd, Nat.reduceLeDiff, Nat.reduceMul, Int.reduceLT, Int.reduceLE, Int.reduceAdd, Int.reduceSub, Int.reduceNeg, Int.reduceToNat, Int.reduceBEq, Int.reduceEq, reduceCtorEq, List.take_succ_cons, List.take_zero, List.take_nil, List.drop_succ_cons, List.drop_nil, List.cons_append, List.nil_append, List.set_cons_zero, List.set_cons_succ, ↓reduceIte, *]
            | (with_reducible refine tb_true ?_)
            | (with_reducible refine tb_false ?_)
            | (with_reducible refine tb_split (fun _ => ?_) (fun _ => ?_))
            | (with_reducible refine wg_f (fun _ => ?_) (fun _ => ?_))
            | (with_reducible refine wg_t (fun _ => ?_) (fun _ => ?_))
            | (with_reducible refine wd_f (fun _ => ?_) (fun _ => ?_))
            | (with_reducible refine wd_t (fun _ => ?_) (fun _ => ?_))
          all_goals first | (exfalso; omega) | (exfalso; simp_all; done) | exact hrec 4 _ _ ⟨by omega, ⟨n, _, _, hn, .inr ⟨id, z0, z1, z2, rfl, rfl⟩, rfl, by simp [get, g5]⟩, by simp [get, g1], by simp [get, g21], by simp [get]⟩ (by omega)
      · rw [if_neg hz] at s4
        have hw : strA .add (Lib.itoa d) [109, 115] = some (.s (Lib.itoa d ++ [109, 115])) := str_add (by have := ld; simp; omega)
        generalize Lib.itoa d = w at *
        rcases hLs with ⟨z1, rfl, rfl⟩ | ⟨id, z0, z1, z2, rfl, rfl⟩
        · rw [z1] at s4
          simp only [List.nil_append] at *
          clear ha hb hc s0 s1 s2 s3 hk hmem hTT hlen
          repeat' first
            | ((with_reducible refine t_isDraw ?_); refine t_draw1 hd (by kernel_rfl) ?_)
            | (with_reducible refine t_seq ?_)
            | (with_reducible refine t_skip ?_)
            | (with_reducible refine t_ret ?_)
            | (with_reducible refine t_end ?_)
            | (with_reducible refine t_cond ?_)
            | (with_reducible refine t_region ?_)
            | (with_reducible refine wr_done ?_)
            | ((with_reducible refine t_isDraw ?_); refine t_draw rfl (by kernel_rfl) ?_)
            | (with_reducible refine WD.done _ ?_)
            | (with_reducible refine wdp_done ?_)
            | (with_reducible refine tr_some ?_)
            | ((fail_if_success with_reducible refine t_bl ?_); (with_reducible refine t_block ?_))
            | (with_reducible refine t_inBlock ?_)
            | ((with_reducible refine t_isExit ?_); refine t_exit rfl ?_)
            | simp only [decide_eq_true_eq, decide_eq_false_iff_not, Bool.not_eq_true', Bool.not_eq_false'] at *
            | simp (disch := omega) only [go_sem, Nat.reduceLT, Nat.reduceEqDiff, Nat.reduceAdd, Nat.reduceLeDiff, Nat.reduceMul, Int.reduceLT, Int.reduceLE, Int.reduceAdd, Int.reduceSub, Int.reduceNeg, Int.reduceToNat, Int.reduceBEq, Int.reduceEq, reduceCtorEq, List.take_succ_cons, List.take_zero, List.take_nil, List.drop_succ_cons, List.drop_nil, List.cons_append, List.nil_append, List.set_cons_zero, List.set_cons_succ, ↓reduceIte, *]
            | (with_reducible refine tb_true ?_)
            | (with_reducible refine tb_false ?_)
            | (with_reducible refine tb_split (fun _ => ?_) (fun _ => ?_))
            | (with_reducible refine wg_f (fun _ => ?_) (fun _ => ?_))
            | (with_reducible refine wg_t (fun _ => ?_) (fun _ => ?_))
            | (with_reducible refine wd_f (fun _ => ?_) (fun _ => ?_))
            | (with_reducible refine wd_t (fun _ => ?_) (fun _ => ?_))
          all_goals first | (exfalso; omega) | (exfalso; simp_all; done) | (refine t_fg (Sub.of_sublist (.cons_cons _ (.cons _ (List.Sublist.refl _))) (Nat.le_refl _)) ?_; exact hrec 4 _ _ ⟨by omega, ⟨n + 1 + 1, .osl (n + 1) 0 1, [(n + 1, .rows 1 [[.s (w ++ [109, 115])]])], by omega, .inr ⟨n + 1, by rw [s4]; simp, by omega, by omega, by rw [s4]; rfl, by rw [s4]; rfl⟩, rfl, by simp [get]⟩, by simp [get, g1], by simp [get, g21], by simp [get]⟩ (by omega))
        · have hid0 : ¬ id = 0 := by omega
          have hidn : ¬ id = n := by omega
          have hnid : ¬ n = id := by omega
          have hbd : ((DL 3).length + 1) * 16 ≤ 70368744177664 := by omega
          have hR := strR_len (DL 3)
          have hR2 := strR_snoc (DL 3) (w ++ [109, 115])
          rw [← s4] at hR2
          simp only [List.cons_append, List.nil_append] at *
          generalize strR (DL 3) = R at *
          clear ha hb hc s0 s1 s2 s3 hk hmem hTT hlen
          repeat' first
            | ((with_reducible refine t_isDraw ?_); refine t_draw1 hd (by kernel_rfl) ?_)
            | (with_reducible refine t_seq ?_)
            | (with_reducible refine t_skip ?_)
            | (with_reducible refine t_ret ?_)
            | (with_reducible refine t_end ?_)
            | (with_reducible refine t_cond ?_)
            | (with_reducible refine t_region ?_)
            | (with_reducible refine wr_done ?_)
            | ((with_reducible refine t_isDraw ?_); refine t_draw rfl (by kernel_rfl) ?_)
            | (with_reducible refine WD.done _ ?_)
            | (with_reducible refine wdp_done ?_)
            | (with_reducible refine tr_some ?_)
            | ((fail_if_success with_reducible refine t_bl ?_); (with_reducible refine t_block ?_))
            | (with_reducible refine t_inBlock ?_)
            | ((with_reducible refine t_isExit ?_); refine t_exit rfl ?_)
            | simp only [decide_eq_true_eq, decide_eq_false_iff_not, Bool.not_eq_true', Bool.not_eq_false'] at *
            | simp (disch := omega) only [go_sem, Nat.reduceLT, Nat.reduceEqDiff, Nat.reduceAdd, Nat.reduceLeDiff, Nat.reduceMul, Int.reduceLT, Int.reduceLE, Int.reduceAdd, Int.reduceSub, Int.reduceNeg, Int.reduceToNat, Int.reduceBEq, Int.reduceEq, reduceCtorEq, List.take_succ_cons, List.take_zero, List.take_nil, List.drop_succ_cons, List.drop_nil, List.cons_append, List.nil_append, List.set_cons_zero, List.set_cons_succ, ↓reduceIte, *]
            | (with_reducible refine tb_true ?_)
            | (with_reducible refine tb_false ?_)
            | (with_reducible refine tb_split (fun _ => ?_) (fun _ => ?_))
            | (with_reducible refine wg_f (fun _ => ?_) (fun _ => ?_))
            | (with_reducible refine wg_t (fun _ => ?_) (fun _ => ?_))
            | (with_reducible refine wd_f (fun _ => ?_) (fun _ => ?_))
            | (with_reducible refine wd_t (fun _ => ?_) (fun _ => ?_))
          all_goals first | (exfalso; omega) | (exfalso; simp_all; done) | (refine t_fg (Sub.of_sublist (.cons_cons _ (.cons _ (List.Sublist.refl _))) (Nat.le_refl _)) ?_; exact hrec 4 _ _ ⟨by omega, ⟨n + 1 + 1, .osl (n + 1) 0 ((DL 3).length + 1), [(n + 1, .rows 1 (strR (DL 3 ++ [w ++ [109, 115]])))], by omega, .inr ⟨n + 1, by rw [s4]; simp, by omega, by omega, by rw [s4]; simp, by rw [s4]⟩, rfl, by simp [get]⟩, by simp [get, g1], by simp [get, g21], by simp [get]⟩ (by omega))
    · rw [show ((4 : Nat) : Int) = 4 from rfl] at g22
      clear ha hb hc hd s0 s1 s2 s3 s4 hk hmem hlen hTT
      repeat' first
        | refine hex _ _ ?_
        | (with_reducible refine t_seq ?_)
        | (with_reducible refine t_skip ?_)
        | (with_reducible refine t_ret ?_)
        | (with_reducible refine t_end ?_)
        | (with_reducible refine t_cond ?_)
        | (with_reducible refine t_region ?_)
        | (with_reducible refine wr_done ?_)
        | ((with_reducible refine t_isDraw ?_); refine t_draw rfl (by kernel_rfl) ?_)
        | (with_reducible refine WD.done _ ?_)
        | (with_reducible refine wdp_done ?_)
        | (with_reducible refine tr_some ?_)
        | ((fail_if_success with_reducible refine t_bl ?_); (with_reducible refine t_block ?_))
        | (with_reducible refine t_inBlock ?_)
        | ((with_reducible refine t_isExit ?_); refine t_exit rfl ?_)
        | simp only [decide_eq_true_eq, decide_eq_false_iff_not, Bool.not_eq_true', Bool.not_eq_false'] at *
        | simp (disch := omega) only [go_sem, Nat.reduceLT, Nat.reduceEqDiff, Nat.reduceAdd, Nat.reduceLeDiff, Nat.reduceMul, Int.reduceLT, Int.reduceLE, Int.reduceAdd, Int.reduceSub, Int.reduceNeg, Int.reduceToNat, Int.reduceBEq, Int.reduceEq, reduceCtorEq, List.take_succ_cons, List.take_zero, List.take_nil, List.drop_succ_cons, List.drop_nil, List.cons_append, List.nil_append, List.set_cons_zero, List.set_cons_succ, ↓reduceIte, *]
        | (with_reducible refine tb_true ?_)
        | (with_reducible refine tb_false ?_)
        | (with_reducible refine tb_split (fun _ => ?_) (fun _ => ?_))
        | (with_reducible refine wg_f (fun _ => ?_) (fun _ => ?_))
        | (with_reducible refine wg_t (fun _ => ?_) (fun _ => ?_))
        | (with_reducible refine wd_f (fun _ => ?_) (fun _ => ?_))
        | (with_reducible refine wd_t (fun _ => ?_) (fun _ => ?_))
      all_goals first | (exfalso; omega) | exact ⟨n, e, L, hn, hLs, rfl, by simp [get, g5]⟩
  rintro t h ⟨n, e, L, hn, hLs, rfl, g5⟩
  clear ha hb hc hd s0 s1 s2 s3 s4 hk
  have hl := hlen 4
  rcases hLs with ⟨z1, rfl, rfl⟩ | ⟨id, z0, z1, z2, rfl, rfl⟩
  · rw [if_pos z1] at hTT
    subst hTT
    clear hmem hlen z1
    simp only [List.nil_append] at *
    repeat' first
      | (with_reducible refine t_seq ?_)
      | (with_reducible refine t_skip ?_)
      | (with_reducible refine t_ret ?_)
      | (with_reducible refine t_end ?_)
      | (with_reducible refine t_cond ?_)
      | (with_reducible refine t_region ?_)
      | (with_reducible refine wr_done ?_)
      | ((with_reducible refine t_isDraw ?_); refine t_draw rfl (by kernel_rfl) ?_)
      | (with_reducible refine WD.done _ ?_)
      | (with_reducible refine wdp_done ?_)
      | (with_reducible refine tr_some ?_)
      | ((fail_if_success with_reducible refine t_bl ?_); (with_reducible refine t_block ?_))
      | (with_reducible refine t_inBlock ?_)
      | ((with_reducible refine t_isExit ?_); refine t_exit rfl ?_)
      | simp only [decide_eq_true_eq, decide_eq_false_iff_not, Bool.not_eq_true', Bool.not_eq_false'] at *
      | simp (disch := omega) only [go_sem, Nat.reduceLT, Nat.reduceEqDiff, Nat.reduceAdd, Nat.reduceLeDiff, Nat.reduceMul, Int.reduceLT, Int.reduceLE, Int.reduceAdd, Int.reduceSub, Int.reduceNeg, Int.reduceToNat, Int.reduceBEq, Int.reduceEq, reduceCtorEq, List.take_succ_cons, List.take_zero, List.take_nil, List.drop_succ_cons, List.drop_nil, List.cons_append, List.nil_append, List.set_cons_zero, List.set_cons_succ, ↓reduceIte, *]
      | (with_reducible refine tb_true ?_)
      | (with_reducible refine tb_false ?_)
      | (with_reducible refine tb_split (fun _ => ?_) (fun _ => ?_))
      | (with_reducible refine wg_f (fun _ => ?_) (fun _ => ?_))
      | (with_reducible refine wg_t (fun _ => ?_) (fun _ => ?_))
      | (with_reducible refine wd_f (fun _ => ?_) (fun _ => ?_))
      | (with_reducible refine wd_t (fun _ => ?_) (fun _ => ?_))
    all_goals first | (exfalso; omega) | exact ⟨rfl, rfl⟩
  · rw [if_neg z0] at hTT
    subst hTT
    have hj := joinL (m := m) (c := 32) z0 (by omega) (fun x hx => by obtain ⟨k, -, -, -, h⟩ := hmem x hx; omega)
    have hid0 : ¬ id = 0 := by omega
    have hez : [AV.osl id 0 (DL 4).length, .s [32]].map (fz ⟨[(id, .rows 1 (strR (DL 4))), (0, .rows 4 [[.i .i64 a, .i .i64 b, .i .i64 c, .i .i64 d]])], n⟩ 12) = [.isl true 1 (strR (DL 4)), .s [32]] := by
      simp only [List.map_cons, List.map_nil]
      rw [fz_strs (d := 10) (h := ⟨[(id, .rows 1 (strR (DL 4))), (0, .rows 4 [[.i .i64 a, .i .i64 b, .i .i64 c, .i .i64 d]])], n⟩) (by simp [look, Ent.plain])]
      rfl
    generalize strR (DL 4) = R at *
    clear hmem hlen z0
    simp only [List.cons_append, List.nil_append] at *
    generalize jl 32 (DL 4) = J at *
    repeat' first
      | ((with_reducible refine wr_isCall ?_); refine wr_lent hj rfl rfl hez ?_)
      | (with_reducible refine t_seq ?_)
      | (with_reducible refine t_skip ?_)
      | (with_reducible refine t_ret ?_)
      | (with_reducible refine t_end ?_)
      | (with_reducible refine t_cond ?_)
      | (with_reducible refine t_region ?_)
      | (with_reducible refine wr_done ?_)
      | ((with_reducible refine t_isDraw ?_); refine t_draw rfl (by kernel_rfl) ?_)
      | (with_reducible refine WD.done _ ?_)
      | (with_reducible refine wdp_done ?_)
      | (with_reducible refine tr_some ?_)
      | ((fail_if_success with_reducible refine t_bl ?_); (with_reducible refine t_block ?_))
      | (with_reducible refine t_inBlock ?_)
      | ((with_reducible refine t_isExit ?_); refine t_exit rfl ?_)
      | simp only [decide_eq_true_eq, decide_eq_false_iff_not, Bool.not_eq_true', Bool.not_eq_false'] at *
      | simp (disch := omega) only [go_sem, Nat.reduceLT, Nat.reduceEqDiff, Nat.reduceAdd, Nat.reduceLeDiff, Nat.reduceMul, Int.reduceLT, Int.reduceLE, Int.reduceAdd, Int.reduceSub, Int.reduceNeg, Int.reduceToNat, Int.reduceBEq, Int.reduceEq, reduceCtorEq, List.take_succ_cons, List.take_zero, List.take_nil, List.drop_succ_cons, List.drop_nil, List.cons_append, List.nil_append, List.set_cons_zero, List.set_cons_succ, ↓reduceIte, *]
      | (with_reducible refine tb_true ?_)
      | (with_reducible refine tb_false ?_)
      | (with_reducible refine tb_split (fun _ => ?_) (fun _ => ?_))
      | (with_reducible refine wg_f (fun _ => ?_) (fun _ => ?_))
      | (with_reducible refine wg_t (fun _ => ?_) (fun _ => ?_))
      | (with_reducible refine wd_f (fun _ => ?_) (fun _ => ?_))
      | (with_reducible refine wd_t (fun _ => ?_) (fun _ => ?_))
    all_goals first | (exfalso; omega) | exact ⟨rfl, rfl⟩
end Go.Proofs.YtkokongbnemkhaaGreatDoorA
