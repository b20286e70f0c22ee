/- What follows a day: plain laws of a calendar. -/
import Derived.Test.YthahgmncnbeddaaGreatDoorNB
import Derived.Test.YthahgmncnbeddaaGreatDoorNC
import Derived.Test.YthahgmncnbeddaaGreatDoorKA
import Derived.Test.YthahgmncnbeddaaGreatDoorPW12
set_option linter.unusedVariables false
set_option linter.unusedSimpArgs false
namespace Go.Proofs.YthahgmncnbeddaaGreatDoorA
open Go Go.RowKit Go.Proofs
variable {c : Cal}
/-- A day within a month that is not its last: the next day is in the month, too. -/
theorem Cal.At.stay (hc : c.Ok) {day y : Int} {mo : Nat} (h : c.At day y mo) (hn : day - c.first y + 1 - c.bef y mo < c.mlen y (mo + 1)) (hf : chkDay (day + 1) = 0) : c.At (day + 1) y mo := by
  have h2 : c.bef y (mo + 1) = c.bef y mo + c.mlen y (mo + 1) := rfl
  have h3 := hc.bef_mono y (show mo + 1 ≤ c.ms.length from h.hmo)
  have h4 := hc.first_succ y
  have h5 := c.bef_all y
  have := h.r1
  have := h.a
  exact ⟨hf, h.y1, h.y2, by omega, by omega, h.hmo, by omega, by omega⟩
/-- Behind the last day of a month. -/
theorem Cal.At.next (hc : c.Ok) (hpos : ∀ y, 0 < c.ylen y) {day y y' : Int} {mo mo' : Nat} (h : c.At day y mo) (hn : ¬ day - c.first y + 1 - c.bef y mo < c.mlen y (mo + 1)) (h' : c.At (day + 1) y' mo') :
    day + 1 - c.first y' + 1 - c.bef y' mo' = 1 ∧ ((y' = y ∧ mo < mo' ∧ ∀ j : Nat, mo + 1 ≤ j → j < mo' → c.mlen y (j + 1) = 0) ∨ (y' = y + 1 ∧ ∀ j : Nat, mo + 1 ≤ j → j < c.ms.length → c.mlen y (j + 1) = 0)) := by
  have h2 : c.bef y (mo + 1) = c.bef y mo + c.mlen y (mo + 1) := rfl
  have h3 := hc.bef_mono y (show mo + 1 ≤ c.ms.length from h.hmo)
  have h4 := hc.first_succ y
  have h5 := c.bef_all y
  have r1 := h.r1
  have r2 := h.r2
  have a := h.a
  have b := h.b
  have a' := h'.a
  have b' := h'.b
  have r1' := h'.r1
  have r2' := h'.r2
  have hzero : ∀ (n j : Nat), mo + 1 ≤ j → j < n → c.bef y n ≤ c.bef y (mo + 1) → c.mlen y (j + 1) = 0 := fun n j h1 h2 h3 => by
    have e1 : c.bef y (j + 1) = c.bef y j + c.mlen y (j + 1) := rfl
    have e2 := hc.bef_mono y h1
    have e3 := hc.bef_mono y (show j + 1 ≤ n from h2)
    have e4 := (hc.mlen_bounds y (j + 1)).1
    omega
  have hge : y ≤ y' := by
    rcases Int.lt_or_le y' y with q | q
    · have := hc.first_mono (show y' + 1 ≤ y from q)
      omega
    · exact q
  rcases Int.lt_or_le y y' with q | q
  · have e1 := hc.first_mono (show y + 1 ≤ y' from q)
    have e0 : y' = y + 1 := by
      rcases Int.lt_or_le (y + 1) y' with q2 | q2
      · have e2 := hc.first_mono (show y + 1 + 1 ≤ y' from q2)
        have e3 := hc.first_succ (y + 1)
        have e4 := hpos (y + 1)
        omega
      · omega
    subst e0
    have e2 := (hc.bef_bounds (y + 1) mo').1
    exact ⟨by omega, .inr ⟨rfl, fun j h1 h2 => hzero _ j h1 h2 (by omega)⟩⟩
  · have e0 : y' = y := by omega
    subst e0
    have hlt : mo < mo' := by
      rcases Nat.lt_or_ge mo mo' with q2 | q2
      · exact q2
      · have := hc.bef_mono y' (show mo' + 1 ≤ mo + 1 by omega)
        omega
    have e1 := hc.bef_mono y' (show mo + 1 ≤ mo' from hlt)
    exact ⟨by omega, .inl ⟨rfl, hlt, fun j h1 h2 => hzero _ j h1 h2 (by omega)⟩⟩
set_option maxRecDepth 10000000
end Go.Proofs.YthahgmncnbeddaaGreatDoorA
/- rule.Name of any text; the catalog's answers to unknown names; ToDay of any date. -/
set_option linter.unusedVariables false
set_option linter.unusedSimpArgs false
namespace Go.Proofs.YthahgmncnbeddaaGreatDoorA
open Go Go.RowKit Go.Proofs.YthahgmncnbeddaaGreatDoorFx Go.Proofs
variable {m : Int}
/-- A name that the catalog does not have. -/
def Unknown (s : List UInt8) : Prop := ∀ r ∈ catT, r.name ≠ s
/-- A name is in the catalog, or not. -/
theorem known_or (s : List UInt8) : Unknown s ∨ ∃ r k, (r, k) ∈ catT.zipIdx ∧ r.name = s := by
  by_cases h : ∃ r ∈ catT, r.name = s
  · obtain ⟨r, hr, e⟩ := h
    obtain ⟨k, hk, rfl⟩ := List.mem_iff_getElem.1 hr
    exact .inr ⟨_, k, List.mem_zipIdx_iff_getElem?.2 (List.getElem?_eq_getElem hk), e⟩
  · exact .inl fun r hr e => h ⟨r, hr, e⟩
section
variable {c : Cal}
end
end Go.Proofs.YthahgmncnbeddaaGreatDoorA
/- The calendar of a name; tools for loops that look for the first fault. -/
set_option linter.unusedVariables false
set_option linter.unusedSimpArgs false
namespace Go.Proofs.YthahgmncnbeddaaGreatDoorA
open Go Go.RowKit Go.Proofs.YthahgmncnbeddaaGreatDoorFx Go.Proofs
variable {m : Int}
open Classical in
/-- The calendar of a name that the catalog has. -/
noncomputable def calN (s : List UInt8) : Cal := if h : ∃ r k, (r, k) ∈ catT.zipIdx ∧ r.name = s then calOf h.choose_spec.choose h.choose else ⟨[], 0, 0, [], []⟩
theorem calN_spec {s : List UInt8} (h : ¬ Unknown s) : ∃ r k, (r, k) ∈ catT.zipIdx ∧ r.name = s ∧ calN s = calOf k r := by
  have h' : ∃ r k, (r, k) ∈ catT.zipIdx ∧ r.name = s := (known_or s).resolve_left h
  refine ⟨h'.choose, h'.choose_spec.choose, h'.choose_spec.choose_spec.1, h'.choose_spec.choose_spec.2, ?_⟩
  unfold calN
  rw [dif_pos h']
theorem calN_good {s : List UInt8} (h : ¬ Unknown s) : (calN s).Good m := by
  obtain ⟨r, k, hm, _, e⟩ := calN_spec h
  rw [e]; exact calGood hm
theorem calN_P {s : List UInt8} (h : ¬ Unknown s) : MeetsP Tryz.prog (glT m) 37 [.s s] (.tup [(calN s).A, .i .i64 0]) := by
  obtain ⟨r, k, hm, rfl, e⟩ := calN_spec h
  rw [e]; exact calP hm
/-- The whole numbers of a list as rows. -/
def lstA (l : List Int) : AV := if l = [] then .nils else .isl true 1 (intR l)
end Go.Proofs.YthahgmncnbeddaaGreatDoorA
/- Walks over any tables of variables: the environments, regions that draw. -/
set_option linter.unusedVariables false
set_option linter.unusedSimpArgs false
namespace Go.Proofs.YthahgmncnbeddaaGreatDoorA
open Go Go.RowKit Go.Proofs.YthahgmncnbeddaaGreatDoorFx Go.Proofs
variable {gl : Nat → Option (List AV)}
/-- The program with the tables gl; every call by contract. -/
noncomputable def EG (gl : Nat → Option (List AV)) : Env := ⟨Tryz.prog, gl, fun _ _ => none⟩
@[go_sem] theorem egP (gl : Nat → Option (List AV)) : (EG gl).P = Tryz.prog := rfl
@[go_sem] theorem egM (gl : Nat → Option (List AV)) (f : FuncId) (args : List AV) : (EG gl).M f args = none := rfl
@[go_sem] theorem egG (gl : Nat → Option (List AV)) : (EG gl).gl = gl := rfl
@[go_sem] theorem egC (gl : Nat → Option (List AV)) (h : Hp) (f : FuncId) (args : List AV) : callA (EG gl) h f args = .call f args := by
  unfold callA
  split
  · rfl
  · split <;> rfl
theorem eg (gl : Nat → Option (List AV)) : ModOk (EG gl) := fun f args r e => by cases e
open Classical in
noncomputable def ELG (gl : Nat → Option (List AV)) (L : List (FuncId × List AV × AV)) : Env := ⟨Tryz.prog, gl, fun f args => (L.find? fun e => decide (e.1 = f ∧ e.2.1 = args)).map (·.2.2)⟩
@[go_sem] theorem elgP (L : List (FuncId × List AV × AV)) : (ELG gl L).P = Tryz.prog := rfl
@[go_sem] theorem elgG (L : List (FuncId × List AV × AV)) : (ELG gl L).gl = gl := rfl
@[go_sem] theorem elg_hit (L : List (FuncId × List AV × AV)) (h : Hp) (f : FuncId) (args : List AV) (r : AV) : callA (ELG gl ((f, args, r) :: L)) h f args = if args.all (noid 12) = true then .val r h else callZ (ELG gl ((f, args, r) :: L)) h f args := by
  split
  · rename_i hn
    unfold callA
    rw [if_pos hn]
    simp [ELG]
  · rfl
@[go_sem] theorem elg_nil (h : Hp) (f : FuncId) (args : List AV) : callA (ELG gl []) h f args = .call f args := by
  unfold callA
  split
  · rfl
  · split <;> rfl
@[go_sem low] theorem elg_miss (L : List (FuncId × List AV × AV)) (h : Hp) (f f0 : FuncId) (args a0 : List AV) (r : AV) : callA (ELG gl ((f0, a0, r) :: L)) h f args = if f0 = f then callZ (ELG gl ((f0, a0, r) :: L)) h f args else callA (ELG gl L) h f args := by
  split
  · rfl
  · rename_i hf
    unfold callA
    simp [ELG, hf]
inductive WDG (gl : Nat → Option (List AV)) (L : List (FuncId × List AV × AV)) (f : FuncId) (K : List Item) (X : Ex → St → Prop) (r : RR) : Prop
  | done (S : St) (h : T (EG gl) f K S X) (e : r = .done S) : WDG gl L f K X r
theorem wdg_done {L : List (FuncId × List AV × AV)} {f : FuncId} {K : List Item} {X : Ex → St → Prop} {S : St} (h : T (EG gl) f K S X) : WDG gl L f K X (.done S) := .done S h rfl
end Go.Proofs.YthahgmncnbeddaaGreatDoorA
/- The months of the catalog's calendars, counted by the program; the table of package feast. -/
set_option linter.unusedVariables false
set_option linter.unusedSimpArgs false
namespace Go.Proofs.YthahgmncnbeddaaGreatDoorA
open Go Go.RowKit Go.Proofs
attribute [local go_sem] List.take_succ_cons List.take_zero List.take_nil List.drop_succ_cons List.drop_nil List.cons_append List.nil_append List.set_cons_zero List.set_cons_succ
def fkT : List AV := [.i .i64 0, .i .i64 0, .i .i64 0, .i .i64 0, .i .i64 0, .i .i64 0, .i .i64 0, .i .i64 1, .i .i64 1, .i .i64 2, .i .i64 2, .i .i64 2, .i .i64 1]
/-- The tables, with that of package feast. -/
def glF (m : Int) (g : Nat) : Option (List AV) := match Nat.beq g 0 with
  | true => some fkT
  | false => glT m g
theorem glF_of (m : Int) : ∀ g row, glT m g = some row → glF m g = some row := by
  intro g row h
  unfold glF
  split
  · rename_i q; obtain rfl := Nat.eq_of_beq_eq_true q; cases h
  · exact h
@[go_sem] theorem gl_fkids (m : Int) : glF m 0 = some fkT := rfl
set_option maxRecDepth 10000000
noncomputable def chkMons (m : Int) (r : CatRow) : Bool := isOut (outP (evO (ET m) (XP m) 1000000 54 [.s r.name] ⟨[], 0⟩)) (.tup [.i .i64 (monOf r).length, .i .i64 0])
theorem mons_0 (m : Int) : (((catT).drop 0).take 10).all (fun r => chkMons m r) = true := by kernel_rfl
theorem mons_10 (m : Int) : (((catT).drop 10).take 10).all (fun r => chkMons m r) = true := by kernel_rfl
theorem mons_20 (m : Int) : (((catT).drop 20).take 10).all (fun r => chkMons m r) = true := by kernel_rfl
theorem mons_30 (m : Int) : (((catT).drop 30).take 10).all (fun r => chkMons m r) = true := by kernel_rfl
theorem monsAll (m : Int) : (((catT).drop 0).take 40).all (fun r => chkMons m r) = true := (all_join (i := 0) (a := 10) (n := 30) (mons_0 m) (all_join (i := 10) (a := 10) (n := 20) (mons_10 m) (all_join (i := 20) (a := 10) (n := 10) (mons_20 m) (all_join (i := 30) (a := 10) (n := 0) (mons_30 m) rfl))))
theorem monsN (m : Int) : (catT.all fun r => chkMons m r) = true := by
  have h := monsAll m
  rwa [List.drop_zero, List.take_of_length_le (Nat.le_of_eq (by kernel_rfl))] at h
theorem monCntP {m : Int} {r : CatRow} (h : r ∈ catT) : MeetsP Tryz.prog (glT m) 54 [.s r.name] (.tup [.i .i64 (monOf r).length, .i .i64 0]) :=
  evOP_ok (E := ET m) (et m) (xt m) (ekN m) (ekO m) (isOut_eq (List.all_eq_true.1 (monsN m) r h))
set_option maxRecDepth 100000 in
theorem monthsNo {m : Int} {s : List UInt8} (hs : Unknown s) : MeetsP Tryz.prog (glT m) 54 [.s s] (.tup [.i .i64 0, .i .i64 5]) := by
  have ht := tableP m
  have h40 : catT.length ≤ 1000 := by rw [show catT.length = 40 by kernel_rfl]; omega
  unfold Unknown at hs
  unfold tableA at ht
  generalize catT = C at *
  refine meetsP (E := (EW m)) 26 [.tmp 2, .tmp 3] (ew m) Tryz.func54 rfl (by decide) rfl rfl (by simp) ?_
  repeat' first | ((with_reducible refine wr_isCall ?_); refine wr_P ht rfl ?_) | (with_reducible first | refine t_seq ?_ | refine t_skip ?_ | refine t_ret ?_ | refine t_end ?_ | refine t_cond ?_ | refine t_region ?_ | refine wr_done ?_ | refine WD.done _ ?_ | refine wdp_done ?_ | refine tr_some ?_ | refine t_inBlock ?_) | ((with_reducible refine t_isDraw ?_); refine t_draw rfl (by kernel_rfl) ?_) | ((fail_if_success with_reducible refine t_bl ?_); (with_reducible refine t_block ?_)) | ((with_reducible refine t_isExit ?_); refine t_exit rfl ?_) | simp only [decide_eq_true_eq, decide_eq_false_iff_not, Bool.not_eq_true', Bool.not_eq_false'] at * | simp (disch := omega) only [go_sem, Nat.reduceLT, Nat.reduceEqDiff, Nat.reduceAdd, Nat.reduceLeDiff, Nat.reduceMul, Int.reduceLT, Int.reduceLE, Int.reduceAdd, Int.reduceSub, Int.reduceNeg, Int.reduceToNat, Int.reduceBEq, Int.reduceEq, reduceCtorEq, ↓reduceIte, *] | (with_reducible first | refine tb_true ?_ | refine tb_false ?_) | ((with_reducible first | refine tb_split ?_ ?_ | refine wg_f ?_ ?_ | refine wg_t ?_ ?_ | refine wd_f ?_ ?_ | refine wd_t ?_ ?_) <;> intro _)
  refine t_while (I := fun (i : Nat) t h => i ≤ C.length ∧ (∃ n, h = ⟨[], n⟩) ∧ get t 6 = .isl true 5 (C.map rowA) ∧ get t 7 = .i .i64 C.length ∧ get t 8 = .i .i64 i ∧ get t 0 = .s s) (m := fun i => C.length - i)
    (J := fun t h => True) 0 ⟨by omega, ⟨0, rfl⟩, by simp [get], by simp [get], by simp [get], by simp [get]⟩ ?_ ?_
  · rintro i t h ⟨hi, ⟨n, rfl⟩, h9, h10, h11, h0⟩ hrec hex
    by_cases hi' : i < C.length
    · have hne := hs C[i] (List.getElem_mem hi')
      have hg : (C.map rowA)[i]? = some [.s C[i].name, .i .i64 C[i].epoch, .i .i64 C[i].cycle, .s C[i].leap, .i .u8 C[i].months] := by simp [hi', rowA]
      generalize C[i].name = nm at *
      generalize C[i].epoch = x1 at *
      generalize C[i].cycle = x2 at *
      generalize C[i].leap = x3 at *
      generalize (C[i].months : Int) = x4 at *
      repeat' first | (with_reducible first | refine t_seq ?_ | refine t_skip ?_ | refine t_ret ?_ | refine t_end ?_ | refine t_cond ?_ | refine t_region ?_ | refine wr_done ?_ | refine WD.done _ ?_ | refine wdp_done ?_ | refine tr_some ?_ | refine t_inBlock ?_) | ((with_reducible refine t_isDraw ?_); refine t_draw rfl (by kernel_rfl) ?_) | ((fail_if_success with_reducible refine t_bl ?_); (with_reducible refine t_block ?_)) | ((with_reducible refine t_isExit ?_); refine t_exit rfl ?_) | simp only [decide_eq_true_eq, decide_eq_false_iff_not, Bool.not_eq_true', Bool.not_eq_false'] at * | simp (disch := omega) only [go_sem, Nat.reduceLT, Nat.reduceEqDiff, Nat.reduceAdd, Nat.reduceLeDiff, Nat.reduceMul, Int.reduceLT, Int.reduceLE, Int.reduceAdd, Int.reduceSub, Int.reduceNeg, Int.reduceToNat, Int.reduceBEq, Int.reduceEq, reduceCtorEq, ↓reduceIte, *] | (with_reducible first | refine tb_true ?_ | refine tb_false ?_) | ((with_reducible first | refine tb_split ?_ ?_ | refine wg_f ?_ ?_ | refine wg_t ?_ ?_ | refine wd_f ?_ ?_ | refine wd_t ?_ ?_) <;> intro _)
      all_goals first | (exfalso; omega) | skip
      refine t_pop ?_
      exact hrec (i + 1) _ _ ⟨by omega, ⟨n + 1, rfl⟩, by simp [get, h9], by simp [get, h10], by simp [get], by simp [get, h0]⟩ (by omega)
    · repeat' first | (with_reducible first | refine t_seq ?_ | refine t_skip ?_ | refine t_ret ?_ | refine t_end ?_ | refine t_cond ?_ | refine t_region ?_ | refine wr_done ?_ | refine WD.done _ ?_ | refine wdp_done ?_ | refine tr_some ?_ | refine t_inBlock ?_) | ((with_reducible refine t_isDraw ?_); refine t_draw rfl (by kernel_rfl) ?_) | ((fail_if_success with_reducible refine t_bl ?_); (with_reducible refine t_block ?_)) | ((with_reducible refine t_isExit ?_); refine t_exit rfl ?_) | simp only [decide_eq_true_eq, decide_eq_false_iff_not, Bool.not_eq_true', Bool.not_eq_false'] at * | simp (disch := omega) only [go_sem, Nat.reduceLT, Nat.reduceEqDiff, Nat.reduceAdd, Nat.reduceLeDiff, Nat.reduceMul, Int.reduceLT, Int.reduceLE, Int.reduceAdd, Int.reduceSub, Int.reduceNeg, Int.reduceToNat, Int.reduceBEq, Int.reduceEq, reduceCtorEq, ↓reduceIte, *] | (with_reducible first | refine tb_true ?_ | refine tb_false ?_) | ((with_reducible first | refine tb_split ?_ ?_ | refine wg_f ?_ ?_ | refine wg_t ?_ ?_ | refine wd_f ?_ ?_ | refine wd_t ?_ ?_) <;> intro _)
      all_goals first | (exfalso; omega) | exact ⟨rfl, rfl⟩
  · rintro t h -
    repeat' first | (with_reducible first | refine t_seq ?_ | refine t_skip ?_ | refine t_ret ?_ | refine t_end ?_ | refine t_cond ?_ | refine t_region ?_ | refine wr_done ?_ | refine WD.done _ ?_ | refine wdp_done ?_ | refine tr_some ?_ | refine t_inBlock ?_) | ((with_reducible refine t_isDraw ?_); refine t_draw rfl (by kernel_rfl) ?_) | ((fail_if_success with_reducible refine t_bl ?_); (with_reducible refine t_block ?_)) | ((with_reducible refine t_isExit ?_); refine t_exit rfl ?_) | simp only [decide_eq_true_eq, decide_eq_false_iff_not, Bool.not_eq_true', Bool.not_eq_false'] at * | simp (disch := omega) only [go_sem, Nat.reduceLT, Nat.reduceEqDiff, Nat.reduceAdd, Nat.reduceLeDiff, Nat.reduceMul, Int.reduceLT, Int.reduceLE, Int.reduceAdd, Int.reduceSub, Int.reduceNeg, Int.reduceToNat, Int.reduceBEq, Int.reduceEq, reduceCtorEq, ↓reduceIte, *] | (with_reducible first | refine tb_true ?_ | refine tb_false ?_) | ((with_reducible first | refine tb_split ?_ ?_ | refine wg_f ?_ ?_ | refine wg_t ?_ ?_ | refine wd_f ?_ ?_ | refine wd_t ?_ ?_) <;> intro _)
    exact ⟨rfl, rfl⟩
theorem months_any (m : Int) (s : List UInt8) : ∃ n e : Int, MeetsP Tryz.prog (glT m) 54 [.s s] (.tup [.i .i64 n, .i .i64 e]) ∧ (e = 0 → ¬ Unknown s) ∧ (¬ Unknown s → e = 0 ∧ 0 ≤ n) := by
  rcases known_or s with h | ⟨r, k, h, rfl⟩
  · exact ⟨0, 5, monthsNo h, (fun q => by cases q), fun q => absurd h q⟩
  · exact ⟨_, 0, monCntP (row_mem h), (fun _ q => q r (row_mem h) rfl), fun _ => ⟨rfl, by omega⟩⟩
end Go.Proofs.YthahgmncnbeddaaGreatDoorA
/- Lists that grow by append. -/
set_option linter.unusedVariables false
set_option linter.unusedSimpArgs false
namespace Go.Proofs.YthahgmncnbeddaaGreatDoorA
open Go Go.RowKit Go.Proofs.YthahgmncnbeddaaGreatDoorFx Go.Proofs
variable {m : Int}
/-- A list of whole numbers that grows by append: nil, or an own block. -/
def LpB (b : Nat) (l : List Int) (n : Nat) (e : AV) (L : List (Nat × Ent)) : Prop := (l = [] ∧ e = .nils ∧ L = []) ∨ ∃ id, l ≠ [] ∧ b ≤ id ∧ id < n ∧ e = .osl id 0 l.length ∧ L = [(id, .rows 1 (intR l))]
theorem intR_len (l : List Int) : (intR l).length = l.length := by simp [intR]
theorem intR_snoc (l : List Int) (x : Int) : intR l ++ [[.i .i64 x]] = intR (l ++ [x]) := by simp [intR]
theorem intR_flat (l : List Int) : ((intR l).all fun (row : List AV) => row.all flat) = true := by simp [intR, flat]
end Go.Proofs.YthahgmncnbeddaaGreatDoorA
