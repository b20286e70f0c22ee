/- Runs reckoned out by the kernel, with calls in regions that draw: the machine and its proof. -/
import Derived.Test.YtkokongbnemkhaaGreatDoorMF
set_option linter.unusedVariables false
set_option linter.unusedSimpArgs false
namespace Go.Proofs.YtkokongbnemkhaaGreatDoorA
open Go Go.RowKit
noncomputable def backZ (E : Env) (rec : Rc) (rl : List ResultVar) (ops : Array Oper) (K : List Item) (d : Option Nat) (os : List Oper) (S : St) (r : Option (Out × Hp)) : Option (Out × Hp) := match r with
  | some p => (match p with
    | (o, h') => (match o with
      | .ret r => (match wfL h'.n h'.c && (callB ops (ops.size - os.length - 1) (freeU ops (ops.size - os.length - 1)) && chkN E ops (freeU ops (ops.size - os.length - 1)) S h') with
        | true => (match runE E ops.toList os (St.put { S with h := h' } d r) with | .done S2 => rec rl (.code K S2) | _ => none)
        | false => none)
      | .pan _ => none))
  | none => none
noncomputable def drawZ (E : Env) (X : XT) (rec : Rc) (rl : List ResultVar) (ops : Array Oper) (K : List Item) (S : St) : Option (Out × Hp) := match orderB ops with
  | true => (match runE E ops.toList ops.toList S with
    | .done S' => rec rl (.code K S')
    | .call g args d os Sc => backZ E rec rl ops K d os Sc (callN E X rec g args Sc.h)
    | _ => none)
  | false => none
noncomputable def cZ (E : Env) (X : XT) (rec : Rc) (rl : List ResultVar) (c : Code) (K : List Item) (S : St) : Option (Out × Hp) := match c with
  | .seq x y => rec rl (.code (.code x :: .code y :: K) S)
  | .skip => rec rl (.code K S)
  | .label _ => rec rl (.code K S)
  | .block id c => rec rl (.code (.code c :: .inBlock id :: K) S)
  | .loop c => rec rl (.code (.code c :: .inLoop c :: K) S)
  | .exit id => exitN rec rl S (exitTo id K)
  | .cond c x y => condN rec rl x y K S (evE E S.t c)
  | .ret => endN E rl S
  | .region _ ops b => (match b with
    | true => drawZ E X rec rl ops K S
    | false => rec rl (.reg ops.toList K (runE E ops.toList ops.toList S)))
  | _ => none
noncomputable def itZ (E : Env) (X : XT) (rec : Rc) (rl : List ResultVar) (it : Item) (K : List Item) (S : St) : Option (Out × Hp) := match it with
  | .code c => cZ E X rec rl c K S
  | .inLoop c => rec rl (.code (.code c :: .inLoop c :: K) S)
  | .inBlock _ => rec rl (.code K S)
  | _ => none
noncomputable def stepZ (E : Env) (X : XT) (rec : Rc) (rl : List ResultVar) (tk : Tk) : Option (Out × Hp) := match tk with
  | .code K S => (match K with | [] => endN E rl S | it :: K => itZ E X rec rl it K S)
  | .reg all K r => regN E X rec rl all K r
noncomputable def evZ (E : Env) (X : XT) (n : Nat) : Rc := Nat.rec (fun _ _ => none) (fun _ rec rl tk => stepZ E X rec rl tk) n
noncomputable def evO (E : Env) (X : XT) (n : Nat) (f : FuncId) (args : List AV) (h : Hp) : Option (Out × Hp) := enterN E (evZ E X n) f args h
section
variable {E : Env} {X : XT}
def RecOk (E : Env) (rec : Rc) : Prop := ∀ rl tk o h, rec rl tk = some (o, h) → TkOk E rl (Is o h) tk
theorem enter_ok {rec : Rc} (hR : RecOk E rec) (hN : Named E.P) {g : FuncId} {args : List AV} {h h' : Hp} {o : Out} (e : enterN E rec g args h = some (o, h')) : MeetsH E g args h (Is o h') := by
  unfold enterN at e
  split at e
  · rename_i fn hf
    split at e
    · rename_i c hb
      split at e
      · rename_i hl
        exact call_ok hN hf hb hl (hR _ _ _ _ e)
      · cases e
    · cases e
  · cases e
theorem callN_ok {rec : Rc} (hX : XOk E X) (hR : RecOk E rec) (hN : Named E.P) {g : FuncId} {args : List AV} {h h' : Hp} {o : Out} (e : callN E X rec g args h = some (o, h')) : MeetsH E g args h (Is o h') := by
  unfold callN at e
  split at e
  · rename_i p hx
    cases e
    exact hX _ _ _ _ _ hx
  · exact enter_ok hR hN e
theorem end_ok {rl : List ResultVar} {S : St} {o : Out} {h : Hp} (e : endN E rl S = some (o, h)) : XQ E rl (Is o h) .ret S := by
  unfold endN at e
  split at e
  · rename_i r hr
    cases e
    simp only [XQ, hr]
    exact ⟨rfl, rfl⟩
  · cases e
theorem reg_ok {rec : Rc} (hX : XOk E X) (hR : RecOk E rec) (hN : Named E.P) {rl : List ResultVar} {all : List Oper} {K : List Item} {r : RR} {o : Out} {h : Hp} (e : regN E X rec rl all K r = some (o, h)) : ∀ f, WR E f all K (XQ E rl (Is o h)) r := fun f => by
  cases r with
  | done S => obtain ⟨t, N, ⟨c, m⟩⟩ := S; exact .done _ (hR rl (.code K ⟨t, N, ⟨c, m⟩⟩) o h e f)
  | call g args d os S =>
    simp only [regN] at e
    cases hc : callN E X rec g args S.h with
    | none => rw [hc] at e; cases e
    | some p =>
      obtain ⟨o', h'⟩ := p
      rw [hc] at e
      have hm := callN_ok hX hR hN hc
      cases o' with
      | ret r =>
        simp only [backN, runE_eq] at e
        exact wr_ret hm (hR rl (.reg all K _) o h e f)
      | pan x =>
        simp only [backN] at e
        cases e
        exact wr_pan hm ⟨rfl, rfl⟩
  | pan x S => simp only [regN] at e; cases e; exact .pan x S ⟨rfl, rfl⟩
  | bad => simp only [regN] at e; cases e
theorem draw_ok {rec : Rc} (hX : XOk E X) (hR : RecOk E rec) (hN : Named E.P) (hO : E.P.follows .mixedOrders = true) {rl : List ResultVar} {id : Nat} {ops : Array Oper} {K : List Item} {S : St} {o : Out} {h : Hp} (e : drawZ E X rec rl ops K S = some (o, h)) (f : FuncId) : T E f (.code (.region id ops true) :: K) S (XQ E rl (Is o h)) := by
  unfold drawZ at e
  split at e
  · rename_i ho
    rw [runE_eq] at e
    split at e
    · rename_i S' hr
      exact t_draw hO ho (by rw [hr]; exact .done S' (hR rl (.code K S') o h e f))
    · rename_i g args d os Sc hr
      cases hc : callN E X rec g args Sc.h with
      | none => rw [hc] at e; cases e
      | some p =>
        obtain ⟨o', h'⟩ := p
        rw [hc] at e
        have hm := callN_ok hX hR hN hc
        cases o' with
        | pan x => simp only [backZ] at e; cases e
        | ret r =>
          simp only [backZ] at e
          split at e
          · rename_i hb
            simp only [Bool.and_eq_true] at hb
            rw [runE_eq] at e
            split at e
            · rename_i S2 hr2
              exact t_drawC _ hO ho hr hb.2.1 hm (wfL_ok hb.1) (chkN_ok hb.2.2) hr2 (hR rl (.code K S2) o h e f)
            · cases e
          · cases e
    · cases e
  · cases e
theorem evZ_ok (hX : XOk E X) (hN : Named E.P) (hO : E.P.follows .mixedOrders = true) : ∀ n, RecOk E (evZ E X n)
  | 0 => fun rl tk o h e => by cases e
  | n + 1 => fun rl tk o h e => by
    have hR := evZ_ok hX hN hO n
    change stepZ E X (evZ E X n) rl tk = some (o, h) at e
    generalize evZ E X n = rec at e hR
    cases tk with
    | reg all K r => exact reg_ok hX hR hN e
    | code K S =>
      intro f
      cases K with
      | nil => exact t_end (end_ok e)
      | cons it K =>
        cases it with
        | inLoop c => exact t_inLoop (hR rl _ o h e f)
        | inBlock _ => exact t_inBlock (hR rl _ o h e f)
        | code c =>
          cases c with
          | seq x y => exact t_seq (hR rl _ o h e f)
          | skip => exact t_skip (hR rl _ o h e f)
          | label _ => exact t_label (hR rl _ o h e f)
          | block id c => exact t_block (hR rl _ o h e f)
          | loop c => exact t_loop (hR rl _ o h e f)
          | exit id =>
            simp only [stepZ, itZ, cZ, exitN] at e
            split at e
            · rename_i K' hk
              exact t_exit hk (hR rl _ o h e f)
            · cases e
          | cond c x y =>
            simp only [stepZ, itZ, cZ, condN, evE_eq] at e
            refine t_cond ?_
            split at e
            · rename_i t hv
              rw [hv]
              cases t with
              | true => exact hR rl _ o h e f
              | false => exact hR rl _ o h e f
            · cases e
          | ret => exact t_ret (end_ok e)
          | region id ops b =>
            cases b with
            | true => exact draw_ok hX hR hN hO e f
            | false =>
              simp only [stepZ, itZ, cZ, runE_eq] at e
              exact t_region (hR rl (.reg ops.toList K _) o h e f)
          | _ => cases e
        | _ => cases e
theorem evO_ok (hX : XOk E X) (hN : Named E.P) (hO : E.P.follows .mixedOrders = true) {n : Nat} {f : FuncId} {args : List AV} {h h' : Hp} {o : Out} (e : evO E X n f args h = some (o, h')) : MeetsH E f args h (Is o h') := enter_ok (evZ_ok hX hN hO n) hN e
end
end Go.Proofs.YtkokongbnemkhaaGreatDoorA
/- Evaluation of a function that defers one closure, with calls in regions that draw. -/
set_option linter.unusedVariables false
set_option linter.unusedSimpArgs false
namespace Go.Proofs.YtkokongbnemkhaaGreatDoorA
open Go Go.RowKit
/-- A function that defers a closure, at given arguments, without a panic. -/
noncomputable def evDZ (E : Env) (X : XT) (n N NC : Nat) (D : DefP) (C : RecP) (args : List AV) (h : Hp) : Option (Out × Hp) :=
  match runE E D.ops0.toList D.ops0.toList ⟨envOf 0 args, N, h⟩ with
  | .done S1 => (match evZ E X n [.tmp D.rp] (.code [.code D.rest] (S1.put (some D.d9) (.fn D.g (D.as.toList.map (ev E S1)) (D.bs.toList.map (ev E S1))))) with
    | some (.ret p, h1) => (match evZ E X n [] (.code [.code C.rest] (recS (D.as.toList.map (ev E S1) ++ D.bs.toList.map (ev E S1)) NC C.d1 C.d2 h1 .ni)) with
      | some (.ret _, h2) => (match loadA E.P D.rt h2 p with | some r => some (.ret r, h2) | none => none)
      | _ => none)
    | _ => none)
  | _ => none
section
variable {E : Env} {X : XT}
theorem evDZ_ok (hX : XOk E X) (hN : Named E.P) (hO : E.P.follows .mixedOrders = true) {n N NC : Nat} {D : DefP} {C : RecP} {f : FuncId} {fn fc : Func} (hf : E.P.funcs[f]? = some fn) (hb : fn.body = some D.body) (hn : fn.ntmps = N) (hr : fn.results.toList = [.cell D.rp D.rt]) (hd : D.d9 < N)
    (hfc : E.P.funcs[D.g]? = some fc) (hbc : fc.body = some C.body) (hnc : fc.ntmps = NC) (hrc : fc.results.toList = []) (hlc : D.as.size + D.bs.size ≤ NC) {args : List AV} (hl : args.length ≤ N) {h h' : Hp} {o : Out} (e : evDZ E X n N NC D C args h = some (o, h')) : MeetsH E f args h (Is o h') := by
  unfold evDZ at e
  rw [runE_eq] at e
  split at e
  · rename_i S1 hrun
    split at e
    · rename_i p h1 he1
      split at e
      · rename_i r0 h2 he2
        split at e
        · rename_i r hload
          cases e
          have hT := evZ_ok hX hN hO n _ _ _ _ he1 f
          have hC := evZ_ok hX hN hO n _ _ _ _ he2 D.g
          refine meetsH_defer (d9 := D.d9) N _ hf hb (hN f fn hf) rfl hn hl hd (runA_N _ _ _ _ hrun) hrun (hT.mono ?_)
          rintro x S hx
          cases x with
          | pan x => obtain ⟨q, _⟩ := hx; cases q
          | ret =>
            simp only [XQ, resA, resL, Option.map_some] at hx
            obtain ⟨q1, q2⟩ := hx
            cases q1
            refine meetsD NC hfc hbc (hN _ fc hfc) hrc hnc (by simpa using hlc) ?_
            rw [q2]
            refine hC.mono ?_
            rintro x S' hx'
            cases x with
            | pan x => obtain ⟨q, _⟩ := hx'; cases q
            | ret =>
              simp only [XQ, resA, resL] at hx'
              obtain ⟨q3, q4⟩ := hx'
              refine ⟨rfl, ?_⟩
              rw [hr, q4]
              simp only [resA, resL, hload]
              exact ⟨rfl, rfl⟩
        · cases e
      · cases e
    · cases e
  · cases e
end
end Go.Proofs.YtkokongbnemkhaaGreatDoorA
/- Own blocks that last from now on. -/
set_option linter.unusedVariables false
set_option linter.unusedSimpArgs false
namespace Go.Proofs.YtkokongbnemkhaaGreatDoorA
open Go Go.RowKit
/-- What names the block id, read as lasting. -/
def frz (id k : Nat) (l : List (List AV)) : Nat → AV → AV
  | 0, a => a
  | d + 1, a => match a with
    | .osl i off n => if i = id ∧ off + n ≤ l.length then .isl true k ((l.drop off).take n) else .osl i off n
    | .ptr i r c => if i = id then (match l[r]? with | some row => .ip row c | none => .ptr i r c) else .ptr i r c
    | .agg cs => .agg (cs.map (frz id k l d))
    | .tup cs => .tup (cs.map (frz id k l d))
    | a => a
theorem frz_rep {ok ok' : Okc} {w : World} {G : Gh} {id k : Nat} {l : List (List AV)} {p : Pl} (hp : G id = some p) (hh : HoldsR ok w G p k l) (hno : l.all (fun row => row.all (noid 12)) = true) (h1 : ∀ b i, ok b i → ok' b i) (h2 : ∀ o, p.base ≤ o → ok' p.b o) :
    ∀ (d : Nat) (v : Value) (a : AV), Rep ok w G v a → Rep ok' w G v (frz id k l d a) := by
  have hm : ∀ {v a}, Rep ok w G v a → Rep ok' w G v a := fun r => r.mono (fun b i q => ⟨h1 b i q, rfl⟩) _ (fun _ _ e => e)
  obtain ⟨hk, cs, t, fz', e1, e2, e3, e4, e5, e6⟩ := hh
  have hcell : ∀ i row, l[i]? = some row → ∀ j a, row[j]? = some a → ∃ u, w.cell? ⟨p.b, p.base + i * p.k + j, none⟩ = some u ∧ Rep ok' w G0 u a ∧ u.oneCell' = true := fun i row hi j a hj => by
    obtain ⟨u, hu, ru, ro⟩ := e6 i row hi j a hj
    refine ⟨u, ?_, noid_rep 12 u a (List.all_eq_true.1 (List.all_eq_true.1 hno row (List.mem_of_getElem? hi)) a (List.mem_of_getElem? hj)) (hm ru), ro⟩
    rw [cell_of_row w p.b _ cs t fz' e1, ← hu]
  intro d
  induction d with
  | zero => exact fun v a r => hm r
  | succ d ih =>
    intro v a r
    cases r with
    | osl _ i off n cap q hq q1 q2 =>
      simp only [frz]
      split
      · rename_i hc
        obtain ⟨rfl, hc⟩ := hc
        rw [hp] at hq; cases hq
        have hget : ∀ i row, ((l.drop off).take n)[i]? = some row → l[off + i]? = some row := fun i row hi => by
          rw [List.getElem?_take] at hi
          split at hi
          · rw [List.getElem?_drop] at hi; exact hi
          · cases hi
        have hof : ∀ i j, p.base + off * p.k + i * k + j = p.base + (off + i) * p.k + j := fun i j => by rw [← hk, Nat.add_mul, Nat.add_assoc p.base]
        refine .isl _ true k _ n p.b (p.base + off * p.k) cap (fun i j => (w.cell? ⟨p.b, p.base + off * p.k + i * k + j, none⟩).getD undef) (by simp; omega) (by simp; omega) (fun row hr => ?_) (fun i row hi j hj => ?_) (fun i row hi j a hj => ?_)
        · rw [← hk]; exact e5 row (List.mem_of_mem_drop (List.mem_of_mem_take hr))
        · obtain ⟨u, hu, _, ro⟩ := hcell _ row (hget i row hi) j row[j] (by simp [hj])
          simp only [hof, hu]
          exact ⟨rfl, h2 _ (by omega), ro⟩
        · obtain ⟨u, hu, ru, _⟩ := hcell _ row (hget i row hi) j a hj
          simp only [hof, hu]
          exact ru
      · exact hm (.osl _ i off n cap q hq q1 q2)
    | ptr _ i r c q hq =>
      simp only [frz]
      split
      · rename_i hc
        subst hc
        rw [hp] at hq; cases hq
        split
        · rename_i row hrow
          refine .ip _ row c p.b (p.base + r * p.k) (fun j => (w.cell? ⟨p.b, p.base + r * p.k + j, none⟩).getD undef) (fun j hj => ?_) (fun j a hj => ?_)
          · obtain ⟨u, hu, _, ro⟩ := hcell _ row hrow j row[j] (by simp [hj])
            simp only [hu]
            exact ⟨rfl, h2 _ (by omega), ro⟩
          · obtain ⟨u, hu, ru, _⟩ := hcell _ row hrow j a hj
            simp only [hu]
            exact ru
        · exact hm (.ptr _ _ r c p hp)
      · exact hm (.ptr _ i r c q hq)
    | agg _ vs as hl h =>
      simp only [frz]
      refine .agg _ vs _ (by simp [hl]) (fun j v a e e' => ?_)
      rw [List.getElem?_map] at e'
      cases hb : as[j]? with
      | none => rw [hb] at e'; cases e'
      | some b => rw [hb] at e'; cases e'; exact ih v b (h j v b e hb)
    | tup _ vs as hl h =>
      simp only [frz]
      refine .tup _ vs _ (by simp [hl]) (fun j v a e e' => ?_)
      rw [List.getElem?_map] at e'
      cases hb : as[j]? with
      | none => rw [hb] at e'; cases e'
      | some b => rw [hb] at e'; cases e'; exact ih v b (h j v b e hb)
    | b => exact .b ..
    | i => exact .i ..
    | s => exact .s ..
    | np => exact .np _
    | nf => exact .nf _
    | ni => exact .ni _
    | nils => exact .nils _
    | un => exact .un ..
    | isln => exact .isln ..
    | isle => exact .isle ..
    | ip _ row c bb o vs q1 q2 => exact hm (.ip _ row c bb o vs q1 q2)
    | isl _ nn k rows n bb o cap vs q1 q2 q3 q4 q5 => exact hm (.isl _ nn k rows n bb o cap vs q1 q2 q3 q4 q5)
    | itr _ i q hq => exact hm (.itr _ i q hq)
    | fn _ f vs us as bs l1 l2 q1 q2 => exact hm (.fn _ f vs us as bs l1 l2 q1 q2)
    | ifc _ t v a r => exact hm (.ifc _ t v a r)
section
variable {E : Env} {f : FuncId} {K : List Item} {S : St} {X : Ex → St → Prop}
/-- A block of the call's own lasts from now on. -/
theorem t_freeze (id : Nat) {k : Nat} {l : List (List AV)} {t' : List (Nat × AV)} (hl : look S.h.c id = some (.rows k l)) (hno : l.all (fun row => row.all (noid 12)) = true) (ht : ∀ j, get t' j = get S.t j ∨ get t' j = frz id k l 12 (get S.t j))
    (h : T E f K ⟨t', S.N, ⟨rmv S.h.c id, S.h.n⟩⟩ X) : T E f K S X := by
  intro F G ok w a b cs q2 q3 q5 I R
  obtain ⟨p, hp, hh, hno'⟩ := I.rel.look' hl
  obtain ⟨e00, hm, _⟩ := look_mem hl
  have A : Adv G ok w G (fun b i => ok b i ∨ (b = p.b ∧ p.base ≤ i)) w := ⟨fun _ _ e => e, fun b i e => ⟨.inl e, rfl⟩, fun _ _ e => e⟩
  have I' : Inv F G (fun b i => ok b i ∨ (b = p.b ∧ p.base ≤ i)) w ⟨rmv S.h.c id, S.h.n⟩ := by
    refine ⟨I.os, I.tape, I.output, I.size, I.keep, fun b hb hd i q => ?_, I.adv.trans A, fun b i q => ?_, fun id' e q hm' hq => I.own id' e q (mem_rmv I.rel.nodup hm').2 hq, fun id' e' hm' => ?_, fun i1 i2 a1 a2 q1 q2 m1 m2 => I.rel.inj i1 i2 a1 a2 q1 q2 (mem_rmv I.rel.nodup m1).2 (mem_rmv I.rel.nodup m2).2, (sub_rmv id S.h.c).nodup I.rel.nodup, I.rel.fresh⟩
    · rcases q with q | ⟨rfl, _⟩
      · exact I.okeep b hb hd i q
      · rcases I.own id e00 p hm hp with q | q
        · exact absurd q hd
        · omega
    · rcases q with q | ⟨rfl, _⟩
      · exact I.lt b i q
      · exact Holds.lt hh
    · obtain ⟨hne, hm'⟩ := mem_rmv I.rel.nodup hm'
      obtain ⟨q, hq, h1, h2⟩ := I.rel.look id' e' hm'
      refine ⟨q, hq, h1.adv A rfl, fun o ho q' => ?_⟩
      rcases q' with q' | ⟨hb, _⟩
      · exact h2 o ho q'
      · exact I.rel.inj id' id _ _ q p hm' hm hne hq hp hb
  refine h F G _ w a b cs q2 q3 q5 I' ⟨R.size, fun j => ?_⟩
  rcases ht j with e | e
  · rw [e]; exact (R.r j).adv A
  · rw [e]; exact frz_rep hp hh hno (fun b i q => .inl q) (fun o ho => .inr ⟨rfl, ho⟩) 12 _ _ (R.r j)
def frzT (id k : Nat) (l : List (List AV)) (t : List (Nat × AV)) : List (Nat × AV) := t.map fun q => (q.1, frz id k l 12 q.2)
theorem get_frzT (id k : Nat) (l : List (List AV)) (j : Nat) : ∀ t : List (Nat × AV), get (frzT id k l t) j = frz id k l 12 (get t j)
  | [] => rfl
  | (i, v) :: r => by
    show get ((i, frz id k l 12 v) :: frzT id k l r) j = _
    rw [get_cons, get_cons, get_frzT id k l j r]
    split <;> rfl
/-- The same, all at once. -/
theorem t_freeze' (id : Nat) {k : Nat} {l : List (List AV)} (hl : look S.h.c id = some (.rows k l)) (hno : l.all (fun row => row.all (noid 12)) = true)
    (h : T E f K ⟨frzT id k l S.t, S.N, ⟨rmv S.h.c id, S.h.n⟩⟩ X) : T E f K S X := t_freeze id hl hno (fun j => .inr (get_frzT id k l j S.t)) h
end
end Go.Proofs.YtkokongbnemkhaaGreatDoorA
/- From contracts over own blocks to pure ones; forgetting blocks. -/
set_option linter.unusedVariables false
set_option linter.unusedSimpArgs false
namespace Go.Proofs.YtkokongbnemkhaaGreatDoorA
open Go Go.RowKit
section
variable {E : Env} {f : FuncId} {args : List AV} {h : Hp} {K : List Item} {S : St} {X : Ex → St → Prop}
theorem PostA.mono {F : Fr} {G : Gh} {ok : Okc} {w : World} {R R' : Out → Hp → Prop} (hq : ∀ o h, R o h → R' o h) {e : Ending} {w' : World} (p : PostA F G ok w R e w') : PostA F G ok w R' e w' := by
  cases e with
  | returned v => obtain ⟨r, h', G', ok', q, p⟩ := p; exact ⟨r, h', G', ok', hq _ _ q, p⟩
  | panicked c => obtain ⟨v, r, h', G', ok', e, q, p⟩ := p; exact ⟨v, r, h', G', ok', e, hq _ _ q, p⟩
  | outgrown => exact p
theorem MeetsH.mono {R R' : Out → Hp → Prop} (hm : MeetsH E f args h R) (hq : ∀ o h, R o h → R' o h) : MeetsH E f args h R' :=
  ⟨hm.1, fun F G ok w vals q1 q2 q3 q4 q5 => (hm.2 F G ok w vals q1 q2 q3 q4 q5).mono fun e w' p => p.mono hq⟩
/-- Less blocks, and numbers that are not given yet. -/
structure Sub (h' h : Hp) : Prop where
  c : ∀ x ∈ h'.c, x ∈ h.c
  nodup : (h.c.map (·.1)).Nodup → (h'.c.map (·.1)).Nodup
  n : h.n ≤ h'.n
theorem Inv.sub {F : Fr} {G : Gh} {ok : Okc} {w : World} {h h' : Hp} (I : Inv F G ok w h) (s : Sub h' h) : Inv F G ok w h' := I.less h'.c s.c (s.nodup I.rel.nodup) h'.n s.n
theorem MeetsH.forget {R R' : Out → Hp → Prop} (hm : MeetsH E f args h R) (hq : ∀ o h0, R o h0 → ∃ h1, Sub h1 h0 ∧ R' o h1) : MeetsH E f args h R' := by
  refine ⟨hm.1, fun F G ok w vals q1 q2 q3 q4 q5 => (hm.2 F G ok w vals q1 q2 q3 q4 q5).mono fun e w' p => ?_⟩
  cases e with
  | returned v => obtain ⟨r, h', G', ok', q, A, rv, I⟩ := p; obtain ⟨h1, s, q'⟩ := hq _ _ q; exact ⟨r, h1, G', ok', q', A, rv, I.sub s⟩
  | panicked c => obtain ⟨v, r, h', G', ok', e, q, A, rv, I⟩ := p; obtain ⟨h1, s, q'⟩ := hq _ _ q; exact ⟨v, r, h1, G', ok', e, q', A, rv, I.sub s⟩
  | outgrown => exact p
theorem t_forget (h' : Hp) (s : Sub h' S.h) (hT : T E f K ⟨S.t, S.N, h'⟩ X) : T E f K S X := fun F G ok w a b cs q2 q3 q5 q6 q7 =>
  hT F G ok w a b cs q2 q3 q5 (q6.sub s) ⟨q7.size, q7.r⟩
theorem Sub.refl (h : Hp) : Sub h h := ⟨fun _ q => q, fun q => q, Nat.le_refl _⟩
theorem Sub.tail (x : Nat × Ent) (c : List (Nat × Ent)) (n m : Nat) (hn : n ≤ m) : Sub ⟨c, m⟩ ⟨x :: c, n⟩ := ⟨fun _ q => List.mem_cons_of_mem _ q, fun q => (List.nodup_cons.1 q).2, hn⟩
theorem Sub.drop (k : Nat) (c : List (Nat × Ent)) (n m : Nat) (hn : n ≤ m) : Sub ⟨c.drop k, m⟩ ⟨c, n⟩ := ⟨fun _ q => List.mem_of_mem_drop q, fun q => (((List.drop_sublist k c).map _).nodup q), hn⟩
/-- A contract from nothing of one's own is a pure one. -/
theorem meetsP_of_H {r : AV} (hM : ModOk E) (hm : MeetsH E f args ⟨[], 0⟩ (Rt r)) : MeetsP E.P E.gl f args r := by
  refine ⟨hm.1, fun ok w vals hg hlt hl hr => ?_⟩
  have I : Inv ⟨fun _ => False, w, ok, G0⟩ G0 ok w ⟨[], 0⟩ :=
    ⟨rfl, rfl, rfl, Nat.le_refl _, fun _ _ _ => rfl, fun _ _ _ _ q => q, .refl .., hlt, fun _ _ _ q _ => (List.not_mem_nil q).elim, ⟨fun _ _ q => (List.not_mem_nil q).elim, fun _ _ _ _ _ _ q _ => (List.not_mem_nil q).elim, .nil, fun _ _ => rfl⟩⟩
  refine (hm.2 ⟨fun _ => False, w, ok, G0⟩ G0 ok w vals hM hg I hl hr).mono (fun e w' hp => ?_)
  cases e with
  | returned v =>
    obtain ⟨r0, h, G, ok', ⟨e2, e3⟩, A, rv, I'⟩ := hp
    refine ⟨v, okB G ok' h, rfl, ⟨I'.os, I'.tape, I'.output, I'.size, fun b q => I'.keep b q (fun q => q)⟩, fun b i q1 q2 => ?_, fun b i q => .inl (I'.adv.c b i q).1, fun b i q => ?_, ?_⟩
    · rcases q2 with q2 | ⟨id, e, p, m, hp, rfl, _⟩
      · exact I'.okeep b q1 (fun q => q) i q2
      · rcases I'.own id e p m hp with q | q
        · exact q.elim
        · exact absurd q1 (Nat.not_lt.2 q)
    · rcases q with q | ⟨id, e, p, m, hp, rfl, _⟩
      · exact I'.lt b i q
      · obtain ⟨p', hp', h1, _⟩ := I'.rel.look id e m
        rw [hp] at hp'; cases hp'
        exact h1.lt
    · have := fz_rep I' 12 v _ (by rw [e2]; exact e3) rv
      rwa [e2] at this
  | panicked ch => obtain ⟨x, r0, h, G, ok', _, e1, _⟩ := hp; exact e1.elim
  | outgrown => exact hp.elim
theorem MeetsH.to_P {r r' : AV} {h' : Hp} (hM : ModOk E) (hm : MeetsH E f args ⟨[], 0⟩ (Is (.ret r') h')) (h1 : fz h' 12 r' = r) (h2 : noid 12 r = true) : MeetsP E.P E.gl f args r :=
  meetsP_of_H hM (hm.mono fun o h q => by obtain ⟨rfl, rfl⟩ := q; exact ⟨h1, h2⟩)
/-- A pure function at given arguments, reckoned out. -/
noncomputable def outP (o : Option (Out × Hp)) : Option AV := match o with
  | some (.ret r, h) => (match noid 12 (fz h 12 r) with | true => some (fz h 12 r) | false => none)
  | _ => none
theorem evOP_ok {XX : XT} (hM : ModOk E) (hX : XOk E XX) (hN : Named E.P) (hO : E.P.follows .mixedOrders = true) {n : Nat} {r : AV} (e : outP (evO E XX n f args ⟨[], 0⟩) = some r) : MeetsP E.P E.gl f args r := by
  unfold outP at e
  split at e
  · rename_i r' h' he
    split at e
    · rename_i hn
      cases e
      exact (enter_ok (evZ_ok hX hN hO n) hN he).to_P hM rfl hn
    · cases e
  · cases e
end
end Go.Proofs.YtkokongbnemkhaaGreatDoorA
