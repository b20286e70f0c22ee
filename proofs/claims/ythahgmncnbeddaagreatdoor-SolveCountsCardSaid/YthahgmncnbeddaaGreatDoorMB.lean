/- Calls of pure functions; regions; the rules of a function's run. -/
import Derived.Test.YthahgmncnbeddaaGreatDoorMA
import Derived.Orders
import Derived.Attr
set_option linter.unusedVariables false
set_option linter.unusedSimpArgs false
namespace Go.Proofs.YthahgmncnbeddaaGreatDoorA
open Go Go.RowKit
theorem noid_rep {ok : Okc} {w : World} {G : Gh} : ∀ (d : Nat) (v : Value) (a : AV), noid d a = true → Rep ok w G v a → Rep ok w G0 v a
  | 0, v, a, h, r => by cases h
  | d + 1, v, a, h, r => by
    cases r with
    | b => exact .b ..
    | i => exact .i ..
    | s => exact .s ..
    | np => exact .np _
    | nf => exact .nf _
    | ni => exact .ni _
    | nils => exact .nils _
    | ptr => cases h
    | ip _ row c bb o vs h1 h2 => exact .ip _ row c bb o vs h1 h2
    | isln _ k => exact .isln _ k
    | isle _ k A cap => exact .isle _ k A cap
    | isl _ nn k rows n bb o cap vs hn hc hk h1 h2 => exact .isl _ nn k rows n bb o cap vs hn hc hk h1 h2
    | osl => cases h
    | itr => cases h
    | fn _ f vs us as bs l1 l2 h1 h2 =>
      simp only [noid, Bool.and_eq_true, List.all_eq_true] at h
      exact .fn _ f vs us as bs l1 l2 (fun j v a e e' => noid_rep d v a (h.1 a (List.mem_of_getElem? e')) (h1 j v a e e')) (fun j v a e e' => noid_rep d v a (h.2 a (List.mem_of_getElem? e')) (h2 j v a e e'))
    | ifc _ t v a r =>
      simp only [noid] at h
      exact .ifc _ t v a (noid_rep d v a h r)
    | agg _ vs as l h1 =>
      simp only [noid, List.all_eq_true] at h
      exact .agg _ vs as l (fun j v a e e' => noid_rep d v a (h a (List.mem_of_getElem? e')) (h1 j v a e e'))
    | tup _ vs as l h1 =>
      simp only [noid, List.all_eq_true] at h
      exact .tup _ vs as l (fun j v a e e' => noid_rep d v a (h a (List.mem_of_getElem? e')) (h1 j v a e e'))
    | un => exact .un ..
theorem scal_rep {ok ok' : Okc} {w w' : World} {G G' : Gh} : ∀ (d : Nat) (v : Value) (a : AV), scal d a = true → Rep ok w G v a → Rep ok' w' G' v a
  | 0, v, a, h, r => by cases h
  | d + 1, v, a, h, r => by
    cases r with
    | b => exact .b ..
    | i => exact .i ..
    | s => exact .s ..
    | np => exact .np _
    | nf => exact .nf _
    | ni => exact .ni _
    | nils => exact .nils _
    | agg _ vs as l h1 =>
      simp only [scal, List.all_eq_true] at h
      exact .agg _ vs as l (fun j v a e e' => scal_rep d v a (h a (List.mem_of_getElem? e')) (h1 j v a e e'))
    | tup _ vs as l h1 =>
      simp only [scal, List.all_eq_true] at h
      exact .tup _ vs as l (fun j v a e e' => scal_rep d v a (h a (List.mem_of_getElem? e')) (h1 j v a e e'))
    | un => exact .un ..
    | _ => cases h
/-- The lasting cells, and those of the call's own blocks, lent. -/
def okB (G : Gh) (ok : Okc) (h : Hp) : Okc := fun b i => ok b i ∨ ∃ id e p, (id, e) ∈ h.c ∧ G id = some p ∧ p.b = b ∧ p.base ≤ i
theorem okB_of {G : Gh} {ok : Okc} {h : Hp} {w : World} {v : Value} {a : AV} (r : Rep ok w G0 v a) : Rep (okB G ok h) w G0 v a := r.mono (fun b i q => ⟨.inl q, rfl⟩) _ (fun _ _ e => e)
theorem fz_rep {F : Fr} {G : Gh} {ok : Okc} {w : World} {h : Hp} (I : Inv F G ok w h) : ∀ (d : Nat) (v : Value) (a : AV), noid d (fz h d a) = true → Rep ok w G v a → Rep (okB G ok h) w G0 v (fz h d a)
  | 0, v, a, hn, r => by cases hn
  | d + 1, v, a, hn, r => by
    cases r with
    | osl _ id off n cap p hp q1 q2 =>
      simp only [fz] at hn ⊢
      split
      · rename_i k l hl
        split
        · rename_i hc
          obtain ⟨p', hp', ⟨hk, cs, t, fz', e1, e2, e3, e4, e5, e6⟩, hno⟩ := I.rel.look' hl
          rw [hp] at hp'; cases hp'
          have hget : ∀ i row', (((l.drop off).take n).map fun row => row.map (fz h d))[i]? = some row' → ∃ row, l[off + i]? = some row ∧ row' = row.map (fz h d) := fun i row' hi => by
            rw [List.getElem?_map, List.getElem?_take] at hi
            split at hi
            · rw [List.getElem?_drop] at hi
              cases hrow : l[off + i]? with
              | none => rw [hrow] at hi; cases hi
              | some row => rw [hrow] at hi; cases hi; exact ⟨row, rfl, rfl⟩
            · cases hi
          have hcell : ∀ i row, l[off + i]? = some row → ∀ j a, row[j]? = some a → ∃ u, w.cell? ⟨p.b, p.base + off * p.k + i * k + j, none⟩ = some u ∧ Rep ok w G u a ∧ u.oneCell' = true := fun i row hi j a hj => by
            obtain ⟨u, hu, ru⟩ := e6 _ row hi j a hj
            refine ⟨u, ?_, ru⟩
            rw [cell_of_row w p.b _ cs t fz' e1, ← hk, ← hu, Nat.add_mul]
            congr 1
            omega
          refine .isl _ true k _ n p.b (p.base + off * p.k) cap (fun i j => (w.cell? ⟨p.b, p.base + off * p.k + i * k + j, none⟩).getD undef) (by simp; omega) (by simp; omega) (fun row hr => ?_) (fun i row' hi j hj => ?_) (fun i row' hi j a hj => ?_)
          · obtain ⟨row0, h0, rfl⟩ := List.mem_map.1 hr
            rw [List.length_map, ← hk]
            exact e5 row0 (List.mem_of_mem_drop (List.mem_of_mem_take h0))
          · obtain ⟨row, hrow, rfl⟩ := hget i row' hi
            rw [List.length_map] at hj
            obtain ⟨u, hu, _, ro⟩ := hcell i row hrow j row[j] (by simp [hj])
            simp only [hu]
            obtain ⟨e00, hm0, _⟩ := look_mem hl
            exact ⟨rfl, .inr ⟨id, _, p, hm0, hp, rfl, by omega⟩, ro⟩
          · obtain ⟨row, hrow, rfl⟩ := hget i row' hi
            have hmem := List.mem_of_getElem? hi
            have hall := List.all_eq_true.1 hc.2 _ hmem
            rw [List.getElem?_map] at hj
            cases hb : row[j]? with
            | none => rw [hb] at hj; cases hj
            | some b =>
              rw [hb] at hj
              cases hj
              obtain ⟨u, hu, ru, _⟩ := hcell i row hrow j b hb
              simp only [hu]
              exact fz_rep I d u b (List.all_eq_true.1 hall _ (List.mem_map.2 ⟨b, List.mem_of_getElem? hb, rfl⟩)) ru
        · rename_i hc
          rw [hl] at hn
          simp only at hn
          rw [if_neg hc] at hn
          cases hn
      · rename_i h0
        split at hn
        · exact absurd ‹_› (h0 _ _)
        · cases hn
    | agg _ vs as l h1 =>
      simp only [fz] at hn ⊢
      simp only [noid, List.all_eq_true] at hn
      refine .agg _ vs _ (by simp [l]) (fun j v a e e' => ?_)
      rw [List.getElem?_map] at e'
      cases hb : as[j]? with
      | none => rw [hb] at e'; cases e'
      | some b => rw [hb] at e'; cases e'; exact fz_rep I d v b (hn _ (List.mem_map.2 ⟨b, List.mem_of_getElem? hb, rfl⟩)) (h1 j v b e hb)
    | tup _ vs as l h1 =>
      simp only [fz] at hn ⊢
      simp only [noid, List.all_eq_true] at hn
      refine .tup _ vs _ (by simp [l]) (fun j v a e e' => ?_)
      rw [List.getElem?_map] at e'
      cases hb : as[j]? with
      | none => rw [hb] at e'; cases e'
      | some b => rw [hb] at e'; cases e'; exact fz_rep I d v b (hn _ (List.mem_map.2 ⟨b, List.mem_of_getElem? hb, rfl⟩)) (h1 j v b e hb)
    | b => exact .b ..
    | i => exact .i ..
    | s => exact .s ..
    | np => exact .np _
    | nf => exact .nf _
    | ni => exact .ni _
    | nils => exact .nils _
    | ptr => cases hn
    | itr => cases hn
    | isln _ k => exact .isln _ k
    | isle _ k A cap => exact .isle _ k A cap
    | un => exact .un ..
    | ip _ row c bb o vs h1 h2 => exact okB_of (.ip _ row c bb o vs h1 h2)
    | isl _ nn k rows n bb o cap vs q1 q2 q3 q4 q5 => exact okB_of (.isl _ nn k rows n bb o cap vs q1 q2 q3 q4 q5)
    | fn _ f vs us as bs l1 l2 h1 h2 => exact okB_of (noid_rep (d + 1) _ _ hn (.fn _ f vs us as bs l1 l2 h1 h2))
    | ifc _ t v a r => exact okB_of (noid_rep (d + 1) _ _ hn (.ifc _ t v a r))
/-- What a pure function does at given arguments. -/
def MeetsP (P : Program) (gl : Nat → Option (List AV)) (f : FuncId) (args : List AV) (r : AV) : Prop :=
  (∃ fn, P.funcs[f]? = some fn ∧ fn.body.isSome = true ∧ fn.name ≠ "runtime.NumGoroutine") ∧
  ∀ (ok : Okc) (w : World) (vals : Array Value), Globs gl ok w → (∀ b i, ok b i → b < w.heap.size) → vals.size = args.length → (∀ (j : Nat) v a, vals[j]? = some v → args[j]? = some a → Rep ok w G0 v a) →
    Calls P f vals w fun e w' => ∃ v ok', e = .returned v ∧ Below w.heap.size w w' ∧ (∀ b i, b < w.heap.size → ok' b i → ok b i) ∧ (∀ b i, ok b i → ok' b i) ∧ (∀ b i, ok' b i → b < w'.heap.size) ∧ Rep ok' w' G0 v r
def ModOk (E : Env) : Prop := ∀ f args r, E.M f args = some r → MeetsP E.P E.gl f args r
theorem Inv.below {F : Fr} {G : Gh} {ok ok' : Okc} {w w' : World} {h : Hp} (I : Inv F G ok w h) (B : Below w.heap.size w w') (h1 : ∀ b i, b < w.heap.size → ok' b i → ok b i) (h2 : ∀ b i, ok b i → ok' b i) (h3 : ∀ b i, ok' b i → b < w'.heap.size) : Adv G ok w G ok' w' ∧ Inv F G ok' w' h := by
  have A : Adv G ok w G ok' w' := ⟨fun _ _ e => e, fun b i e => ⟨h2 b i e, B.cell (p := ⟨b, i, none⟩) (I.lt b i e)⟩, fun b s e => by
    have hb : b < w.heap.size := by
      rcases Nat.lt_or_ge b w.heap.size with q | q
      · exact q
      · unfold World.shape? at e; rw [Array.getElem?_eq_none q] at e; cases e
    unfold World.shape? at e ⊢
    rw [B.block b hb]; exact e⟩
  have hs := B.size
  exact ⟨A, B.os.trans I.os, B.tape.trans I.tape, B.output.trans I.output, Nat.le_trans I.size B.size, fun b q1 q2 => (B.block b (Nat.lt_of_lt_of_le q1 I.size)).trans (I.keep b q1 q2), fun b q1 q2 i q3 => I.okeep b q1 q2 i (h1 b i (Nat.lt_of_lt_of_le q1 I.size) q3), I.adv.trans A, h3, I.own,
    fun id e hm => let ⟨p, hp, q1, q2⟩ := I.rel.look id e hm; ⟨p, hp, q1.adv A (B.block _ q1.lt), fun o q q' => q2 o q (h1 _ _ q1.lt q')⟩, I.rel.inj, I.rel.nodup, I.rel.fresh⟩
theorem callA_ok {E : Env} {F : Fr} {G : Gh} {ok : Okc} {w : World} {h h' : Hp} (hM : ModOk E) (I : Inv F G ok w h) (hg : Globs E.gl ok w) {f : FuncId} {args : List AV} {vals : Array Value} {r : AV} (hl : vals.size = args.length) (hr : ∀ (j : Nat) v a, vals[j]? = some v → args[j]? = some a → Rep ok w G v a)
    (e : callA E h f args = .val r h') : h' = h ∧ (∃ fn, E.P.funcs[f]? = some fn ∧ fn.body.isSome = true ∧ fn.name ≠ "runtime.NumGoroutine") ∧
      Calls E.P f vals w fun e w' => ∃ v ok', e = .returned v ∧ Adv G ok w G ok' w' ∧ Inv F G ok' w' h ∧ Rep ok' w' G v r := by
  unfold callA at e
  split at e
  · rename_i hno
    split at e
    · rename_i r' hm
      cases e
      obtain ⟨hf, hc⟩ := hM f args r hm
      refine ⟨rfl, hf, (hc ok w vals hg I.lt hl (fun j v a q1 q2 => noid_rep 12 v a (List.all_eq_true.1 hno a (List.mem_of_getElem? q2)) (hr j v a q1 q2))).mono ?_⟩
      rintro e w' ⟨v, ok', he, B, q1, q2, q3, rv⟩
      obtain ⟨A, I'⟩ := I.below B q1 q2 q3
      exact ⟨v, ok', he, A, I', rv.of0⟩
    · cases e
  · split at e
    · rename_i hno
      split at e
      · rename_i r' hm
        split at e
        · rename_i hsc
          cases e
          obtain ⟨hf, hc⟩ := hM f _ r hm
          refine ⟨rfl, hf, (hc (okB G ok h) w vals (fun g row q => ⟨okB_of (hg g row q).1, (hg g row q).2⟩) (fun b i q => ?_) (by simp [hl]) (fun j v a q1 q2 => ?_)).mono ?_⟩
          · rcases q with q | ⟨id, e, p, m, hp, rfl, _⟩
            · exact I.lt b i q
            · obtain ⟨p', hp', h1, _⟩ := I.rel.look id e m
              rw [hp] at hp'; cases hp'
              exact h1.lt
          · have hmem := List.all_eq_true.1 hno a (List.mem_of_getElem? q2)
            rw [List.getElem?_map] at q2
            cases hb : args[j]? with
            | none => rw [hb] at q2; cases q2
            | some b => rw [hb] at q2; cases q2; exact fz_rep I 12 v b hmem (hr j v b q1 hb)
          · rintro e w' ⟨v, ok', he, B, q1, q2, q3, rv⟩
            obtain ⟨A, I'⟩ := I.below B (fun _ _ _ q => q) (fun _ _ q => q) (fun b i q => Nat.lt_of_lt_of_le (I.lt b i q) B.size)
            exact ⟨v, ok, he, A, I', scal_rep 12 v _ hsc rv⟩
        · cases e
      · cases e
    · cases e
end Go.Proofs.YthahgmncnbeddaaGreatDoorA
/- The rules of a function's run. -/
set_option linter.unusedVariables false
set_option linter.unusedSimpArgs false
namespace Go.Proofs.YthahgmncnbeddaaGreatDoorA
open Go Go.RowKit
/-- How a run ends. -/
inductive Out where
  | ret (r : AV)
  | pan (x : AV)
/-- How a body ends. -/
inductive Ex where
  | ret
  | pan (x : AV)
def Post (F : Fr) (Q : Out → Hp → Prop) : Ending → World → Prop
  | .returned v, w => ∃ r h G ok, Q (.ret r) h ∧ Rep ok w G v r ∧ Inv F G ok w h
  | .panicked chain, w => ∃ v r h G ok, chain = [{ v, recovered := false }] ∧ Q (.pan r) h ∧ Rep ok w G v r ∧ Inv F G ok w h
  | .outgrown, _ => False
theorem Post.mono {F : Fr} {Q Q' : Out → Hp → Prop} (hq : ∀ o h, Q o h → Q' o h) {e : Ending} {w : World} (h : Post F Q e w) : Post F Q' e w := by
  cases e with
  | returned v => obtain ⟨r, h, G, ok, q, r1, r2⟩ := h; exact ⟨r, h, G, ok, hq _ _ q, r1, r2⟩
  | panicked c => obtain ⟨v, r, h, G, ok, e, q, r1, r2⟩ := h; exact ⟨v, r, h, G, ok, e, hq _ _ q, r1, r2⟩
  | outgrown => exact h
/-- The end of a body: it returns, or it panics; X tells the state. -/
def Fin (F : Fr) (X : Ex → St → Prop) (fr : Frame) (w : World) : Prop :=
  ∃ S G ok, Inv F G ok w S.h ∧ RelT G ok w S ⟨fr.tmps, fr.defers⟩ ∧ ((fr.mode = .returning ∧ X .ret S) ∨ ∃ v x, fr.mode = .panicking [{ v, recovered := false }] ∧ Rep ok w G v x ∧ X (.pan x) S)
theorem Fin.mono {F : Fr} {X X' : Ex → St → Prop} (hx : ∀ o S, X o S → X' o S) {fr : Frame} {w : World} (h : Fin F X fr w) : Fin F X' fr w := by
  obtain ⟨S, G, ok, I, R, h⟩ := h
  refine ⟨S, G, ok, I, R, ?_⟩
  rcases h with ⟨h1, h2⟩ | ⟨v, x, h1, h2, h3⟩
  · exact .inl ⟨h1, hx _ _ h2⟩
  · exact .inr ⟨v, x, h1, h2, hx _ _ h3⟩
/-- From the state S, with K to do, the body of function f comes to X. -/
def T (E : Env) (f : FuncId) (K : List Item) (S : St) (X : Ex → St → Prop) : Prop :=
  ∀ (F : Fr) (G : Gh) (ok : Okc) (w : World) (a : Act) (b : Frame) (cs : List Frame), ModOk E → b.fn = f → Globs E.gl F.ok0 F.w0 → Inv F G ok w S.h → RelT G ok w S a →
    ∃ w' fr, Steps E.P (lone (b.at a K) cs w) (lone fr cs w') ∧ fr.fn = f ∧ fr.kind = b.kind ∧ fr.defers = a.defers ∧ Fin F X fr w'
section
variable {E : Env} {f : FuncId} {fn : Func} {rl : List ResultVar} {K : List Item} {S : St} {X : Ex → St → Prop} {Q : Out → Hp → Prop}
theorem T.mono {X' : Ex → St → Prop} (h : T E f K S X) (hx : ∀ o S, X o S → X' o S) : T E f K S X' := fun F G ok w a b cs q2 q3 q5 q6 q7 =>
  let ⟨w', fr, c, h1, h2, h3, h4⟩ := h F G ok w a b cs q2 q3 q5 q6 q7; ⟨w', fr, c, h1, h2, h3, h4.mono hx⟩
/-- One step of the machine that leaves state and world. -/
theorem T.step {K' : List Item} (hs : ∀ (a : Act) (b : Frame) cs w, step E.P (lone (b.at a K) cs w) = .next (lone (b.at a K') cs w)) (h : T E f K' S X) : T E f K S X := fun F G ok w a b cs q2 q3 q5 q6 q7 =>
  let ⟨w', fr, c, r⟩ := h F G ok w a b cs q2 q3 q5 q6 q7; ⟨w', fr, .head (hs a b cs w) c, r⟩
theorem t_seq {x y : Code} (h : T E f (.code x :: .code y :: K) S X) : T E f (.code (.seq x y) :: K) S X := .step (fun _ _ _ _ => step_seq) h
theorem t_skip (h : T E f K S X) : T E f (.code .skip :: K) S X := .step (fun _ _ _ _ => step_skip) h
theorem t_label {l : Nat} (h : T E f K S X) : T E f (.code (.label l) :: K) S X := .step (fun _ _ _ _ => step_label) h
theorem t_block {id : Nat} {c : Code} (h : T E f (.code c :: .inBlock id :: K) S X) : T E f (.code (.block id c) :: K) S X := .step (fun _ _ _ _ => step_block) h
theorem t_inBlock {id : Nat} (h : T E f K S X) : T E f (.inBlock id :: K) S X := .step (fun _ _ _ _ => step_inBlock) h
theorem t_loop {c : Code} (h : T E f (.code c :: .inLoop c :: K) S X) : T E f (.code (.loop c) :: K) S X := .step (fun _ _ _ _ => step_loop) h
theorem t_inLoop {c : Code} (h : T E f (.code c :: .inLoop c :: K) S X) : T E f (.inLoop c :: K) S X := .step (fun _ _ _ _ => step_inLoop) h
theorem t_exit {id : Nat} {K' : List Item} (hk : exitTo id K = some K') (h : T E f K' S X) : T E f (.code (.exit id) :: K) S X := .step (fun _ _ _ _ => step_exit hk) h
/-- What a test decides. -/
def TB (E : Env) (f : FuncId) (x y : Code) (K : List Item) (S : St) (X : Ex → St → Prop) : AV → Prop
  | .b true => T E f (.code x :: K) S X
  | .b false => T E f (.code y :: K) S X
  | _ => False
theorem glob_now {F : Fr} {G : Gh} {ok : Okc} {w : World} {h : Hp} (hg : Globs E.gl F.ok0 F.w0) (I : Inv F G ok w h) : Globs E.gl ok w := hg.adv I.adv
theorem t_cond {c : Operand} {x y : Code} (h : TB E f x y K S X (ev E S c)) : T E f (.code (.cond c x y) :: K) S X := by
  intro F G ok w a b cs q2 q3 q5 q6 q7
  have r := ev_rep q7 (glob_now q5 q6) c
  generalize ev E S c = v at h r
  cases v with
  | b t =>
    have hc : a.eval c = .bool t := by generalize a.eval c = q at r; cases r; rfl
    cases t with
    | true => obtain ⟨w', fr, k, r⟩ := h F G ok w a b cs q2 q3 q5 q6 q7; exact ⟨w', fr, .head (step_cond hc) k, r⟩
    | false => obtain ⟨w', fr, k, r⟩ := h F G ok w a b cs q2 q3 q5 q6 q7; exact ⟨w', fr, .head (step_cond hc) k, r⟩
  | _ => exact h.elim
theorem tb_split {x y : Code} {t : Bool} (h1 : t = true → T E f (.code x :: K) S X) (h2 : t = false → T E f (.code y :: K) S X) : TB E f x y K S X (.b t) := by
  cases t with
  | true => exact h1 rfl
  | false => exact h2 rfl
theorem t_ret (h : X .ret S) : T E f (.code .ret :: K) S X := fun F G ok w a b cs q2 q3 q5 q6 q7 =>
  ⟨w, _, .one step_ret, q3, rfl, rfl, S, G, ok, q6, q7, .inl ⟨rfl, h⟩⟩
theorem t_end (h : X .ret S) : T E f [] S X := fun F G ok w a b cs q2 q3 q5 q6 q7 =>
  ⟨w, _, .one step_end, q3, rfl, rfl, S, G, ok, q6, q7, .inl ⟨rfl, h⟩⟩
/-- What a function answers. -/
def resL (E : Env) (S : St) : List ResultVar → Option (List AV)
  | [] => some []
  | .tmp t :: r => (resL E S r).map (get S.t t :: ·)
  | .cell p t :: r => match loadA E.P t S.h (get S.t p), resL E S r with | some v, some vs => some (v :: vs) | _, _ => none
def resA (E : Env) (S : St) (l : List ResultVar) : Option AV := match resL E S l with | some [v] => some v | some vs => some (.tup vs) | none => none
def resF (tmps : Array Value) : ResultVar → Sem Value
  | .tmp t => pure (tmps.getD t undef)
  | .cell p t => do loadVar t (← asAddr (tmps.getD p undef))
theorem results_eq (fn : Func) (tmps : Array Value) : results fn tmps = (do let vs ← fn.results.mapM (resF tmps); pure (if h : vs.size = 1 then vs[0] else .tuple vs)) := by
  unfold results
  congr 2
theorem resL_ok {P : Program} {F : Fr} {G : Gh} {ok : Okc} {w : World} {a : Act} (hP : P = E.P) (I : Inv F G ok w S.h) (R : RelT G ok w S a) : ∀ (l : List ResultVar) (vs : List AV), resL E S l = some vs →
    ∃ us : List Value, (l.mapM (resF a.tmps)).run P w = .ok us w ∧ us.length = vs.length ∧ ∀ (j : Nat) u v, us[j]? = some u → vs[j]? = some v → Rep ok w G u v
  | [], vs, h => by cases h; exact ⟨[], rfl, rfl, fun j u v e => by simp at e⟩
  | .tmp t :: r, vs, h => by
    simp only [resL] at h
    cases hr : resL E S r with
    | none => rw [hr] at h; cases h
    | some vs' =>
      rw [hr] at h
      cases h
      obtain ⟨us, h1, h2, h3⟩ := resL_ok hP I R r vs' hr
      refine ⟨a.tmps.getD t undef :: us, by rw [List.mapM_cons, Sem.run_bind, show (resF a.tmps (.tmp t)).run P w = .ok (a.tmps.getD t undef) w from rfl, Result.andThen_ok, Sem.run_bind, h1]; rfl, by simp [h2], fun j u v e e' => ?_⟩
      cases j with
      | zero => cases e; cases e'; exact R.r t
      | succ j => exact h3 j u v (by simpa using e) (by simpa using e')
  | .cell p t :: r, vs, h => by
    simp only [resL] at h
    split at h
    · rename_i v vs' hl hr
      cases h
      obtain ⟨us, h1, h2, h3⟩ := resL_ok hP I R r vs' hr
      obtain ⟨y, hy, ry⟩ := load_ok (P := P) I (R.r p) (by rw [hP]; exact hl)
      have key : (resF a.tmps (.cell p t)).run P w = .ok y w := by
        show (do loadVar t (← asAddr (a.tmps.getD p undef)) : Sem Value).run P w = .ok y w
        generalize a.tmps.getD p undef = q at hy
        cases q with
        | pointer A =>
          cases A with
          | none => simp [Instr.loadAt, Instr.sureAddr] at hy
          | some A => simpa [Instr.loadAt, Instr.sureAddr, asAddr] using hy
        | _ => simp [Instr.loadAt, Instr.sureAddr] at hy
      refine ⟨y :: us, by rw [List.mapM_cons, Sem.run_bind, key, Result.andThen_ok, Sem.run_bind, h1]; rfl, by simp [h2], fun j u v e e' => ?_⟩
      cases j with
      | zero => cases e; cases e'; exact ry
      | succ j => exact h3 j u v (by simpa using e) (by simpa using e')
    · cases h
theorem resA_ok {F : Fr} {G : Gh} {ok : Okc} {w : World} {a : Act} {r : AV} (I : Inv F G ok w S.h) (R : RelT G ok w S a) (h : resA E S fn.results.toList = some r) : ∃ v, (results fn a.tmps).run E.P w = .ok v w ∧ Rep ok w G v r := by
  unfold resA at h
  cases hr : resL E S fn.results.toList with
  | none => rw [hr] at h; cases h
  | some vs =>
    obtain ⟨us, h1, h2, h3⟩ := resL_ok rfl I R fn.results.toList vs hr
    have hm : (fn.results.mapM (resF a.tmps)).run E.P w = .ok us.toArray w := by
      rw [Array.mapM_eq_mapM_toList, Sem.run_map, h1]; rfl
    rw [results_eq, Sem.run_bind, hm]
    simp only [Result.andThen_ok, Sem.run_pure]
    rw [hr] at h
    match vs, us, h, h2, h3 with
    | [v], [u], h, _, h3 => cases h; exact ⟨u, rfl, h3 0 u _ rfl rfl⟩
    | [], [], h, _, _ => cases h; exact ⟨_, rfl, .tup _ #[] [] rfl (fun j v a e => by simp at e)⟩
    | v1 :: v2 :: vs, u1 :: u2 :: us, h, h2, h3 =>
      cases h
      refine ⟨_, rfl, ?_⟩
      simp only [List.size_toArray, List.length_cons]
      rw [dif_neg (by omega)]
      exact .tup _ _ _ (by simpa using h2) (fun j u v e e' => h3 j u v (by simpa using e) e')
def TR (S : St) (Q : Out → Hp → Prop) : Option AV → Prop
  | some r => Q (.ret r) S.h
  | none => False
/-- The end of a function's body, by what the function comes to. -/
def XQ (E : Env) (rl : List ResultVar) (Q : Out → Hp → Prop) : Ex → St → Prop
  | .ret, S => TR S Q (resA E S rl)
  | .pan x, S => Q (.pan x) S.h
/-- The end of a function without deferred calls. -/
theorem fin_post {F : Fr} {fr : Frame} {w : World} (hf : E.P.funcs[f]? = some fn) (h1 : fr.fn = f) (h2 : fr.kind = .normal) (h3 : fr.defers = []) (h : Fin F (XQ E fn.results.toList Q) fr w) : ∃ e, fr.leaving E.P w e ∧ Post F Q e w := by
  obtain ⟨S, G, ok, I, R, h⟩ := h
  rcases h with ⟨hm, hx⟩ | ⟨v, x, hm, rv, hx⟩
  · simp only [XQ] at hx
    cases hr : resA E S fn.results.toList with
    | none => rw [hr] at hx; exact hx.elim
    | some r =>
      rw [hr] at hx
      obtain ⟨v, hv, rv⟩ := resA_ok I R hr
      exact ⟨.returned v, ⟨hm, h3, h2, fn, by rw [h1]; exact hf, hv⟩, r, S.h, G, ok, hx, rv, I⟩
  · exact ⟨.panicked [{ v, recovered := false }], ⟨hm, h3, fn, by rw [h1]; exact hf⟩, v, x, S.h, G, ok, rfl, hx, rv, I⟩
end
end Go.Proofs.YthahgmncnbeddaaGreatDoorA
/- Regions in the order of the text; calls; a function's entry. -/
set_option linter.unusedVariables false
set_option linter.unusedSimpArgs false
namespace Go.Proofs.YthahgmncnbeddaaGreatDoorA
open Go Go.RowKit
def HasBody (P : Program) (f : FuncId) : Prop := ∃ fn, P.funcs[f]? = some fn ∧ fn.body.isSome = true ∧ fn.name ≠ "runtime.NumGoroutine"
def PostA (F : Fr) (G : Gh) (ok : Okc) (w : World) (R : Out → Hp → Prop) : Ending → World → Prop
  | .returned v, w' => ∃ r h' G' ok', R (.ret r) h' ∧ Adv G ok w G' ok' w' ∧ Rep ok' w' G' v r ∧ Inv F G' ok' w' h'
  | .panicked chain, w' => ∃ v r h' G' ok', chain = [{ v, recovered := false }] ∧ R (.pan r) h' ∧ Adv G ok w G' ok' w' ∧ Rep ok' w' G' v r ∧ Inv F G' ok' w' h'
  | .outgrown, _ => False
/-- What a call does, the call's own blocks being h. -/
def MeetsH (E : Env) (f : FuncId) (args : List AV) (h : Hp) (R : Out → Hp → Prop) : Prop :=
  HasBody E.P f ∧ ∀ (F : Fr) (G : Gh) (ok : Okc) (w : World) (vals : Array Value), ModOk E → Globs E.gl ok w → Inv F G ok w h → vals.size = args.length → (∀ (j : Nat) v a, vals[j]? = some v → args[j]? = some a → Rep ok w G v a) → Calls E.P f vals w (PostA F G ok w R)
section
variable {E : Env} {f : FuncId} {fn : Func} {K : List Item} {S : St} {X : Ex → St → Prop}
theorem call_run {P : Program} {a : Act} {w : World} {o : Oper} {fo : Operand} {args : Array Operand} {ts : Array TypeId} {g : FuncId} {vs us : Array Value} (ho : o.op = .call ⟨.value fo, args, ts⟩) (hf : a.eval fo = .func (.func g) vs us) (hb : HasBody P g) :
    (execOp a.eval o).run P w = .ok (.enter g (vs ++ args.map a.eval ++ us)) w := by
  obtain ⟨fn, h1, h2, h3⟩ := hb
  unfold execOp
  rw [ho]
  have hn : fn.body.isNone = false := by cases h : fn.body <;> simp_all
  have h3' : (fn.name == "runtime.NumGoroutine") = false := by simpa using h3
  simp only [resolve, hf, Deferred.ofValue, invoke, callFunc, Sem.run_bind, run_program, Result.andThen_ok, h1, h3', hn, pure_bind, Bool.false_eq_true, if_false, Sem.run_pure]
theorem args_rep {G : Gh} {ok : Okc} {w : World} {a : Act} (R : RelT G ok w S a) (hg : Globs E.gl ok w) {vs us : Array Value} {as bs : List AV} {args : Array Operand} (l1 : vs.size = as.length) (l2 : us.size = bs.length)
    (h1 : ∀ (j : Nat) v b, vs[j]? = some v → as[j]? = some b → Rep ok w G v b) (h2 : ∀ (j : Nat) v b, us[j]? = some v → bs[j]? = some b → Rep ok w G v b) :
    (vs ++ args.map a.eval ++ us).size = (as ++ args.toList.map (ev E S) ++ bs).length ∧ ∀ (j : Nat) v b, (vs ++ args.map a.eval ++ us)[j]? = some v → (as ++ args.toList.map (ev E S) ++ bs)[j]? = some b → Rep ok w G v b := by
  refine ⟨by simp [l1, l2], fun j v b e e' => ?_⟩
  by_cases q1 : j < as.length
  · rw [Array.append_assoc, Array.getElem?_append_left (by omega)] at e
    rw [List.append_assoc, List.getElem?_append_left q1] at e'
    exact h1 j v b e e'
  · rw [Array.append_assoc, Array.getElem?_append_right (by omega)] at e
    rw [List.append_assoc, List.getElem?_append_right (by omega)] at e'
    rw [l1] at e
    by_cases q2 : j - as.length < args.size
    · rw [Array.getElem?_append_left (by simpa using q2)] at e
      rw [List.getElem?_append_left (by simpa using q2)] at e'
      rw [Array.getElem?_map] at e
      rw [List.getElem?_map, Array.getElem?_toList] at e'
      cases hx : args[j - as.length]? with
      | none => rw [hx] at e; cases e
      | some x => rw [hx] at e e'; cases e; cases e'; exact ev_rep R hg x
    · rw [Array.getElem?_append_right (by simpa using q2)] at e
      rw [List.getElem?_append_right (by simpa using q2)] at e'
      simp only [Array.size_map] at e
      simp only [List.length_map, Array.length_toList] at e'
      exact h2 _ v b e e'
theorem callee_rep {G : Gh} {ok : Okc} {w : World} {a : Act} (R : RelT G ok w S a) (hg : Globs E.gl ok w) {fo : Operand} {g : FuncId} {as bs : List AV} (hv : ev E S fo = .fn g as bs) :
    ∃ vs us, a.eval fo = .func (.func g) vs us ∧ vs.size = as.length ∧ us.size = bs.length ∧ (∀ (j : Nat) v b, vs[j]? = some v → as[j]? = some b → Rep ok w G v b) ∧ ∀ (j : Nat) v b, us[j]? = some v → bs[j]? = some b → Rep ok w G v b := by
  have r := ev_rep R hg fo
  rw [hv] at r
  generalize a.eval fo = q at r
  cases r with
  | fn _ _ vs us _ _ l1 l2 h1 h2 => exact ⟨vs, us, rfl, l1, l2, h1, h2⟩
theorem oper_wp {F : Fr} {G : Gh} {ok : Okc} {w : World} {a : Act} {o : Oper} {v : AV} {h' : Hp} {next : Act → World → Prop} {QQ : Exit → Act → World → Prop} (hM : ModOk E) (I : Inv F G ok w S.h) (R : RelT G ok w S a) (hg : Globs E.gl ok w) (e : opA E S o.op = .val v h')
    (hn : ∀ x w' G' ok', Adv G ok w G' ok' w' → Inv F G' ok' w' h' → Rep ok' w' G' x v → next (a.put o.dst x) w') : o.wp E.P a w next QQ := by
  by_cases hc : ∃ f args ts, o.op = .call ⟨.value f, args, ts⟩
  · obtain ⟨fo, args, ts, ho⟩ := hc
    rw [ho] at e
    simp only [opA] at e
    split at e
    · rename_i g as bs hv
      obtain ⟨vs, us, hf, l1, l2, h1, h2⟩ := callee_rep R hg hv
      obtain ⟨hl, hr⟩ := args_rep (args := args) R hg l1 l2 h1 h2
      obtain ⟨rfl, hb, hcall⟩ := callA_ok hM I hg hl hr e
      unfold Oper.wp
      rw [call_run ho hf hb, Oper.upon_enter]
      refine hcall.mono ?_
      rintro e w' ⟨x, ok', rfl, A, I', rx⟩
      exact hn x w' G ok' A I' rx
    · cases e
  · obtain ⟨n, x, w', G', ok', hrun, hnx, A, I', rx⟩ := opA_does I R hg (fun f args ts q => hc ⟨f, args, ts, q⟩) e
    unfold Oper.wp
    rw [hrun]
    rcases hnx with rfl | ⟨rfl, rfl⟩
    · exact hn x w' G' ok' A I' rx
    · exact hn _ w' G' ok' A I' rx
theorem callA_call {h : Hp} {g g' : FuncId} {as bs : List AV} (e : callA E h g as = .call g' bs) : g' = g ∧ bs = as := by
  unfold callA at e
  split at e
  · split at e <;> cases e
    exact ⟨rfl, rfl⟩
  · split at e
    · split at e
      · split at e <;> cases e
        exact ⟨rfl, rfl⟩
      · cases e; exact ⟨rfl, rfl⟩
    · cases e; exact ⟨rfl, rfl⟩
theorem of_call {h : Hp} {o : Option AV} {g : FuncId} {bs : List AV} (e : OR.of h o = .call g bs) : False := by cases o <;> cases e
theorem opA_call {op : Op} {g : FuncId} {bs : List AV} (e : opA E S op = .call g bs) : ∃ fo args ts as cs, op = .call ⟨.value fo, args, ts⟩ ∧ ev E S fo = .fn g as cs ∧ bs = as ++ args.toList.map (ev E S) ++ cs := by
  by_cases hc : ∃ c, op = .call c
  · obtain ⟨⟨callee, args, ts⟩, rfl⟩ := hc
    cases callee with
    | value fo =>
      simp only [opA] at e
      split at e
      · rename_i g' as cs hv
        obtain ⟨rfl, rfl⟩ := callA_call e
        exact ⟨fo, args, ts, as, cs, rfl, hv, rfl⟩
      · cases e
    | builtin b =>
      simp only [opA, bltA, appA, newA, newT] at e
      repeat' (split at e)
      all_goals first | (cases e; done) | exact (of_call e).elim
    | invoke r m => cases e
  · exfalso
    cases op with
    | call c => exact hc ⟨c, rfl⟩
    | slice t x lo hi mx =>
      cases mx with
      | some m => cases e
      | none =>
        simp only [opA] at e
        repeat' (split at e)
        all_goals first
          | (cases e; done)
          | exact (of_call e).elim
    | makeFunc fn a b => cases fn <;> cases e
    | _ =>
      first
        | (cases e; done)
        | exact (of_call e).elim
        | (simp only [opA, newA, newT, storeA] at e
           repeat' (split at e)
           all_goals first
             | (cases e; done)
             | exact (of_call e).elim)
theorem guard_ok {G : Gh} {ok : Okc} {w : World} {a : Act} {ops : Array Oper} {o : Oper} {t : Bool} (R : RelT G ok w S a) (h : guardA E ops.toList S o.guard = some t) : Region.wanted o (yielded ops a.tmps) = t := by
  unfold Region.wanted
  cases hg : o.guard with
  | none => rw [hg] at h; cases h; rfl
  | some jw =>
    obtain ⟨j, want⟩ := jw
    rw [hg] at h
    simp only [guardA, Array.getElem?_toList] at h
    split at h
    · rename_i d hd
      simp only [yielded, hd, Option.bind_some]
      have r := R.r d
      split at h
      · rename_i x hx
        cases h
        rw [hx] at r
        have hv : a.tmps[d]? = some (.bool x) := by
          cases hq : a.tmps[d]? with
          | none => rw [Array.getD_eq_getD_getElem?, hq] at r; cases r
          | some q => rw [Array.getD_eq_getD_getElem?, hq] at r; cases r; rfl
        rw [hv]
        cases x <;> cases want <;> rfl
      · rename_i vs hx
        cases h
        rw [hx] at r
        cases hq : a.tmps[d]? with
        | none => rfl
        | some q => rw [Array.getD_eq_getD_getElem?, hq] at r; cases r; rfl
      · cases h
    · cases h
theorem opA_pan {op : Op} {x : AV} (e : opA E S op = .pan x) : ∃ y, op = .panic y ∧ ev E S y = x ∧ ∃ t v, x = .ifc t v := by
  have of_pan : ∀ {h : Hp} {o : Option AV} {x : AV}, OR.of h o = .pan x → False := fun {h o x} e => by cases o <;> cases e
  cases op with
  | panic y =>
    simp only [opA] at e
    split at e
    · rename_i t v hv; cases e; exact ⟨y, rfl, hv, t, v, rfl⟩
    · cases e
  | call c =>
    exfalso
    obtain ⟨callee, args, ts⟩ := c
    cases callee with
    | value fo =>
      simp only [opA, callA] at e
      repeat' (split at e)
      all_goals (cases e)
    | builtin b =>
      simp only [opA, bltA, appA, newA, newT] at e
      repeat' (split at e)
      all_goals first | (cases e; done) | exact of_pan e
    | invoke r m => cases e
  | slice t x lo hi mx =>
    exfalso
    cases mx with
    | some m => cases e
    | none =>
      simp only [opA] at e
      repeat' (split at e)
      all_goals first
        | (cases e; done)
        | exact of_pan e
  | makeFunc fn a b => cases fn <;> cases e
  | _ =>
    exfalso
    first
      | (cases e; done)
      | exact of_pan e
      | (simp only [opA, newA, newT, storeA] at e
         repeat' (split at e)
         all_goals first
           | (cases e; done)
           | exact of_pan e)
/-- What is left of a region, to the end of the function. -/
inductive WR (E : Env) (f : FuncId) (all : List Oper) (K : List Item) (X : Ex → St → Prop) : RR → Prop
  | done (S : St) (h : T E f K S X) : WR E f all K X (.done S)
  | call (g : FuncId) (args : List AV) (d : Option Nat) (os : List Oper) (S : St) (R : Out → Hp → Prop) (hm : MeetsH E g args S.h R) (h1 : ∀ r h', R (.ret r) h' → WR E f all K X (runA E all os (St.put { S with h := h' } d r)))
      (h2 : ∀ r h', R (.pan r) h' → X (.pan r) { S with h := h' }) : WR E f all K X (.call g args d os S)
  | pan (x : AV) (S : St) (h : X (.pan x) S) : WR E f all K X (.pan x S)
/-- What holds at the end of a region. -/
def RegQ (E : Env) (f : FuncId) (K : List Item) (X : Ex → St → Prop) (F : Fr) (ds : List Deferred) : Exit → Act → World → Prop
  | .normal, a, w => a.defers = ds ∧ ∃ S G ok, Inv F G ok w S.h ∧ RelT G ok w S a ∧ T E f K S X
  | .panic c, a, w => a.defers = ds ∧ ∃ v S G ok x, c = [{ v, recovered := false }] ∧ Inv F G ok w S.h ∧ RelT G ok w S a ∧ Rep ok w G v x ∧ X (.pan x) S
  | _, _, _ => False
theorem put_h (S : St) (d : Option Nat) (v : AV) : (S.put d v).h = S.h := by
  cases d with
  | none => rfl
  | some d => simp only [St.put]; split <;> rfl
theorem put_defers (a : Act) (d : Option Nat) (v : Value) : (a.put d v).defers = a.defers := by cases d <;> rfl
theorem wr_wp {ops : Array Oper} {F : Fr} {ds : List Deferred} (hM : ModOk E) (hg0 : Globs E.gl F.ok0 F.w0) : ∀ (n : Nat) (rest : List Oper) (i : Nat) (S : St) (G : Gh) (ok : Okc) (w : World) (a : Act), rest.length = n → ops.toList.drop i = rest → WR E f ops.toList K X (runA E ops.toList rest S) → Inv F G ok w S.h → RelT G ok w S a → a.defers = ds →
    wpOps E.P ops (RegQ E f K X F ds) (List.range' i rest.length) a w
  | n, [], i, S, G, ok, w, a, hn, hd, h, I, R, ha => by
    cases h with
    | done S hT => exact ⟨ha, S, G, ok, I, R, hT⟩
  | 0, o :: os, i, S, G, ok, w, a, hn, hd, h, I, R, ha => by simp at hn
  | n + 1, o :: os, i, S, G, ok, w, a, hn, hd, h, I, R, ha => by
    have ho : ops[i]? = some o := by
      have : (ops.toList.drop i)[0]? = some o := by rw [hd]; rfl
      rw [List.getElem?_drop] at this
      simpa using this
    have hd' : ops.toList.drop (i + 1) = os := by
      have : (ops.toList.drop i).drop 1 = os := by rw [hd]; rfl
      rwa [List.drop_drop] at this
    have hlen : os.length = n := by simpa using hn
    rw [List.length_cons, List.range'_succ]
    simp only [wpOps, ho]
    unfold runA at h
    split at h
    · rename_i hgd
      rw [guard_ok R hgd, if_pos rfl]
      refine .inl ?_
      unfold stepA at h
      split at h
      · rename_i v h' hop
        refine oper_wp hM I R (glob_now hg0 I) hop (fun x w' G' ok' A I' rx => ?_)
        exact wr_wp hM hg0 n os (i + 1) _ G' ok' w' _ hlen hd' h (by rw [put_h]; exact I') ((R.adv A h').put o.dst rx) (by rw [put_defers]; exact ha)
      · rename_i g args hop
        cases h with
        | call _ _ _ _ _ RR hm h1 h2 =>
        obtain ⟨fo, as, ts, c1, c2, hoo, hv, rfl⟩ := opA_call hop
        have hgn := glob_now hg0 I
        obtain ⟨vs, us, hf, l1, l2, q1, q2⟩ := callee_rep R hgn hv
        obtain ⟨hl, hr⟩ := args_rep (args := as) R hgn l1 l2 q1 q2
        unfold Oper.wp
        rw [call_run hoo hf hm.1, Oper.upon_enter]
        refine (hm.2 F G ok w _ hM hgn I hl hr).mono (fun e w' hp => ?_)
        cases e with
        | returned x =>
          obtain ⟨r, h', G', ok', hR, A, rx, I'⟩ := hp
          exact wr_wp hM hg0 n os (i + 1) _ G' ok' w' _ hlen hd' (h1 r h' hR) (by rw [put_h]; exact I') ((R.adv A h').put o.dst rx) (by rw [put_defers]; exact ha)
        | panicked ch =>
          obtain ⟨x, r, h', G', ok', rfl, hR, A, rx, I'⟩ := hp
          exact ⟨ha, x, { S with h := h' }, G', ok', r, rfl, I', R.adv A h', rx, h2 r h' hR⟩
        | outgrown => exact hp.elim
      · rename_i x hop
        cases h
        rename_i hx
        obtain ⟨y, hoo, hv, t, v, rfl⟩ := opA_pan hop
        have r := ev_rep R (glob_now hg0 I) y
        rw [hv] at r
        generalize hq : a.eval y = q at r
        cases r with
        | ifc _ _ u _ ru =>
          unfold Oper.wp
          have : (execOp a.eval o).run E.P w = .halt (.panic (.iface t u)) w := by
            unfold execOp; rw [hoo]; simp only [hq]; rfl
          rw [this, Oper.upon_panic]
          exact ⟨ha, .iface t u, S, G, ok, .ifc t v, rfl, I, R, .ifc _ _ _ _ ru, hx⟩
      · cases h
    · rename_i hgd
      rw [guard_ok R hgd, if_neg (by simp)]
      exact wr_wp hM hg0 n os (i + 1) _ G ok w _ hlen hd' h (by rw [put_h]; exact I) (R.put o.dst (.tup _ #[] [] rfl (fun j v a h => by simp at h))) (by rw [put_defers]; exact ha)
    · cases h
end
end Go.Proofs.YthahgmncnbeddaaGreatDoorA
/- Regions as rules; a function's entry. -/
set_option linter.unusedVariables false
set_option linter.unusedSimpArgs false
namespace Go.Proofs.YthahgmncnbeddaaGreatDoorA
open Go Go.RowKit
section
variable {E : Env} {f : FuncId} {fn : Func} {rl : List ResultVar} {K : List Item} {S : St} {X : Ex → St → Prop} {Q : Out → Hp → Prop}
/-- From what a region ends in to the end of the function. -/
theorem reg_end {F : Fr} {b : Frame} {cs : List Frame} {m : Machine} {ds : List Deferred} (hM : ModOk E) (q3 : b.fn = f) (q5 : Globs E.gl F.ok0 F.w0)
    (h : ∃ e a' w', RegQ E f K X F ds e a' w' ∧ Arrives E.P m b K cs e a' w') : ∃ w' fr, Steps E.P m (lone fr cs w') ∧ fr.fn = f ∧ fr.kind = b.kind ∧ fr.defers = ds ∧ Fin F X fr w' := by
  obtain ⟨e, a', w', hq, harr⟩ := h
  cases e with
  | normal =>
    obtain ⟨ha, S', G', ok', I', R', hT⟩ := hq
    obtain ⟨w2, fr, hc, h1, h2, h3, h4⟩ := hT F G' ok' w' a' b cs hM q3 q5 I' R'
    exact ⟨w2, fr, Steps.trans harr hc, h1, h2, h3.trans ha, h4⟩
  | panic c =>
    obtain ⟨ha, v, S', G', ok', x, rfl, I', R', rv, hx⟩ := hq
    obtain ⟨todo, hs⟩ := harr
    exact ⟨w', _, hs, q3, rfl, ha, S', G', ok', I', R', .inr ⟨v, x, rfl, rv, hx⟩⟩
  | _ => exact hq.elim
theorem t_region {id : Nat} {ops : Array Oper} (h : WR E f ops.toList K X (runA E ops.toList ops.toList S)) : T E f (.code (.region id ops false) :: K) S X := by
  intro F G ok w a b cs q2 q3 q5 q6 q7
  have hw := wr_wp (ops := ops) (ds := a.defers) q2 q5 ops.toList.length ops.toList 0 S G ok w a rfl rfl h q6 q7 rfl
  have hr : List.range' 0 ops.toList.length = List.range ops.size := by rw [List.range_eq_range', Array.length_toList]
  rw [hr] at hw
  obtain ⟨w', fr, hc, r⟩ := reg_end q2 q3 q5 (wp_ops _ a w hw b K cs)
  exact ⟨w', fr, .head step_region hc, r⟩
/-- The rest of a region that has been begun. -/
theorem wr_done {all : List Oper} (h : T E f K S X) : WR E f all K X (.done S) := .done S h
/-- The temporaries of a call. -/
def envOf : Nat → List AV → List (Nat × AV)
  | _, [] => []
  | n, v :: r => (n, v) :: envOf (n + 1) r
theorem get_envOf : ∀ (l : List AV) (n j : Nat), get (envOf n l) j = if n ≤ j then (l[j - n]?).getD .un else .un
  | [], n, j => by simp [envOf, get]
  | v :: r, n, j => by
    simp only [envOf, get, get_envOf r (n + 1) j]
    by_cases h : n = j
    · subst h; simp
    · rw [if_neg h]
      by_cases h2 : n + 1 ≤ j
      · rw [if_pos h2, if_pos (by omega), show j - n = (j - (n + 1)) + 1 by omega]; rfl
      · rw [if_neg h2, if_neg (by omega)]
theorem enter_rel {G : Gh} {ok : Okc} {w : World} {vals : Array Value} {args : List AV} {n : Nat} {h : Hp} (hl : vals.size = args.length) (hn : args.length ≤ n) (hr : ∀ (j : Nat) v a, vals[j]? = some v → args[j]? = some a → Rep ok w G v a) :
    RelT G ok w ⟨envOf 0 args, n, h⟩ { tmps := vals ++ Array.replicate (n - vals.size) undef, defers := [] } := by
  refine ⟨by simp; omega, fun j => ?_⟩
  rw [get_envOf, if_pos (Nat.zero_le _), Nat.sub_zero, Array.getD_eq_getD_getElem?]
  by_cases hj : j < args.length
  · have hj' : j < vals.size := by omega
    rw [Array.getElem?_append_left hj', List.getElem?_eq_getElem hj, Array.getElem?_eq_getElem hj']
    exact hr j _ _ (Array.getElem?_eq_getElem hj') (List.getElem?_eq_getElem hj)
  · rw [List.getElem?_eq_none (by omega)]; exact .un ..
theorem enter_calls {F : Fr} {G : Gh} {ok : Okc} {w : World} {c : Code} {vals : Array Value} {args : List AV} {h : Hp} (hf : E.P.funcs[f]? = some fn) (hb : fn.body = some c) (hrl : fn.results.toList = rl) (hn : args.length ≤ fn.ntmps) (hM : ModOk E) (hg : Globs E.gl F.ok0 F.w0) (I : Inv F G ok w h) (hl : vals.size = args.length)
    (hr : ∀ (j : Nat) v a, vals[j]? = some v → args[j]? = some a → Rep ok w G v a) (hT : T E f [.code c] ⟨envOf 0 args, fn.ntmps, h⟩ (XQ E rl Q)) : Calls E.P f vals w (Post F Q) := by
  subst hrl
  intro cs
  have henter : Frame.enter E.P f vals .normal = ({ (default : Frame) with fn := f, kind := .normal } : Frame).at { tmps := vals ++ Array.replicate (fn.ntmps - vals.size) undef, defers := [] } [.code c] := by
    simp [Frame.enter, Frame.at, hf, hb]
  obtain ⟨w', fr, hc, h1, h2, h3, h4⟩ := hT F G ok w _ { (default : Frame) with fn := f, kind := .normal } cs hM rfl hg I (enter_rel hl hn hr)
  rw [← henter] at hc
  obtain ⟨e, hl', hp⟩ := fin_post hf h1 h2 h3 h4
  exact ⟨e, w', fr, hp, (by cases e with | outgrown => exact hp.elim | _ => exact hc), h1, hl'⟩
theorem hasBody {P : Program} {c : Code} (hf : P.funcs[f]? = some fn) (hb : fn.body = some c) (hnm : fn.name ≠ "runtime.NumGoroutine") : HasBody P f := ⟨fn, hf, by rw [hb]; rfl, hnm⟩
/-- It returns what reads as r. -/
def Rt (r : AV) : Out → Hp → Prop
  | .ret r', h => fz h 12 r' = r ∧ noid 12 r = true
  | .pan _, _ => False
/-- A pure function: its run, from nothing of its own. -/
theorem meetsP {args : List AV} {r : AV} {c : Code} (n : Nat) (rl : List ResultVar) (hM : ModOk E) (hf : E.P.funcs[f]? = some fn) (hb : fn.body = some c) (hnm : fn.name ≠ "runtime.NumGoroutine") (hrl : fn.results.toList = rl) (hN : fn.ntmps = n) (hn : args.length ≤ n)
    (hT : T E f [.code c] ⟨envOf 0 args, n, ⟨[], 0⟩⟩ (XQ E rl (Rt r))) : MeetsP E.P E.gl f args r := by
  subst hN
  refine ⟨hasBody hf hb hnm, fun ok w vals hg hlt hl hr => ?_⟩
  have I : Inv ⟨fun _ => False, w, ok, G0⟩ G0 ok w ⟨[], 0⟩ :=
    ⟨rfl, rfl, rfl, Nat.le_refl _, fun _ _ _ => rfl, fun _ _ _ _ q => q, .refl .., hlt, fun _ _ _ q _ => (List.not_mem_nil q).elim, ⟨fun _ _ q => (List.not_mem_nil q).elim, fun _ _ _ _ _ _ q _ => (List.not_mem_nil q).elim, .nil, fun _ _ => rfl⟩⟩
  refine (enter_calls (F := ⟨fun _ => False, w, ok, G0⟩) hf hb hrl hn hM hg I hl hr hT).mono (fun e w' hp => ?_)
  cases e with
  | returned v =>
    obtain ⟨r0, h, G, ok', ⟨e2, e3⟩, rv, I'⟩ := hp
    refine ⟨v, okB G ok' h, rfl, ⟨I'.os, I'.tape, I'.output, I'.size, fun b q => I'.keep b q (fun q => q)⟩, fun b i q1 q2 => ?_, fun b i q => .inl (I'.adv.c b i q).1, fun b i q => ?_, ?_⟩
    · rcases q2 with q2 | ⟨id, e, p, m, hp, rfl, _⟩
      · exact I'.okeep b q1 (fun q => q) i q2
      · rcases I'.own id e p m hp with q | q
        · exact q.elim
        · exact absurd q1 (Nat.not_lt.2 q)
    · rcases q with q | ⟨id, e, p, m, hp, rfl, _⟩
      · exact I'.lt b i q
      · obtain ⟨p', hp', h1, _⟩ := I'.rel.look id e m
        rw [hp] at hp'; cases hp'
        exact h1.lt
    · have := fz_rep I' 12 v _ (by rw [e2]; exact e3) rv
      rwa [e2] at this
  | panicked ch => obtain ⟨x, r0, h, G, ok', _, e1, _⟩ := hp; exact e1.elim
  | outgrown => exact hp.elim
theorem Inv.comp {F : Fr} {G G' : Gh} {ok ok' : Okc} {w w' : World} {h h' : Hp} (I : Inv F G ok w h) (J : Inv ⟨fun b => ∃ id e p, (id, e) ∈ h.c ∧ G id = some p ∧ p.b = b, w, ok, G⟩ G' ok' w' h') : Inv F G' ok' w' h' := by
  have nd : ∀ b, b < F.w0.heap.size → ¬ F.D b → ¬ ∃ id e p, (id, e) ∈ h.c ∧ G id = some p ∧ p.b = b := by
    rintro b q1 q2 ⟨id, e, p, m, hp, rfl⟩
    rcases I.own id e p m hp with q | q
    · exact q2 q
    · exact absurd q1 (Nat.not_lt.2 q)
  refine ⟨J.os.trans I.os, J.tape.trans I.tape, J.output.trans I.output, Nat.le_trans I.size J.size, fun b q1 q2 => (J.keep b (Nat.lt_of_lt_of_le q1 I.size) (nd b q1 q2)).trans (I.keep b q1 q2), fun b q1 q2 i q3 => I.okeep b q1 q2 i (J.okeep b (Nat.lt_of_lt_of_le q1 I.size) (nd b q1 q2) i q3), I.adv.trans J.adv, J.lt, fun id e p m hp => ?_, J.rel⟩
  rcases J.own id e p m hp with ⟨id', e', p', m', hp', q⟩ | q
  · rcases I.own id' e' p' m' hp' with q' | q'
    · rw [← q]; exact .inl q'
    · rw [← q]; exact .inr q'
  · exact .inr (Nat.le_trans I.size q)
theorem Inv.begin {F : Fr} {G : Gh} {ok : Okc} {w : World} {h : Hp} (I : Inv F G ok w h) : Inv ⟨fun b => ∃ id e p, (id, e) ∈ h.c ∧ G id = some p ∧ p.b = b, w, ok, G⟩ G ok w h :=
  ⟨rfl, rfl, rfl, Nat.le_refl _, fun _ _ _ => rfl, fun _ _ _ _ q => q, .refl .., I.lt, fun id e p m hp => .inl ⟨id, e, p, m, hp, rfl⟩, I.rel⟩
/-- A function that is told by its run, from what the caller has. -/
theorem meetsH {args : List AV} {h : Hp} {R : Out → Hp → Prop} {c : Code} (n : Nat) (rl : List ResultVar) (hf : E.P.funcs[f]? = some fn) (hb : fn.body = some c) (hnm : fn.name ≠ "runtime.NumGoroutine") (hrl : fn.results.toList = rl) (hN : fn.ntmps = n) (hn : args.length ≤ n)
    (hT : T E f [.code c] ⟨envOf 0 args, n, h⟩ (XQ E rl R)) : MeetsH E f args h R := by
  subst hN
  refine ⟨hasBody hf hb hnm, fun F G ok w vals hM hg I hl hr => ?_⟩
  refine (enter_calls (F := ⟨fun b => ∃ id e p, (id, e) ∈ h.c ∧ G id = some p ∧ p.b = b, w, ok, G⟩) hf hb hrl hn hM hg I.begin hl hr hT).mono (fun e w' hp => ?_)
  cases e with
  | returned v => obtain ⟨r, h', G', ok', q, rv, J⟩ := hp; exact ⟨r, h', G', ok', q, J.adv, rv, I.comp J⟩
  | panicked ch => obtain ⟨x, r, h', G', ok', e, q, rv, J⟩ := hp; exact ⟨x, r, h', G', ok', e, q, J.adv, rv, I.comp J⟩
  | outgrown => exact hp.elim
/-- A pure function, called as the caller stands. -/
theorem meetsH_of_P {args : List AV} {r : AV} {h : Hp} (hp : MeetsP E.P E.gl f args r) (hn : args.all (noid 12) = true) : MeetsH E f args h fun o h' => o = .ret r ∧ h' = h := by
  refine ⟨hp.1, fun F G ok w vals hM hg I hl hr => (hp.2 ok w vals hg I.lt hl (fun j v a q1 q2 => noid_rep 12 v a (List.all_eq_true.1 hn a (List.mem_of_getElem? q2)) (hr j v a q1 q2))).mono ?_⟩
  rintro e w' ⟨v, ok', rfl, B, q1, q2, q3, rv⟩
  obtain ⟨A, I'⟩ := I.below B q1 q2 q3
  exact ⟨r, h, G, ok', ⟨rfl, rfl⟩, A, rv.of0, I'⟩
end
end Go.Proofs.YthahgmncnbeddaaGreatDoorA
/- The steps of a region, one equation a step. -/
set_option linter.unusedVariables false
set_option linter.unusedSimpArgs false
namespace Go.Proofs.YthahgmncnbeddaaGreatDoorA
open Go Go.RowKit
def dstAt : List Oper → Nat → Option Nat
  | [], _ => none
  | o :: _, 0 => o.dst
  | _ :: r, n + 1 => dstAt r n
theorem dstAt_eq : ∀ (l : List Oper) (j : Nat), dstAt l j = (l[j]?).bind (·.dst)
  | [], j => by simp [dstAt]
  | o :: r, 0 => rfl
  | o :: r, n + 1 => by rw [dstAt, dstAt_eq r n]; rfl
/-- What is done with what an operation came to. -/
def runO (E : Env) (all : List Oper) (d : Option Nat) (os : List Oper) (S : St) : OR → RR
  | .val v h => runA E all os (St.put ⟨S.t, S.N, h⟩ d v)
  | .call f args => .call f args d os S
  | .pan x => .pan x S
  | .bad => .bad
def gval (want : Bool) : AV → Option Bool
  | .b x => some (cond want x (!x))
  | .tup _ => some false
  | _ => none
def runG (E : Env) (all : List Oper) (d : Option Nat) (op : Op) (os : List Oper) (S : St) : Option Bool → RR
  | some true => runO E all d os S (opA E S op)
  | some false => runA E all os (S.put d (.tup []))
  | none => .bad
@[go_sem] theorem run_nil (E : Env) (all : List Oper) (S : St) : runA E all [] S = .done S := rfl
@[go_sem] theorem run_op (E : Env) (all : List Oper) (S : St) (d : Option Nat) (op : Op) (ty : TypeId) (pos : String) (af : Array Edge) (os : List Oper) :
    runA E all (⟨d, op, ty, pos, af, none⟩ :: os) S = runO E all d os S (opA E S op) := by
  simp only [runA, guardA, stepA]
  cases opA E S op <;> rfl
@[go_sem] theorem run_gd (E : Env) (all : List Oper) (S : St) (d : Option Nat) (op : Op) (ty : TypeId) (pos : String) (af : Array Edge) (j : Nat) (want : Bool) (os : List Oper) :
    runA E all (⟨d, op, ty, pos, af, some (j, want)⟩ :: os) S = runG E all d op os S (match dstAt all j with | some t => gval want (get S.t t) | none => none) := by
  simp only [runA, guardA, dstAt_eq]
  cases (all[j]?).bind (·.dst) with
  | none => rfl
  | some t =>
    simp only
    generalize get S.t t = v
    cases v with
    | b x =>
      simp only [gval]
      rw [show (x == want) = cond want x (!x) by cases x <;> cases want <;> rfl]
      cases cond want x (!x) with
      | true => simp only [runG, stepA]; cases opA E S op <;> rfl
      | false => rfl
    | _ => rfl
@[go_sem] theorem runO_val (E : Env) (all : List Oper) (d : Option Nat) (os : List Oper) (S : St) (v : AV) (h : Hp) : runO E all d os S (.val v h) = runA E all os (St.put ⟨S.t, S.N, h⟩ d v) := rfl
@[go_sem] theorem runO_call (E : Env) (all : List Oper) (d : Option Nat) (os : List Oper) (S : St) (f : FuncId) (args : List AV) : runO E all d os S (.call f args) = .call f args d os S := rfl
@[go_sem] theorem runO_pan (E : Env) (all : List Oper) (d : Option Nat) (os : List Oper) (S : St) (x : AV) : runO E all d os S (.pan x) = .pan x S := rfl
@[go_sem] theorem runG_true (E : Env) (all : List Oper) (d : Option Nat) (op : Op) (os : List Oper) (S : St) : runG E all d op os S (some true) = runO E all d os S (opA E S op) := rfl
@[go_sem] theorem runG_false (E : Env) (all : List Oper) (d : Option Nat) (op : Op) (os : List Oper) (S : St) : runG E all d op os S (some false) = runA E all os (S.put d (.tup [])) := rfl
@[go_sem] theorem put_none (S : St) (v : AV) : S.put none v = S := rfl
@[go_sem] theorem put_some (t : List (Nat × AV)) (N d : Nat) (h : Hp) (v : AV) : St.put ⟨t, N, h⟩ (some d) v = if d < N then ⟨(d, v) :: t, N, h⟩ else ⟨t, N, h⟩ := rfl
@[go_sem] theorem get_cons (i : Nat) (v : AV) (r : List (Nat × AV)) (j : Nat) : get ((i, v) :: r) j = if i = j then v else get r j := rfl
@[go_sem] theorem ev_tmp (E : Env) (S : St) (t : Nat) : ev E S (.tmp t) = get S.t t := rfl
@[go_sem] theorem ev_const (E : Env) (S : St) (v : Value) : ev E S (.const v) = ofV v := rfl
@[go_sem] theorem ev_func (E : Env) (S : St) (f : FuncId) : ev E S (.func f) = .fn f [] [] := rfl
@[go_sem] theorem op_move (E : Env) (S : St) (x : Operand) : opA E S (.move x) = .val (ev E S x) S.h := rfl
@[go_sem] theorem op_assign (E : Env) (S : St) (x : Operand) : opA E S (.assign x) = .val (ev E S x) S.h := rfl
def pickA (h : Hp) (a b : AV) : AV → OR
  | .b t => .val (bif t then a else b) h
  | _ => .bad
@[go_sem] theorem op_pick (E : Env) (S : St) (c a b : Operand) : opA E S (.pick c a b) = pickA S.h (ev E S a) (ev E S b) (ev E S c) := by
  simp only [opA]
  cases ev E S c <;> rfl
@[go_sem] theorem op_bin (E : Env) (S : St) (op : BinOp) (t : TypeId) (x y : Operand) (yt : TypeId) : opA E S (.binOp op t x y yt) = .of S.h (binO E.P op t (ev E S x) (ev E S y) y) := rfl
@[go_sem] theorem binO_tmp (P : Program) (op : BinOp) (t : TypeId) (a b : AV) (j : Nat) : binO P op t a b (.tmp j) = binA P op t a b := rfl
@[go_sem] theorem binO_int (P : Program) (op : BinOp) (t : TypeId) (a b : AV) (k : IntKind) (n : Int) : binO P op t a b (.const (.int k n)) = binA P op t a b := rfl
@[go_sem] theorem binO_str (P : Program) (op : BinOp) (t : TypeId) (a b : AV) (s : ByteArray) : binO P op t a b (.const (.string s)) = binA P op t a b := rfl
@[go_sem] theorem binO_bool (P : Program) (op : BinOp) (t : TypeId) (a b : AV) (s : Bool) : binO P op t a b (.const (.bool s)) = binA P op t a b := rfl
@[go_sem] theorem binO_nils (P : Program) (op : BinOp) (t : TypeId) (a b : AV) (x : Option Addr) (n m : Nat) : binO P op t a b (.const (.slice x n m)) = binA P op t a b := rfl
@[go_sem] theorem binO_ptr (P : Program) (op : BinOp) (t : TypeId) (a b : AV) (x : Option Addr) : binO P op t a b (.const (.pointer x)) = binA P op t a b := rfl
@[go_sem] theorem binO_agg (P : Program) (op : BinOp) (t : TypeId) (a b : AV) (x : Array Value) : binO P op t a b (.const (.agg x)) = binA P op t a b := rfl
@[go_sem] theorem binO_ni (P : Program) (op : BinOp) (t : TypeId) (a b : AV) : binO P op t a b (.const .nilIface) = niA P op t a := rfl
@[go_sem] theorem op_un (E : Env) (S : St) (op : UnOp) (t : TypeId) (x : Operand) : opA E S (.unOp op t x) = .of S.h (unA op (ev E S x)) := rfl
@[go_sem] theorem of_some (h : Hp) (v : AV) : OR.of h (some v) = .val v h := rfl
section
variable {E : Env} {f : FuncId} {rl : List ResultVar} {all os : List Oper} {K : List Item} {S : St} {X : Ex → St → Prop} {Q : Out → Hp → Prop} {d : Option Nat} {op : Op}
theorem wg_t {b : Bool} (h1 : b = true → WR E f all K X (runO E all d os S (opA E S op))) (h2 : b = false → WR E f all K X (runA E all os (S.put d (.tup [])))) : WR E f all K X (runG E all d op os S (some b)) := by
  cases b with
  | true => exact h1 rfl
  | false => exact h2 rfl
theorem wg_f {b : Bool} (h1 : b = false → WR E f all K X (runO E all d os S (opA E S op))) (h2 : b = true → WR E f all K X (runA E all os (S.put d (.tup [])))) : WR E f all K X (runG E all d op os S (some (!b))) := by
  cases b with
  | true => exact h2 rfl
  | false => exact h1 rfl
theorem tb_true {x y : Code} (h : T E f (.code x :: K) S X) : TB E f x y K S X (.b true) := h
theorem tb_false {x y : Code} (h : T E f (.code y :: K) S X) : TB E f x y K S X (.b false) := h
@[go_sem] theorem xq_ret : XQ E rl Q .ret S = TR S Q (resA E S rl) := rfl
@[go_sem] theorem xq_pan {x : AV} : XQ E rl Q (.pan x) S = Q (.pan x) S.h := rfl
theorem tr_some {r : AV} (h : Q (.ret r) S.h) : TR S Q (some r) := h
end
/-- A loop: what holds at each head, and a measure. -/
theorem t_inv {E : Env} {f : FuncId} {K : List Item} {X : Ex → St → Prop} {c : Code} {N : Nat} {t0 : List (Nat × AV)} {h0 : Hp} {α : Type} (I : α → List (Nat × AV) → Hp → Prop) (m : α → Nat) (x0 : α) (hI : I x0 t0 h0)
    (round : ∀ x t h, I x t h → (∀ y t' h', I y t' h' → m y < m x → T E f (.inLoop c :: K) ⟨t', N, h'⟩ X) → T E f (.code c :: .inLoop c :: K) ⟨t, N, h⟩ X) : T E f (.code (.loop c) :: K) ⟨t0, N, h0⟩ X := by
  have key : ∀ (n : Nat) x t h, m x = n → I x t h → T E f (.code c :: .inLoop c :: K) ⟨t, N, h⟩ X := by
    intro n
    induction n using Nat.strongRecOn with
    | _ n ih => exact fun x t h hn hx => round x t h hx (fun y t' h' hy hlt => t_inLoop (ih (m y) (hn ▸ hlt) y t' h' rfl hy))
  exact t_loop (key _ x0 t0 h0 rfl hI)
theorem w64 {x : Int} (h1 : -9223372036854775808 ≤ x) (h2 : x ≤ 9223372036854775807) : IntKind.i64.wrap x = x := by
  simp only [IntKind.wrap, IntKind.bits, IntKind.signed]; simp; omega
def idxR : Option (List AV) → Option AV
  | some r => some (.ip r 0)
  | none => none
@[go_sem] theorem idx_isl {h : Hp} {k : Nat} {nn : Bool} {rows : List (List AV)} {i : Int} (h0 : 0 ≤ i) : idxA h k (.isl nn k rows) i = idxR rows[i.toNat]? := by
  show (if k = k ∧ 0 ≤ i then (match rows[i.toNat]? with | some row => some (AV.ip row 0) | none => none) else none : Option AV) = _
  rw [if_pos (And.intro (rfl : k = k) h0)]
  cases rows[i.toNat]? <;> rfl
def idxO (k : Nat) (v : AV) : Option Ent → Option AV
  | some (.rows k' _) => if k' = k then some v else none
  | _ => none
@[go_sem] theorem idx_osl {h : Hp} {k id off n : Nat} {i : Int} (h0 : 0 ≤ i) (h1 : i < (n : Int)) : idxA h k (.osl id off n) i = idxO k (.ptr id (off + i.toNat) 0) (look h.c id) := by
  simp only [idxA]
  split
  · rename_i k' l hl
    by_cases hk : k' = k
    · rw [if_pos ⟨hk, h0, h1⟩, hl]; simp [idxO, hk]
    · rw [if_neg (fun q => hk q.1), hl]; simp [idxO, hk]
  · rename_i hne
    unfold idxO
    split
    · exact absurd ‹_› (hne _ _)
    · rfl
@[go_sem] theorem ar_ptr {n k id r c : Nat} {i : Int} (h0 : 0 ≤ i) (h1 : i < (n : Int)) : arA n k (.ptr id r c) i = some (.ptr id r (c + i.toNat * k)) := by
  simp only [arA, if_pos (And.intro h0 h1)]
@[go_sem] theorem ar_ip {n k c : Nat} {row : List AV} {i : Int} (h0 : 0 ≤ i) (h1 : i < (n : Int)) : arA n k (.ip row c) i = some (.ip row (c + i.toNat * k)) := by
  simp only [arA, if_pos (And.intro h0 h1)]
@[go_sem] theorem sl_s {h : Hp} {k : Nat} {x : List UInt8} {lo hi : Int} (h0 : 0 ≤ lo) (h1 : lo ≤ hi) (h2 : hi ≤ (x.length : Int)) : slA h k (.s x) lo hi = some (.s ((x.take hi.toNat).drop lo.toNat)) := by
  simp only [slA, if_pos (And.intro h0 (And.intro h1 h2))]
@[go_sem] theorem sl_isl {h : Hp} {k : Nat} {nn : Bool} {x : List (List AV)} {lo hi : Int} (h0 : 0 ≤ lo) (h1 : lo ≤ hi) (h2 : hi ≤ (x.length : Int)) : slA h k (.isl nn k x) lo hi = some (.isl nn k ((x.take hi.toNat).drop lo.toNat)) := by
  exact if_pos (And.intro (rfl : k = k) (And.intro h0 (And.intro h1 h2)))
@[go_sem] theorem int_quo {k : IntKind} {x y : Int} (h : ¬ y = 0) : intA .quo k x y = some (.i k (k.wrap (x.tdiv y))) := if_neg h
@[go_sem] theorem int_rem {k : IntKind} {x y : Int} (h : ¬ y = 0) : intA .rem k x y = some (.i k (x.tmod y)) := if_neg h
@[go_sem] theorem int_add {k : IntKind} {x y : Int} : intA .add k x y = some (.i k (k.wrap (x + y))) := rfl
@[go_sem] theorem int_sub {k : IntKind} {x y : Int} : intA .sub k x y = some (.i k (k.wrap (x - y))) := rfl
@[go_sem] theorem int_mul {k : IntKind} {x y : Int} : intA .mul k x y = some (.i k (k.wrap (x * y))) := rfl
@[go_sem] theorem int_eql {k : IntKind} {x y : Int} : intA .eql k x y = some (.b (decide (x = y))) := rfl
@[go_sem] theorem int_neq {k : IntKind} {x y : Int} : intA .neq k x y = some (.b (!decide (x = y))) := rfl
@[go_sem] theorem int_lss {k : IntKind} {x y : Int} : intA .lss k x y = some (.b (decide (x < y))) := rfl
@[go_sem] theorem int_leq {k : IntKind} {x y : Int} : intA .leq k x y = some (.b (decide (x ≤ y))) := rfl
@[go_sem] theorem int_gtr {k : IntKind} {x y : Int} : intA .gtr k x y = some (.b (decide (y < x))) := rfl
@[go_sem] theorem int_geq {k : IntKind} {x y : Int} : intA .geq k x y = some (.b (decide (y ≤ x))) := rfl
@[go_sem] theorem str_add {x y : List UInt8} (h : x.length + y.length ≤ 9223372036854775807) : strA .add x y = some (.s (x ++ y)) := if_pos h
@[go_sem] theorem str_eql {x y : List UInt8} : strA .eql x y = some (.b (decide (x = y))) := by simp only [strA]; congr 2; rw [Bool.eq_iff_iff]; simp
@[go_sem] theorem str_neq {x y : List UInt8} : strA .neq x y = some (.b (!decide (x = y))) := by simp only [strA]; congr 3; rw [Bool.eq_iff_iff]; simp
attribute [go_sem] idxO idxR
attribute [go_sem] List.getElem?_toArray List.getElem?_cons_zero List.getElem?_cons_succ
attribute [go_sem] List.getElem?_eq_getElem Bool.false_eq_true List.drop_zero List.length_cons List.length_nil
attribute [go_sem] decide_true decide_false List.getElem?_map List.length_map Int.toNat_natCast Nat.zero_add Nat.add_zero Int.natCast_nonneg
attribute [go_sem] cond_true cond_false Bool.not_true Bool.not_false resA resL Option.map_some List.map_cons List.map_nil List.all_cons List.all_nil Bool.and_true Bool.true_and
attribute [go_sem] Ent.plain Ent.ty Ent.keep tyOf entT keepT newT
attribute [go_sem] opA OR.of newA loadA storeA look upd rmv part putRow bndA rowsA appA partsA bsA plA ev
@[go_sem] theorem noid_b (d : Nat) (x : Bool) : noid (d + 1) (.b x) = true := rfl
@[go_sem] theorem scal_b (d : Nat) (x : Bool) : scal (d + 1) (.b x) = true := rfl
@[go_sem] theorem fz_b (h : Hp) (d : Nat) (x : Bool) : fz h (d + 1) (.b x) = (.b x) := rfl
@[go_sem] theorem noid_i (d : Nat) (k : IntKind) (n : Int) : noid (d + 1) (.i k n) = true := rfl
@[go_sem] theorem scal_i (d : Nat) (k : IntKind) (n : Int) : scal (d + 1) (.i k n) = true := rfl
@[go_sem] theorem fz_i (h : Hp) (d : Nat) (k : IntKind) (n : Int) : fz h (d + 1) (.i k n) = (.i k n) := rfl
@[go_sem] theorem noid_s (d : Nat) (l : List UInt8) : noid (d + 1) (.s l) = true := rfl
@[go_sem] theorem scal_s (d : Nat) (l : List UInt8) : scal (d + 1) (.s l) = true := rfl
@[go_sem] theorem fz_s (h : Hp) (d : Nat) (l : List UInt8) : fz h (d + 1) (.s l) = (.s l) := rfl
@[go_sem] theorem noid_np (d : Nat)  : noid (d + 1) .np = true := rfl
@[go_sem] theorem scal_np (d : Nat)  : scal (d + 1) .np = true := rfl
@[go_sem] theorem fz_np (h : Hp) (d : Nat)  : fz h (d + 1) .np = .np := rfl
@[go_sem] theorem noid_nf (d : Nat)  : noid (d + 1) .nf = true := rfl
@[go_sem] theorem scal_nf (d : Nat)  : scal (d + 1) .nf = true := rfl
@[go_sem] theorem fz_nf (h : Hp) (d : Nat)  : fz h (d + 1) .nf = .nf := rfl
@[go_sem] theorem noid_ni (d : Nat)  : noid (d + 1) .ni = true := rfl
@[go_sem] theorem scal_ni (d : Nat)  : scal (d + 1) .ni = true := rfl
@[go_sem] theorem fz_ni (h : Hp) (d : Nat)  : fz h (d + 1) .ni = .ni := rfl
@[go_sem] theorem noid_nils (d : Nat)  : noid (d + 1) .nils = true := rfl
@[go_sem] theorem scal_nils (d : Nat)  : scal (d + 1) .nils = true := rfl
@[go_sem] theorem fz_nils (h : Hp) (d : Nat)  : fz h (d + 1) .nils = .nils := rfl
@[go_sem] theorem noid_un (d : Nat)  : noid (d + 1) .un = true := rfl
@[go_sem] theorem scal_un (d : Nat)  : scal (d + 1) .un = true := rfl
@[go_sem] theorem fz_un (h : Hp) (d : Nat)  : fz h (d + 1) .un = .un := rfl
@[go_sem] theorem noid_ip (d : Nat) (r : List AV) (c : Nat) : noid (d + 1) (.ip r c) = true := rfl
@[go_sem] theorem noid_isl (d : Nat) (nn : Bool) (k : Nat) (rows : List (List AV)) : noid (d + 1) (.isl nn k rows) = true := rfl
@[go_sem] theorem noid_agg (d : Nat) (cs : List AV) : noid (d + 1) (.agg cs) = cs.all (noid d) := rfl
@[go_sem] theorem noid_tup (d : Nat) (cs : List AV) : noid (d + 1) (.tup cs) = cs.all (noid d) := rfl
@[go_sem] theorem noid_ifc (d : Nat) (t : TypeId) (v : AV) : noid (d + 1) (.ifc t v) = noid d v := rfl
@[go_sem] theorem noid_fn (d : Nat) (f : FuncId) (a b : List AV) : noid (d + 1) (.fn f a b) = (a.all (noid d) && b.all (noid d)) := rfl
@[go_sem] theorem noid_ptr (d i r c : Nat) : noid (d + 1) (.ptr i r c) = false := rfl
@[go_sem] theorem noid_osl (d i o n : Nat) : noid (d + 1) (.osl i o n) = false := rfl
@[go_sem] theorem scal_agg (d : Nat) (cs : List AV) : scal (d + 1) (.agg cs) = cs.all (scal d) := rfl
@[go_sem] theorem scal_tup (d : Nat) (cs : List AV) : scal (d + 1) (.tup cs) = cs.all (scal d) := rfl
@[go_sem] theorem scal_isl (d : Nat) (nn : Bool) (k : Nat) (rows : List (List AV)) : scal (d + 1) (.isl nn k rows) = false := rfl
@[go_sem] theorem fz_ip (h : Hp) (d : Nat) (r : List AV) (c : Nat) : fz h (d + 1) (.ip r c) = .ip r c := rfl
@[go_sem] theorem fz_isl (h : Hp) (d : Nat) (nn : Bool) (k : Nat) (rows : List (List AV)) : fz h (d + 1) (.isl nn k rows) = .isl nn k rows := rfl
@[go_sem] theorem fz_agg (h : Hp) (d : Nat) (cs : List AV) : fz h (d + 1) (.agg cs) = .agg (cs.map (fz h d)) := rfl
@[go_sem] theorem fz_tup (h : Hp) (d : Nat) (cs : List AV) : fz h (d + 1) (.tup cs) = .tup (cs.map (fz h d)) := rfl
@[go_sem] theorem fz_ifc (h : Hp) (d : Nat) (t : TypeId) (v : AV) : fz h (d + 1) (.ifc t v) = .ifc t v := rfl
@[go_sem] theorem fz_fn (h : Hp) (d : Nat) (f : FuncId) (a b : List AV) : fz h (d + 1) (.fn f a b) = .fn f a b := rfl
@[go_sem] theorem fz_ptr (h : Hp) (d i r c : Nat) : fz h (d + 1) (.ptr i r c) = .ptr i r c := rfl
def lenT (h : Hp) (x : AV) : Option TypeDesc → OR
  | some .string => (match x with | .s l => .val (.i .i64 l.length) h | _ => .bad)
  | some (.array n _) => .val (.i .i64 n) h
  | some (.slice _) => (match x with | .s _ => .bad | x => (match lenA x with | some n => .val (.i .i64 n) h | none => .bad))
  | _ => .bad
@[go_sem] theorem blt_len (E : Env) (S : St) (t : TypeId) (x : AV) : bltA E S .len #[t] [x] = lenT S.h x (E.P.underlying t) := by
  simp only [bltA, List.getElem?_toArray, List.getElem?_cons_zero]
  cases hu : E.P.underlying t with
  | none => rfl
  | some d => cases d <;> rfl
@[go_sem] theorem lenT_s (h : Hp) (l : List UInt8) : lenT h (.s l) (some .string) = .val (.i .i64 l.length) h := rfl
@[go_sem] theorem lenT_a (h : Hp) (x : AV) (n : Nat) (e : TypeId) : lenT h x (some (.array n e)) = .val (.i .i64 n) h := rfl
@[go_sem] theorem lenT_n (h : Hp) (e : TypeId) : lenT h .nils (some (.slice e)) = .val (.i .i64 0) h := rfl
@[go_sem] theorem lenT_isl (h : Hp) (e : TypeId) (nn : Bool) (k : Nat) (rows : List (List AV)) : lenT h (.isl nn k rows) (some (.slice e)) = .val (.i .i64 rows.length) h := rfl
@[go_sem] theorem lenT_osl (h : Hp) (e : TypeId) (id off n : Nat) : lenT h (.osl id off n) (some (.slice e)) = .val (.i .i64 n) h := rfl
@[go_sem] theorem lenA_s (l : List UInt8) : lenA (.s l) = some (l.length : Int) := rfl
@[go_sem] theorem lenA_n : lenA .nils = some 0 := rfl
@[go_sem] theorem lenA_isl (nn : Bool) (k : Nat) (rows : List (List AV)) : lenA (.isl nn k rows) = some (rows.length : Int) := rfl
@[go_sem] theorem lenA_osl (id off n : Nat) : lenA (.osl id off n) = some (n : Int) := rfl
def appT (E : Env) (S : St) (s x : AV) (e : TypeId) (k : Nat) : Option TypeDesc → Option TypeInfo → Option (List AV) → OR
  | some (.int _), _, _ => .bad
  | some _, some i, some z => if z.length = k then appA S.h k i.bytes (bif u8T E.P e then some e else none) s x else .bad
  | _, _, _ => .bad
@[go_sem] theorem blt_app (E : Env) (S : St) (t u : TypeId) (s x : AV) : bltA E S .append #[t, u] [s, x] = (match elT E.P t with | some (k, e) => appT E S s x e k (E.P.underlying u) (E.P.info? e) (zeroT E.P e) | none => .bad) := by
  simp only [bltA, List.getElem?_toArray, List.getElem?_cons_zero, List.getElem?_cons_succ]
  cases elT E.P t with
  | none => rfl
  | some p =>
    obtain ⟨k, e⟩ := p
    cases E.P.underlying u with
    | none => rfl
    | some d =>
      dsimp only
      generalize E.P.info? e = a
      generalize zeroT E.P e = b
      cases d <;> cases a <;> cases b <;> rfl
attribute [go_sem] appT
@[go_sem] theorem one_b (x : Bool) : one (.b x) = true := rfl
@[go_sem] theorem one_i (k : IntKind) (n : Int) : one (.i k n) = true := rfl
@[go_sem] theorem one_s (l : List UInt8) : one (.s l) = true := rfl
@[go_sem] theorem one_np : one .np = true := rfl
@[go_sem] theorem one_nf : one .nf = true := rfl
@[go_sem] theorem one_ni : one .ni = true := rfl
@[go_sem] theorem one_nils : one .nils = true := rfl
@[go_sem] theorem one_ptr (i r c : Nat) : one (.ptr i r c) = true := rfl
@[go_sem] theorem one_ip (r : List AV) (c : Nat) : one (.ip r c) = true := rfl
@[go_sem] theorem one_isl (nn : Bool) (k : Nat) (rows : List (List AV)) : one (.isl nn k rows) = true := rfl
@[go_sem] theorem one_osl (i o n : Nat) : one (.osl i o n) = true := rfl
@[go_sem] theorem one_itr (i : Nat) : one (.itr i) = true := rfl
@[go_sem] theorem one_fn (f : FuncId) (a b : List AV) : one (.fn f a b) = true := rfl
@[go_sem] theorem one_ifc (t : TypeId) (v : AV) : one (.ifc t v) = true := rfl
@[go_sem] theorem one_agg (l : List AV) : one (.agg l) = false := rfl
@[go_sem] theorem cells_b (x : Bool) : cellsA (.b x) = some [.b x] := rfl
@[go_sem] theorem cells_i (k : IntKind) (n : Int) : cellsA (.i k n) = some [.i k n] := rfl
@[go_sem] theorem cells_s (l : List UInt8) : cellsA (.s l) = some [.s l] := rfl
@[go_sem] theorem cells_np : cellsA .np = some [.np] := rfl
@[go_sem] theorem cells_nf : cellsA .nf = some [.nf] := rfl
@[go_sem] theorem cells_ni : cellsA .ni = some [.ni] := rfl
@[go_sem] theorem cells_nils : cellsA .nils = some [.nils] := rfl
@[go_sem] theorem cells_ptr (i r c : Nat) : cellsA (.ptr i r c) = some [.ptr i r c] := rfl
@[go_sem] theorem cells_ip (r : List AV) (c : Nat) : cellsA (.ip r c) = some [.ip r c] := rfl
@[go_sem] theorem cells_isl (nn : Bool) (k : Nat) (rows : List (List AV)) : cellsA (.isl nn k rows) = some [.isl nn k rows] := rfl
@[go_sem] theorem cells_osl (i o n : Nat) : cellsA (.osl i o n) = some [.osl i o n] := rfl
@[go_sem] theorem cells_itr (i : Nat) : cellsA (.itr i) = some [.itr i] := rfl
@[go_sem] theorem cells_fn (f : FuncId) (a b : List AV) : cellsA (.fn f a b) = some [.fn f a b] := rfl
@[go_sem] theorem cells_ifc (t : TypeId) (v : AV) : cellsA (.ifc t v) = some [.ifc t v] := rfl
@[go_sem] theorem cells_agg (cs : List AV) : cellsA (.agg cs) = if cs.all one then some cs else none := rfl
attribute [go_sem] ofV ofV1 envOf pickA gval dstAt binA unA shA eqB nilA niA nilP eqA eqC eqG
end Go.Proofs.YthahgmncnbeddaaGreatDoorA
/- Regions that draw their order: calm operations, in whatever order, then a tail in the order of the text. -/
set_option linter.unusedVariables false
set_option linter.unusedSimpArgs false
namespace Go.Proofs.YthahgmncnbeddaaGreatDoorA
open Go Go.RowKit
/-- An operation that does nothing but give a value (if it makes no block). -/
def pureK : Op → Bool
  | .move _ | .pick .. | .load .. | .nilCheck _ | .binOp .. | .unOp .. | .convert .. | .fieldAddr .. | .field .. | .indexAddr .. | .index .. | .extract .. | .slice .. | .build .. => true
  | .call ⟨.value _, _, _⟩ => true
  | .call ⟨.builtin .len, _, _⟩ => true
  | _ => false
theorem parts_congr {E : Env} {S S' : St} (pl : Nat → Option (Nat × Nat)) : ∀ (parts : List (Nat × Operand)) (row : List AV), (∀ p ∈ parts, ev E S p.2 = ev E S' p.2) → partsA E S pl row parts = partsA E S' pl row parts
  | [], row, h => rfl
  | (i, x) :: r, row, h => by
    simp only [partsA, h (i, x) (List.mem_cons_self ..)]
    split
    · split
      · split
        · exact parts_congr pl r _ (fun p hp => h p (List.mem_cons_of_mem _ hp))
        · rfl
      · rfl
    · rfl
theorem bnd_congr {E : Env} {S S' : St} {d : Nat} {o : Option Operand} (h : ∀ x, o = some x → ev E S x = ev E S' x) : bndA d S E o = bndA d S' E o := by
  cases o with
  | none => rfl
  | some x => simp only [bndA, h x rfl]
theorem opA_congr {E : Env} {S S' : St} {op : Op} (hp : pureK op = true) (hh : S.h = S'.h) (h : ∀ x ∈ op.operands, ev E S x = ev E S' x) : opA E S op = opA E S' op := by
  cases op <;> try (cases hp; done)
  case move x => simp only [opA, hh, h x (by simp [Op.operands])]
  case pick c a b => simp only [opA, hh, h c (by simp [Op.operands]), h a (by simp [Op.operands]), h b (by simp [Op.operands])]
  case load t a => simp only [opA, hh, h a (by simp [Op.operands])]
  case nilCheck x => simp only [opA, hh, h x (by simp [Op.operands])]
  case binOp op t x y yt => simp only [opA, hh, h x (by simp [Op.operands]), h y (by simp [Op.operands])]
  case unOp op t x => simp only [opA, hh, h x (by simp [Op.operands])]
  case convert s d x => simp only [opA, hh, h x (by simp [Op.operands])]
  case fieldAddr s x f => simp only [opA, hh, h x (by simp [Op.operands])]
  case field s x f => simp only [opA, hh, h x (by simp [Op.operands])]
  case indexAddr t x ix => simp only [opA, hh, h x (by simp [Op.operands]), h ix (by simp [Op.operands])]
  case index t x ix => simp only [opA, hh, h x (by simp [Op.operands]), h ix (by simp [Op.operands])]
  case extract x i => simp only [opA, hh, h x (by simp [Op.operands])]
  case slice t x lo hi mx =>
    cases mx with
    | some m => rfl
    | none =>
      have h1 : ∀ d, bndA d S E lo = bndA d S' E lo := fun d => bnd_congr (fun y hy => h y (by subst hy; simp [Op.operands]))
      have h2 : ∀ d, bndA d S E hi = bndA d S' E hi := fun d => bnd_congr (fun y hy => h y (by subst hy; simp [Op.operands]))
      simp only [opA, hh, h x (by simp [Op.operands]), h1, h2]
  case build t parts =>
    simp only [opA, hh]
    split
    · rename_i z pl hz hpl
      rw [parts_congr (plA pl) parts.toList z (fun p hp => h p.2 (by
        simp only [Op.operands]
        exact List.mem_toArray.2 (List.mem_map.2 ⟨p, hp, rfl⟩)))]
    · rfl
  case call c =>
    obtain ⟨callee, args, ts⟩ := c
    have ha : args.toList.map (ev E S) = args.toList.map (ev E S') := List.map_congr_left (fun x hx => h x (by simp only [Op.operands, Call.operands]; exact Array.mem_append.2 (.inr (Array.mem_toList_iff.1 hx))))
    cases callee with
    | value fo => simp only [opA, hh, ha, h fo (by simp [Op.operands, Call.operands])]
    | builtin b =>
      cases b <;> try (cases hp; done)
      simp only [opA, ha, bltA, hh]
    | invoke r m => cases hp
end Go.Proofs.YthahgmncnbeddaaGreatDoorA
/- Regions that draw their order: two operations that do not wait for one another may change places. -/
set_option linter.unusedVariables false
set_option linter.unusedSimpArgs false
namespace Go.Proofs.YthahgmncnbeddaaGreatDoorA
open Go Go.RowKit
/-- 0: a value of values; 1: a look at the own blocks; 2: a store; 3: a new block; 4: an append. -/
def cls : Op → Nat
  | .move _ | .assign _ | .pick .. | .nilCheck _ | .binOp .. | .unOp .. | .fieldAddr .. | .field .. | .index .. | .extract .. | .build .. => 0
  | .call ⟨.builtin .len, _, _⟩ => 0
  | .call ⟨.builtin .min, _, _⟩ => 0
  | .call ⟨.builtin .max, _, _⟩ => 0
  | .load .. | .indexAddr .. | .slice .. => 1
  | .call ⟨.value _, _, _⟩ => 1
  | .store .. => 2
  | .alloc _ | .box .. | .buildSlice .. | .makeSlice .. => 3
  | .call ⟨.builtin .append, _, _⟩ => 4
  | _ => 9
def tmpsOf (op : Op) : List Tmp := op.operands.toList.filterMap fun | .tmp t => some t | _ => none
/-- What an operation reads: its operands, and its guard. -/
def readsOf (ops : Array Oper) (o : Oper) : List Tmp := tmpsOf o.op ++ (match o.guard with | some (j, _) => (dstAt ops.toList j).toList | none => [])
def apartB (ops : Array Oper) (o o' : Oper) : Bool :=
  (match o.dst with | some d => !(readsOf ops o').contains d | none => true) && (match o'.dst with | some d => !(readsOf ops o).contains d | none => true) && (match o.dst, o'.dst with | some d, some d' => d != d' | _, _ => true)
/-- o stands ahead of o' in the text: they may change places. -/
def swapB (ops : Array Oper) (o o' : Oper) : Bool :=
  apartB ops o o' && (match cls o.op, cls o'.op with
    | 0, 0 | 0, 1 | 1, 0 | 1, 1 | 0, 2 | 0, 3 | 2, 0 | 3, 0 | 1, 3 | 2, 3 | 0, 4 | 4, 0 => true
    | _, _ => false)
structure Alike (S S' : St) : Prop where
  N : S.N = S'.N
  h : S.h = S'.h
  t : ∀ j, get S.t j = get S'.t j
theorem Alike.refl (S : St) : Alike S S := ⟨rfl, rfl, fun _ => rfl⟩
theorem Alike.trans {S S' S'' : St} (h : Alike S S') (k : Alike S' S'') : Alike S S'' := ⟨h.N.trans k.N, h.h.trans k.h, fun j => (h.t j).trans (k.t j)⟩
theorem Alike.put {S S' : St} (h : Alike S S') (d : Option Nat) (v : AV) (hp : Hp) : Alike (St.put { S with h := hp } d v) (St.put { S' with h := hp } d v) := by
  cases d with
  | none => exact ⟨h.N, rfl, h.t⟩
  | some d =>
    simp only [St.put, h.N]
    split
    · exact ⟨rfl, rfl, fun j => by simp only [get_cons, h.t]⟩
    · exact ⟨rfl, rfl, h.t⟩
theorem get_put (S : St) (d : Option Nat) (v : AV) (j : Nat) (h : d ≠ some j) : get (S.put d v).t j = get S.t j := by
  cases d with
  | none => rfl
  | some d =>
    simp only [St.put]
    split
    · rw [get_cons, if_neg (fun e => h (by rw [e]))]
    · rfl
theorem put_comm (S : St) (d d' : Option Nat) (v v' : AV) (h : d ≠ d' ∨ d = none) : Alike ((S.put d v).put d' v') ((S.put d' v').put d v) := by
  cases d with
  | none => exact .refl _
  | some d =>
    cases d' with
    | none => exact .refl _
    | some d' =>
      have hd : d ≠ d' := fun e => h.elim (fun q => q (by rw [e])) (fun q => by cases q)
      simp only [St.put]
      by_cases h1 : d < S.N <;> by_cases h2 : d' < S.N <;> simp only [h1, h2, if_true, if_false] <;> first
        | exact .refl _
        | refine ⟨rfl, rfl, fun j => ?_⟩
      simp only [get_cons]
      by_cases e1 : d' = j
      · rw [if_pos e1]
        by_cases e2 : d = j
        · exact absurd (e2.trans e1.symm) hd
        · rw [if_neg e2, if_pos e1]
      · rw [if_neg e1, if_neg e1]
section
variable {E : Env} {S S' : St}
theorem ev_tmps (h : ∀ t, get S.t t = get S'.t t) (x : Operand) : ev E S x = ev E S' x := by
  cases x <;> first | exact h _ | rfl
theorem ev_of {op : Op} (h : ∀ t ∈ tmpsOf op, get S.t t = get S'.t t) : ∀ x ∈ op.operands, ev E S x = ev E S' x := fun x hx => by
  cases x with
  | tmp t => exact h t (List.mem_filterMap.2 ⟨.tmp t, by simpa using hx, rfl⟩)
  | _ => rfl
theorem bs_congr (k : Nat) : ∀ (parts : List (Nat × Operand)) (rows : List (List AV)), (∀ p ∈ parts, ev E S p.2 = ev E S' p.2) → bsA E S k rows parts = bsA E S' k rows parts
  | [], row, h => rfl
  | (i, x) :: r, row, h => by
    simp only [bsA, h (i, x) (List.mem_cons_self ..)]
    split
    · split
      · exact bs_congr k r _ (fun p hp => h p (List.mem_cons_of_mem _ hp))
      · rfl
    · rfl
/-- An operation looks at its operands and the own blocks alone. -/
theorem opA_same {op : Op} (hc : cls op ≤ 4) (hh : S.h = S'.h) (h : ∀ x ∈ op.operands, ev E S x = ev E S' x) : opA E S op = opA E S' op := by
  by_cases hp : pureK op = true
  · exact opA_congr hp hh h
  · cases op <;> first
      | (exact absurd rfl hp)
      | (exfalso; revert hc; simp [cls]; done)
      | skip
    case assign x => simp only [opA, hh, h x (by simp [Op.operands])]
    case alloc t => simp only [opA, hh]
    case box t x => simp only [opA, hh, h x (by simp [Op.operands])]
    case buildSlice t n parts =>
      have hb : ∀ k rows, bsA E S k rows parts.toList = bsA E S' k rows parts.toList := fun k rows => bs_congr k parts.toList rows (fun p hp => h p.2 (by
        simp only [Op.operands]
        exact List.mem_toArray.2 (List.mem_map.2 ⟨p, hp, rfl⟩)))
      simp only [opA, hh, hb]
    case store t a x => simp only [opA, hh, h a (by simp [Op.operands]), h x (by simp [Op.operands])]
    case makeSlice t l c => simp only [opA, hh, h l (by simp [Op.operands]), h c (by simp [Op.operands])]
    case call c =>
      obtain ⟨callee, c_args, ts⟩ := c
      cases callee with
      | value fo => exact absurd rfl hp
      | builtin b =>
        have ha : c_args.toList.map (ev E S) = c_args.toList.map (ev E S') := List.map_congr_left (fun x hx => h x (by simp only [Op.operands, Call.operands]; exact Array.mem_append.2 (.inr (Array.mem_toList_iff.1 hx))))
        cases b <;> first | exact absurd rfl hp | (exfalso; revert hc; simp [cls]; done) | (simp only [opA, ha, bltA, hh])
      | invoke r m => exact absurd hc (by simp [cls])
theorem ev_h (g : Hp) (x : Operand) : ev E { S with h := g } x = ev E S x := ev_tmps (fun _ => rfl) x
theorem ev_hf (g : Hp) : ev E { S with h := g } = ev E S := funext (ev_h g)
theorem of_free {o : Option AV} {v : AV} {h h' g : Hp} (e : OR.of h o = .val v h') : h' = h ∧ OR.of g o = .val v g := by
  obtain ⟨rfl, rfl⟩ := OR.of_val e; exact ⟨rfl, rfl⟩
/-- A value of values: whatever the own blocks are. -/
theorem opA_free {op : Op} {v : AV} {h' : Hp} (hc : cls op = 0) (e : opA E S op = .val v h') (g : Hp) : h' = S.h ∧ opA E { S with h := g } op = .val v g := by
  cases op <;> first
    | (exfalso; revert hc; simp [cls]; done)
    | skip
  case move x => cases e; exact ⟨rfl, by simp only [opA, ev_h]⟩
  case assign x => cases e; exact ⟨rfl, by simp only [opA, ev_h]⟩
  case pick c a b =>
    rw [op_pick] at e ⊢
    simp only [ev_h]
    unfold pickA at e ⊢
    split at e
    · cases e; exact ⟨rfl, rfl⟩
    · cases e
  case nilCheck x =>
    simp only [opA, ev_h] at e ⊢
    split at e <;> cases e <;> exact ⟨rfl, rfl⟩
  case binOp op t x y yt => simp only [op_bin, ev_h] at e ⊢; exact of_free e
  case unOp op t x => simp only [op_un, ev_h] at e ⊢; exact of_free e
  case fieldAddr s x f =>
    simp only [opA, ev_h] at e ⊢
    split at e <;> cases e <;> exact ⟨rfl, rfl⟩
  case field s x f =>
    simp only [opA, ev_h] at e ⊢
    split at e
    · split at e
      · exact of_free e
      · cases e
    · cases e
  case index t x ix =>
    simp only [opA, ev_h] at e ⊢
    split at e
    · split at e
      · split at e
        · rename_i h0
          split at e
          · cases e; exact ⟨rfl, if_pos h0⟩
          · cases e
        · cases e
      · cases e
    · split at e
      · split at e
        · split at e
          · rename_i h0
            exact ⟨(of_free (g := g) e).1, by rw [if_pos h0]; exact (of_free e).2⟩
          · cases e
        · cases e
      · cases e
    · cases e
  case extract x i =>
    simp only [opA, ev_h] at e ⊢
    split at e
    · exact of_free e
    · cases e
  case build t parts =>
    simp only [opA] at e ⊢
    split at e
    · rename_i z pl hz hpl
      rw [parts_congr (S := { S with h := g }) (S' := S) (plA pl) parts.toList z (fun p _ => ev_h g p.2)]
      exact of_free e
    · cases e
  case call c =>
    obtain ⟨callee, args, ts⟩ := c
    cases callee with
    | value fo => exact absurd hc (by simp [cls])
    | builtin b =>
      cases b <;> first
        | (exfalso; revert hc; simp [cls]; done)
        | skip
      · simp only [opA, bltA, ev_hf] at e ⊢
        split at e
        · split at e
          · split at e
            · split at e
              · cases e; exact ⟨rfl, rfl⟩
              · cases e
            · cases e; exact ⟨rfl, rfl⟩
            · split at e
              · cases e
              · split at e
                · cases e; exact ⟨rfl, rfl⟩
                · cases e
            · cases e
          · cases e
        · rename_i hb _; cases hb
        · rename_i hb _; cases hb
        · rename_i hb _; cases hb
        · cases e
      all_goals
        simp only [opA, bltA, ev_hf] at e ⊢
        split at e
        · rename_i hb _; cases hb
        · rename_i hb _; cases hb
        all_goals first
          | (rename_i hb _; cases hb; done)
          | exact of_free e
          | (cases e; done)
    | invoke r m => exact absurd hc (by simp [cls])
/-- One block more. -/
def more (h : Hp) (e : Ent) : Hp := ⟨(h.n, e) :: h.c, h.n + 1⟩
def WFh (h : Hp) : Prop := ∀ id e, look h.c id = some e → id < h.n
theorem look_more {h : Hp} {e e' : Ent} {id : Nat} (hw : WFh h) (hl : look h.c id = some e) : look (more h e').c id = some e := by
  simp only [more, look]
  rw [if_neg (Nat.ne_of_gt (hw id e hl))]; exact hl
theorem fz_more {h : Hp} {e : Ent} (hw : WFh h) : ∀ (d : Nat) (a : AV), noid d (fz h d a) = true → fz (more h e) d a = fz h d a
  | 0, a, hn => rfl
  | d + 1, a, hn => by
    cases a with
    | osl id off n =>
      simp only [fz] at hn ⊢
      split at hn
      · rename_i k l hl
        split at hn
        · rename_i hc
          simp only [look_more hw hl, hl]
          have hall : ∀ row ∈ (l.drop off).take n, row.map (fz (more h e) d) = row.map (fz h d) := fun row hr => List.map_congr_left (fun x hx => fz_more hw d x (by
            have := List.all_eq_true.1 hc.2 _ (List.mem_map.2 ⟨row, hr, rfl⟩)
            exact List.all_eq_true.1 this _ (List.mem_map.2 ⟨x, hx, rfl⟩)))
          have : (((l.drop off).take n).map fun row => row.map (fz (more h e) d)) = ((l.drop off).take n).map fun row => row.map (fz h d) := List.map_congr_left hall
          simp only [this]
        · cases hn
      · cases hn
    | agg cs =>
      simp only [fz] at hn ⊢
      simp only [noid, List.all_eq_true] at hn
      congr 1
      exact List.map_congr_left (fun x hx => fz_more hw d x (hn _ (List.mem_map.2 ⟨x, hx, rfl⟩)))
    | tup cs =>
      simp only [fz] at hn ⊢
      simp only [noid, List.all_eq_true] at hn
      congr 1
      exact List.map_congr_left (fun x hx => fz_more hw d x (hn _ (List.mem_map.2 ⟨x, hx, rfl⟩)))
    | _ => rfl
theorem opA_more {op : Op} {v : AV} {h' : Hp} {e : Ent} (hw : WFh S.h) (hc : cls op = 1) (he : opA E S op = .val v h') : h' = S.h ∧ opA E { S with h := more S.h e } op = .val v (more S.h e) := by
  cases op <;> first
    | (exfalso; revert hc; simp [cls]; done)
    | skip
  case load t a =>
    simp only [opA, ev_h] at he ⊢
    obtain ⟨e1, rfl⟩ := OR.of_val he
    refine ⟨rfl, ?_⟩
    have : loadA E.P t (more S.h e) (ev E S a) = some v := by
      rw [← e1]
      unfold loadA at e1 ⊢
      split at e1
      · split at e1
        · split at e1
          · rename_i k l hl; simp only [look_more hw hl, hl]
          · cases e1
        · rfl
        · cases e1
      · cases e1
    rw [this]; rfl
  case indexAddr t x ix =>
    have hi : ∀ k a i v, idxA S.h k a i = some v → idxA (more S.h e) k a i = some v := fun k a i v q => by
      unfold idxA at q ⊢
      split at q
      · exact q
      · split at q
        · rename_i k l hl; simp only [look_more hw hl]; exact q
        · cases q
      · cases q
    simp only [opA, ev_h] at he ⊢
    split at he
    · split at he
      · obtain ⟨e1, rfl⟩ := OR.of_val he
        refine ⟨rfl, ?_⟩
        rw [hi _ _ _ _ e1]; rfl
      · split at he
        · exact of_free he
        · cases he
    · cases he
  case slice t x lo hi mx =>
    cases mx with
    | some m => cases he
    | none =>
    have hs : ∀ k a l h v, slA S.h k a l h = some v → slA (more S.h e) k a l h = some v := fun k a l h v q => by
      unfold slA at q ⊢
      split at q <;> first
        | exact q
        | (split at q
           · rename_i k l hl; simp only [look_more hw hl]; exact q
           · cases q)
    have hb : ∀ d o, bndA d { S with h := more S.h e } E o = bndA d S E o := fun d o => bnd_congr (fun x _ => ev_h _ x)
    simp only [opA, ev_h, hb] at he ⊢
    split at he
    · split at he
      · split at he
        · obtain ⟨e1, rfl⟩ := OR.of_val he
          refine ⟨rfl, ?_⟩
          rw [hs _ _ _ _ _ e1]; rfl
        · cases he
      · cases he
    · split at he
      · cases he
      · split at he
        · split at he
          · obtain ⟨e1, rfl⟩ := OR.of_val he
            refine ⟨rfl, ?_⟩
            rw [hs _ _ _ _ _ e1]; rfl
          · cases he
        · cases he
      · cases he
    · cases he
  case call c =>
    obtain ⟨callee, args, ts⟩ := c
    cases callee with
    | builtin b => exfalso; revert hc; cases b <;> simp [cls]
    | invoke r m => exfalso; revert hc; simp [cls]
    | value fo =>
      simp only [opA, ev_hf] at he ⊢
      split at he
      · rename_i g as cs hv
        generalize as ++ args.toList.map (ev E S) ++ cs = L at he ⊢
        unfold callA at he ⊢
        split at he
        · rename_i hn
          rw [if_pos hn]
          split at he
          · cases he; exact ⟨rfl, rfl⟩
          · cases he
        · rename_i hn
          rw [if_neg hn]
          split at he
          · rename_i hn2
            have hm : L.map (fz (more S.h e) 12) = L.map (fz S.h 12) := List.map_congr_left (fun x hx => fz_more hw 12 x (List.all_eq_true.1 hn2 _ (List.mem_map.2 ⟨x, hx, rfl⟩)))
            simp only [hm]
            rw [if_pos hn2]
            split at he
            · rename_i r hr
              split at he
              · rename_i hsc; cases he; exact ⟨rfl, by rw [if_pos hsc]⟩
              · cases he
            · cases he
          · cases he
      · cases he
theorem opA_new {op : Op} {v : AV} {h' : Hp} (hc : cls op = 3) (he : opA E S op = .val v h') : ∃ e, h' = more S.h e ∧ ∀ g : Hp, g.n = S.h.n → opA E { S with h := g } op = .val v (more g e) := by
  cases op <;> first
    | (exfalso; revert hc; simp [cls]; done)
    | skip
  case alloc t =>
    simp only [opA] at he ⊢
    split at he
    · cases he; exact ⟨_, rfl, fun g hg => by simp only [newA, newT, more, hg]⟩
    · cases he
  case box t x =>
    simp only [opA, ev_h] at he ⊢
    split at he
    · cases he; exact ⟨_, rfl, fun g hg => by simp only [newA, newT, more, hg]⟩
    · cases he
  case buildSlice t n parts =>
    have hb : ∀ (g : Hp) k rows, bsA E { S with h := g } k rows parts.toList = bsA E S k rows parts.toList := fun g k rows => bs_congr k parts.toList rows (fun p _ => ev_h g p.2)
    simp only [opA, hb] at he ⊢
    split at he
    · split at he
      · split at he
        · rename_i h0
          split at he
          · cases he; exact ⟨_, rfl, fun g hg => by rw [if_pos h0]; simp only [newA, newT, more, hg]⟩
          · cases he
        · cases he
      · cases he
    · cases he
  case makeSlice t l c =>
    simp only [opA, ev_h] at he ⊢
    split at he
    · split at he
      · split at he
        · rename_i h0
          cases he; exact ⟨_, rfl, fun g hg => by rw [if_pos h0]; simp only [newA, newT, more, hg]⟩
        · cases he
      · cases he
    · cases he
  case call c =>
    obtain ⟨callee, args, ts⟩ := c
    exfalso; revert hc
    cases callee with
    | builtin b => cases b <;> simp [cls]
    | invoke r m => simp [cls]
    | value fo => simp [cls]
theorem opA_store {op : Op} {v : AV} {h' : Hp} {e : Ent} (hw : WFh S.h) (hc : cls op = 2) (he : opA E S op = .val v h') : h'.n = S.h.n ∧ (∀ e', opA E { S with h := more S.h e' } op = .val v (more h' e')) := by
  cases op <;> first
    | (exfalso; revert hc; simp [cls]; done)
    | skip
  case store t a x =>
    simp only [opA, ev_h] at he ⊢
    unfold storeA at he ⊢
    split at he
    · split at he
      · rename_i h0
        split at he
        · rename_i k l hl
          split at he
          · split at he
            · cases he
              refine ⟨rfl, fun e' => ?_⟩
              rw [if_pos h0]
              simp only [look_more hw hl]
              simp only [*]
              simp only [more, upd]
              rw [if_neg (Nat.ne_of_gt (hw _ _ hl))]
            · cases he
          · cases he
        · cases he
      · cases he
    · cases he
  case call c =>
    obtain ⟨callee, args, ts⟩ := c
    exfalso; revert hc
    cases callee with
    | builtin b => cases b <;> simp [cls]
    | invoke r m => simp [cls]
    | value fo => simp [cls]
end
end Go.Proofs.YthahgmncnbeddaaGreatDoorA
/- Regions that draw their order, as a rule. -/
set_option linter.unusedVariables false
set_option linter.unusedSimpArgs false
namespace Go.Proofs.YthahgmncnbeddaaGreatDoorA
open Go Go.RowKit
section
variable {E : Env} {S S' : St} {ops : Array Oper}
theorem swapOp {o o' : Oper} {v v' : AV} {h1 h2 : Hp} (hw : WFh S.h) (hs : (match cls o.op, cls o'.op with
    | 0, 0 | 0, 1 | 1, 0 | 1, 1 | 0, 2 | 0, 3 | 2, 0 | 3, 0 | 1, 3 | 2, 3 | 0, 4 | 4, 0 => true
    | _, _ => false) = true) (e1 : opA E { S with h := S.h } o.op = .val v h1) (e2 : opA E { S with h := h1 } o'.op = .val v' h2) :
    ∃ g, opA E { S with h := S.h } o'.op = .val v' g ∧ opA E { S with h := g } o.op = .val v h2 := by
  have f0 : cls o.op = 0 → h1 = S.h := fun hc => (opA_free hc e1 S.h).1
  have f1 : cls o.op = 1 → h1 = S.h := fun hc => (opA_more (e := .iter [] 0) hw hc e1).1
  split at hs <;> first
    | (cases hs; done)
    | skip
  · rename_i c1 c2; rw [f0 c1] at e2; exact ⟨_, e2, (opA_free c1 e1 h2).2⟩
  · rename_i c1 c2; rw [f0 c1] at e2; exact ⟨_, e2, (opA_free c1 e1 h2).2⟩
  · rename_i c1 c2; rw [f1 c1] at e2 e1; exact ⟨_, e2, by rw [(opA_free c2 e2 S.h).1]; exact e1⟩
  · rename_i c1 c2; rw [f1 c1] at e2 e1; exact ⟨_, e2, by rw [(opA_more (e := .iter [] 0) hw c2 e2).1]; exact e1⟩
  · rename_i c1 c2; rw [f0 c1] at e2; exact ⟨_, e2, (opA_free c1 e1 h2).2⟩
  · rename_i c1 c2; rw [f0 c1] at e2; exact ⟨_, e2, (opA_free c1 e1 h2).2⟩
  · rename_i c1 c2
    obtain ⟨rfl, e3⟩ := opA_free c2 e2 S.h
    exact ⟨_, e3, e1⟩
  · rename_i c1 c2
    obtain ⟨rfl, e3⟩ := opA_free c2 e2 S.h
    exact ⟨_, e3, e1⟩
  · rename_i c1 c2
    rw [f1 c1] at e2
    obtain ⟨e, rfl, e3⟩ := opA_new c2 e2
    exact ⟨_, e2, (opA_more hw c1 e1).2⟩
  · rename_i c1 c2
    obtain ⟨hn, e3⟩ := opA_store (e := .iter [] 0) hw c1 e1
    obtain ⟨e, rfl, e4⟩ := opA_new c2 e2
    exact ⟨_, e4 S.h hn.symm, e3 e⟩
  · rename_i c1 c2; rw [f0 c1] at e2; exact ⟨_, e2, (opA_free c1 e1 h2).2⟩
  · rename_i c1 c2
    obtain ⟨rfl, e3⟩ := opA_free c2 e2 S.h
    exact ⟨_, e3, e1⟩
def stepS (E : Env) (ops : Array Oper) (S : St) (i : Nat) : Option St :=
  match ops[i]? with
  | none => some S
  | some o => match guardA E ops.toList S o.guard with
    | some true => (match opA E S o.op with | .val v h => some (St.put { S with h := h } o.dst v) | _ => none)
    | some false => some (S.put o.dst (.tup []))
    | none => none
def runL (E : Env) (ops : Array Oper) : List Nat → St → Option St
  | [], S => some S
  | i :: r, S => match stepS E ops S i with | some S' => runL E ops r S' | none => none
theorem guard_same {o : Oper} (h : ∀ t ∈ readsOf ops o, get S.t t = get S'.t t) : guardA E ops.toList S o.guard = guardA E ops.toList S' o.guard := by
  cases hg : o.guard with
  | none => rfl
  | some jw =>
    obtain ⟨j, want⟩ := jw
    simp only [guardA]
    cases hd : (ops.toList[j]?).bind (·.dst) with
    | none => rfl
    | some d =>
      have : get S.t d = get S'.t d := h d (by unfold readsOf; rw [hg]; simp only [dstAt_eq, hd]; simp)
      simp only [this]
theorem op_same {o : Oper} (hc : cls o.op ≤ 4) (hh : S.h = S'.h) (h : ∀ t ∈ readsOf ops o, get S.t t = get S'.t t) : opA E S o.op = opA E S' o.op :=
  opA_same hc hh (ev_of (fun t ht => h t (List.mem_append_left _ ht)))
theorem step_alike {i : Nat} (hc : ∀ o ∈ ops.toList, cls o.op ≤ 4) (h : Alike S S') {S1 : St} (e : stepS E ops S i = some S1) : ∃ S1', stepS E ops S' i = some S1' ∧ Alike S1 S1' := by
  unfold stepS at e ⊢
  cases ho : ops[i]? with
  | none => rw [ho] at e; cases e; exact ⟨_, rfl, h⟩
  | some o =>
    rw [ho] at e
    simp only at e ⊢
    rw [guard_same (S := S) (S' := S') (ops := ops) (fun t _ => h.t t)] at e
    cases hg : guardA E ops.toList S' o.guard with
    | none => rw [hg] at e; cases e
    | some b =>
      rw [hg] at e
      cases b with
      | true =>
        simp only at e ⊢
        rw [op_same (S := S) (S' := S') (ops := ops) (hc o (List.mem_of_getElem? (by rw [Array.getElem?_toList]; exact ho))) h.h (fun t _ => h.t t)] at e
        cases hp : opA E S' o.op with
        | val v h2 => rw [hp] at e; cases e; exact ⟨_, rfl, h.put _ _ _⟩
        | call f a => rw [hp] at e; cases e
        | pan x => rw [hp] at e; cases e
        | bad => rw [hp] at e; cases e
      | false => cases e; exact ⟨_, rfl, by have := h.put o.dst (.tup []) S.h; rw [show ({ S' with h := S.h } : St) = S' by rw [h.h]] at this; exact this⟩
theorem runL_alike (hc : ∀ o ∈ ops.toList, cls o.op ≤ 4) : ∀ (l : List Nat) {S S' S1 : St}, Alike S S' → runL E ops l S = some S1 → ∃ S1', runL E ops l S' = some S1' ∧ Alike S1 S1'
  | [], S, S', S1, h, e => by cases e; exact ⟨_, rfl, h⟩
  | i :: r, S, S', S1, h, e => by
    unfold runL at e ⊢
    cases hs : stepS E ops S i with
    | none => rw [hs] at e; cases e
    | some S2 =>
      rw [hs] at e
      obtain ⟨S2', h2, h3⟩ := step_alike hc h hs
      rw [h2]
      exact runL_alike hc r h3 e
theorem wf_step {i : Nat} (hc : ∀ o ∈ ops.toList, cls o.op ≤ 4) (hw : WFh S.h) {S1 : St} (e : stepS E ops S i = some S1) : WFh S1.h := by
  unfold stepS at e
  cases ho : ops[i]? with
  | none => rw [ho] at e; cases e; exact hw
  | some o =>
    rw [ho] at e
    simp only at e
    split at e
    · split at e
      · rename_i v h hop
        cases e
        rw [put_h]
        have hcl := hc o (List.mem_of_getElem? (by rw [Array.getElem?_toList]; exact ho))
        have h4 : cls o.op = 0 ∨ cls o.op = 1 ∨ cls o.op = 2 ∨ cls o.op = 3 ∨ cls o.op = 4 := by omega
        rcases h4 with h4 | h4 | h4 | h4 | h4
        · rw [(opA_free h4 hop S.h).1]; exact hw
        · rw [(opA_more (e := .iter [] 0) hw h4 hop).1]; exact hw
        · cases hoo : o.op with
          | store t a x =>
            rw [hoo] at hop
            simp only [opA, storeA] at hop
            (repeat' (split at hop)) <;> first
              | (cases hop; done)
              | skip
            cases hop
            rename_i hl _ _ _ _ _
            intro id e he
            simp only at he ⊢
            have : ∀ (c : List (Nat × Ent)) (j : Nat) (e1 e2 : Ent), look (upd c j e1) id = some e2 → ∃ e3, look c id = some e3 := by
              intro c
              induction c with
              | nil => intro j e1 e2 q; cases q
              | cons x c ih =>
                obtain ⟨i0, e0⟩ := x
                intro j e1 e2 q
                unfold upd at q
                split at q
                · unfold look at q ⊢
                  split
                  · exact ⟨_, rfl⟩
                  · rename_i hne; rw [if_neg hne] at q; exact ⟨_, q⟩
                · unfold look at q ⊢
                  split
                  · exact ⟨_, rfl⟩
                  · rename_i hne; rw [if_neg hne] at q; exact ih j e1 e2 q
            obtain ⟨e3, h3⟩ := this _ _ _ _ he
            exact hw id e3 h3
          | call c =>
            rw [hoo] at h4
            obtain ⟨callee, args, ts⟩ := c
            exfalso; revert h4
            cases callee with
            | builtin b => cases b <;> simp [cls]
            | invoke r m => simp [cls]
            | value fo => simp [cls]
          | _ => rw [hoo] at h4; exfalso; revert h4; simp [cls]
        · obtain ⟨e, rfl, _⟩ := opA_new h4 hop
          intro id e' he
          simp only [more, look] at he ⊢
          split at he
          · omega
          · have := hw id e' he; omega
        · cases hoo : o.op with
          | call c =>
            rw [hoo] at h4 hop
            obtain ⟨callee, args, ts⟩ := c
            cases callee with
            | builtin b =>
              cases b <;> first
                | (exfalso; revert h4; simp [cls]; done)
                | skip
              have rmv_l : ∀ (c : List (Nat × Ent)) (j id : Nat) (e2 : Ent), look (rmv c j) id = some e2 → ∃ e3, look c id = some e3 := by
                intro c
                induction c with
                | nil => intro j id e2 q; cases q
                | cons x c ih =>
                  obtain ⟨i0, e0⟩ := x
                  intro j id e2 q
                  unfold rmv at q
                  split at q
                  · unfold look
                    split
                    · exact ⟨_, rfl⟩
                    · exact ⟨_, q⟩
                  · unfold look at q ⊢
                    split
                    · exact ⟨_, rfl⟩
                    · rename_i hne; rw [if_neg hne] at q; exact ih j id e2 q
              simp only [opA, bltA, appA, newT] at hop
              (repeat' (split at hop)) <;> first
                | (rename_i hb _; cases hb; done)
                | (cases hop; done)
                | (cases hop; exact hw)
                | (cases hop
                   intro id e' he
                   simp only [look] at he ⊢
                   split at he
                   · omega
                   · first
                       | (have := hw id e' he; omega)
                       | (obtain ⟨e3, h3⟩ := rmv_l _ _ _ _ he; have := hw id e3 h3; omega))
            | invoke r m => exfalso; revert h4; simp [cls]
            | value fo => exfalso; revert h4; simp [cls]
          | _ => rw [hoo] at h4; exfalso; revert h4; simp [cls]
      · cases e
    · cases e; rw [put_h]; exact hw
    · cases e
theorem apart_reads {o o' : Oper} (h : apartB ops o o' = true) : (∀ d, o.dst = some d → d ∉ readsOf ops o') ∧ (∀ d, o'.dst = some d → d ∉ readsOf ops o) ∧ (o.dst ≠ o'.dst ∨ o.dst = none) := by
  unfold apartB at h
  simp only [Bool.and_eq_true] at h
  obtain ⟨⟨h1, h2⟩, h3⟩ := h
  refine ⟨fun d hd hm => ?_, fun d hd hm => ?_, ?_⟩
  · rw [hd] at h1; simp [hm] at h1
  · rw [hd] at h2; simp [hm] at h2
  · cases h4 : o.dst with
    | none => exact .inr rfl
    | some d =>
      cases h5 : o'.dst with
      | none => exact .inl (by simp)
      | some d' =>
        rw [h4, h5] at h3
        refine .inl (fun e => ?_)
        cases e
        simp at h3
/-- Two operations, o ahead of o' in the text, the other way round. -/
theorem swap_step {i j : Nat} {o o' : Oper} (hc : ∀ o ∈ ops.toList, cls o.op ≤ 4) (hi : ops[i]? = some o) (hj : ops[j]? = some o') (hs : swapB ops o o' = true) (hw : WFh S.h) {S1 S2 : St} (e1 : stepS E ops S i = some S1) (e2 : stepS E ops S1 j = some S2) :
    ∃ S1' S2', stepS E ops S j = some S1' ∧ stepS E ops S1' i = some S2' ∧ Alike S2 S2' := by
  unfold swapB at hs
  simp only [Bool.and_eq_true] at hs
  obtain ⟨ha, hcl⟩ := hs
  obtain ⟨r1, r2, r3⟩ := apart_reads ha
  have hco := hc o (List.mem_of_getElem? (by rw [Array.getElem?_toList]; exact hi))
  have hco' := hc o' (List.mem_of_getElem? (by rw [Array.getElem?_toList]; exact hj))
  have g1 : ∀ (X : St) v t, t ∈ readsOf ops o' → get (X.put o.dst v).t t = get X.t t := fun X v t ht => get_put X o.dst v t (fun e => r1 t e ht)
  have g2 : ∀ (X : St) v t, t ∈ readsOf ops o → get (X.put o'.dst v).t t = get X.t t := fun X v t ht => get_put X o'.dst v t (fun e => r2 t e ht)
  have sw : ∀ (X : St) v v', Alike ((X.put o.dst v).put o'.dst v') ((X.put o'.dst v').put o.dst v) := fun X v v' => put_comm X o.dst o'.dst v v' r3
  have ph : ∀ (X : St) (d : Option Nat) (v : AV) (g : Hp), ({ X.put d v with h := g } : St) = St.put { X with h := g } d v := fun X d v g => by
    cases d with
    | none => rfl
    | some d => simp only [St.put]; split <;> rfl
  unfold stepS at e1 e2 ⊢
  simp only [hi, hj] at e1 e2 ⊢
  cases hg : guardA E ops.toList S o.guard with
  | none => rw [hg] at e1; cases e1
  | some b =>
    rw [hg] at e1
    cases b with
    | false =>
      cases e1
      rw [guard_same (S' := S) (fun t ht => g1 S _ t ht)] at e2
      cases hg' : guardA E ops.toList S o'.guard with
      | none => rw [hg'] at e2; cases e2
      | some b' =>
        rw [hg'] at e2
        cases b' with
        | false =>
          cases e2
          exact ⟨_, _, rfl, by rw [guard_same (S' := S) (fun t ht => g2 S _ t ht), hg], sw S _ _⟩
        | true =>
          simp only at e2 ⊢
          rw [op_same (S' := S) hco' (put_h ..) (fun t ht => g1 S _ t ht)] at e2
          cases hp : opA E S o'.op with
          | val v' g =>
            rw [hp] at e2
            cases e2
            refine ⟨_, _, rfl, by rw [guard_same (S' := S) (fun t ht => g2 { S with h := g } _ t ht), hg], ?_⟩
            rw [ph]
            exact sw _ _ _
          | call f a => rw [hp] at e2; cases e2
          | pan x => rw [hp] at e2; cases e2
          | bad => rw [hp] at e2; cases e2
    | true =>
      simp only at e1
      cases hp : opA E S o.op with
      | call f a => rw [hp] at e1; cases e1
      | pan x => rw [hp] at e1; cases e1
      | bad => rw [hp] at e1; cases e1
      | val v h1 =>
        rw [hp] at e1
        cases e1
        rw [guard_same (S' := S) (fun t ht => g1 { S with h := h1 } _ t ht)] at e2
        cases hg' : guardA E ops.toList S o'.guard with
        | none => rw [hg'] at e2; cases e2
        | some b' =>
          rw [hg'] at e2
          cases b' with
          | false =>
            cases e2
            refine ⟨_, _, rfl, by rw [guard_same (S' := S) (fun t ht => g2 S _ t ht), hg]; simp only; rw [op_same (S' := S) hco (put_h ..) (fun t ht => g2 S _ t ht), hp], ?_⟩
            rw [ph]
            exact sw _ _ _
          | true =>
            simp only at e2 ⊢
            rw [op_same (S' := { S with h := h1 }) hco' (put_h ..) (fun t ht => g1 { S with h := h1 } _ t ht)] at e2
            cases hp' : opA E { S with h := h1 } o'.op with
            | call f a => rw [hp'] at e2; cases e2
            | pan x => rw [hp'] at e2; cases e2
            | bad => rw [hp'] at e2; cases e2
            | val v' h2 =>
              rw [hp'] at e2
              cases e2
              obtain ⟨g, q1, q2⟩ := swapOp hw hcl hp hp'
              have q1' : opA E S o'.op = .val v' g := q1
              rw [q1']
              refine ⟨_, _, rfl, by rw [guard_same (S' := S) (fun t ht => g2 { S with h := g } _ t ht), hg]; simp only; rw [op_same (S' := { S with h := g }) hco (put_h ..) (fun t ht => g2 { S with h := g } _ t ht), q2], ?_⟩
              rw [ph, ph]
              exact sw _ _ _
end
end Go.Proofs.YthahgmncnbeddaaGreatDoorA
/- Regions that draw their order, as a rule (further). -/
set_option linter.unusedVariables false
set_option linter.unusedSimpArgs false
namespace Go.Proofs.YthahgmncnbeddaaGreatDoorA
open Go Go.RowKit
def edgeB (o : Oper) (j : Nat) : Bool := o.after.any fun e => Region.binds .any e && e.on == j
/-- It waits for it, or for one that waits for it. -/
def edgeT (ops : Array Oper) : Nat → Oper → Nat → Bool
  | 0, _, _ => false
  | d + 1, o, j => o.after.any fun e => Region.binds .any e && (e.on == j || match ops[e.on]? with | some o' => edgeT ops d o' j | none => false)
/-- Any two operations of the region: the later one waits for the earlier one, or they may change places. -/
def orderB (ops : Array Oper) : Bool :=
  ops.toList.all (fun o => decide (cls o.op ≤ 4)) && (List.range ops.size).all fun j => match ops[j]? with
    | some oj => oj.after.all (fun e => !Region.binds .any e || decide (e.on < j)) && (List.range j).all fun i => match ops[i]? with
      | some oi => edgeB oj i || swapB ops oi oj || edgeT ops 30 oj i
      | none => true
    | none => true
def Waits (ops : Array Oper) (o : Oper) (j : Nat) : Prop := edgeB o j = true ∨ edgeT ops 30 o j = true
def waitsB (ops : Array Oper) (o : Oper) (j : Nat) : Bool := edgeB o j || edgeT ops 30 o j
theorem waitsB_spec {ops : Array Oper} {o : Oper} {j : Nat} (h : waitsB ops o j = true) : Waits ops o j := by simpa [waitsB, Waits] using h
def Closed (ops : Array Oper) (listed : Array Bool) : Prop := ∀ (k : Nat) o, ops[k]? = some o → listed.getD k false = true → ∀ e ∈ o.after, Region.binds .any e = true → listed.getD e.on false = true
theorem listed_set {listed : Array Bool} {i j : Nat} (h : listed.getD j false = true) : (listed.setIfInBounds i true).getD j false = true := by
  simp only [Array.getD_eq_getD_getElem?] at h ⊢
  by_cases q : j = i
  · subst q
    by_cases hj : j < listed.size
    · simp [Array.getElem?_setIfInBounds, hj]
    · rw [Array.getElem?_eq_none (by omega)] at h; cases h
  · rw [Array.getElem?_setIfInBounds_ne (Ne.symm q)]; exact h
theorem listed_not {listed : Array Bool} {j : Nat} (h : listed.getD j false = true) (h2 : listed.getD j true = false) : False := by
  simp only [Array.getD_eq_getD_getElem?] at h h2
  cases hq : listed[j]? with
  | none => rw [hq] at h; cases h
  | some b => rw [hq] at h h2; simp only [Option.getD_some] at h h2; rw [h] at h2; cases h2
theorem Closed.set {ops : Array Oper} {listed : Array Bool} {i : Nat} {o : Oper} (hc : Closed ops listed) (ho : ops[i]? = some o) (hall : ∀ e ∈ o.after, Region.binds .any e = true → listed.getD e.on false = true) : Closed ops (listed.setIfInBounds i true) := fun k o' hk hl e he hb => by
  by_cases q : k = i
  · subst q; rw [ho] at hk; cases hk; exact listed_set (hall e he hb)
  · refine listed_set (hc k o' hk ?_ e he hb)
    simp only [Array.getD_eq_getD_getElem?] at hl ⊢
    rwa [Array.getElem?_setIfInBounds_ne (Ne.symm q)] at hl
theorem edgeT_listed {ops : Array Oper} {listed : Array Bool} (hc : Closed ops listed) : ∀ (d : Nat) (o : Oper) (j : Nat), (∀ e ∈ o.after, Region.binds .any e = true → listed.getD e.on false = true) → edgeT ops d o j = true → listed.getD j false = true
  | 0, o, j, _, h => by cases h
  | d + 1, o, j, hd, h => by
    unfold edgeT at h
    obtain ⟨e, he, hb⟩ := Array.any_eq_true'.1 h
    simp only [Bool.and_eq_true, Bool.or_eq_true, beq_iff_eq] at hb
    rcases hb.2 with q | q
    · rw [← q]; exact hd e he hb.1
    · cases ho : ops[e.on]? with
      | none => rw [ho] at q; cases q
      | some o' => rw [ho] at q; exact edgeT_listed hc d o' j (hc e.on o' ho (hd e he hb.1)) q
theorem waits_listed {ops : Array Oper} {listed : Array Bool} (hc : Closed ops listed) {o : Oper} {j : Nat} (hd : ∀ e ∈ o.after, Region.binds .any e = true → listed.getD e.on false = true) (h : Waits ops o j) : listed.getD j false = true := by
  rcases h with h | h
  · obtain ⟨e, he, hb⟩ := Array.any_eq_true'.1 h
    simp only [Bool.and_eq_true, beq_iff_eq] at hb
    rw [← hb.2]; exact hd e he hb.1
  · exact edgeT_listed hc 30 o j hd h
theorem closed_none (ops : Array Oper) : Closed ops (Array.replicate ops.size false) := fun k o hk hl => by
  have hk' := (Array.getElem?_eq_some_iff.1 hk).1
  simp [hk'] at hl
section
variable {E : Env} {f : FuncId}  {K : List Item} {X : Ex → St → Prop} {ops : Array Oper}
theorem order_spec (h : orderB ops = true) : (∀ o ∈ ops.toList, cls o.op ≤ 4) ∧ ∀ (j : Nat) oj, ops[j]? = some oj → (∀ e ∈ oj.after, Region.binds .any e = true → e.on < j) ∧ ∀ (i : Nat) oi, i < j → ops[i]? = some oi → Waits ops oj i ∨ swapB ops oi oj = true := by
  unfold orderB at h
  simp only [Bool.and_eq_true, List.all_eq_true, decide_eq_true_eq, List.mem_range] at h
  refine ⟨h.1, fun j oj hj => ?_⟩
  have h2 := h.2 j (Array.getElem?_eq_some_iff.1 hj).1
  rw [hj] at h2
  simp only [Bool.and_eq_true, List.all_eq_true, List.mem_range] at h2
  refine ⟨fun e he hb => ?_, fun i oi hi hoi => ?_⟩
  · have := Array.all_eq_true_iff_forall_mem.1 h2.1 e he
    simp only [Bool.or_eq_true, Bool.not_eq_true', decide_eq_true_eq] at this
    exact this.resolve_left (by rw [hb]; simp)
  · have := h2.2 i hi
    rw [hoi] at this
    simp only [Bool.or_eq_true] at this
    rcases this with (q | q) | q
    · exact .inl (.inl q)
    · exact .inr q
    · exact .inl (.inr q)
theorem T.alike {S S' : St} (h : T E f K S X) (a : Alike S S') : T E f K S' X := fun F G ok w x b cs q2 q3 q5 q6 q7 =>
  h F G ok w x b cs q2 q3 q5 (by rw [a.h]; exact q6) ⟨by rw [a.N]; exact q7.size, fun j => by rw [a.t]; exact q7.r j⟩
theorem wf_inv {F : Fr} {G : Gh} {ok : Okc} {w : World} {h : Hp} (I : Inv F G ok w h) : WFh h := fun id e he => by
  obtain ⟨p, hp, _⟩ := I.rel.look' he
  rcases Nat.lt_or_ge id h.n with q | q
  · exact q
  · rw [I.rel.fresh id q] at hp; cases hp
/-- An operation that waits for none ahead of it comes first. -/
theorem bubble {i : Nat} {o : Oper} (hc : ∀ o ∈ ops.toList, cls o.op ≤ 4) (hi : ops[i]? = some o) (post : List Nat) : ∀ (pre : List Nat) (S S1 : St), (∀ j ∈ pre, ∃ oj, ops[j]? = some oj ∧ swapB ops oj o = true) → WFh S.h → runL E ops (pre ++ i :: post) S = some S1 →
    ∃ S1', runL E ops (i :: (pre ++ post)) S = some S1' ∧ Alike S1 S1'
  | [], S, S1, _, _, e => ⟨S1, e, .refl _⟩
  | j :: pre, S, S1, hp, hw, e => by
    simp only [List.cons_append] at e ⊢
    unfold runL at e
    cases hs : stepS E ops S j with
    | none => rw [hs] at e; cases e
    | some S2 =>
      rw [hs] at e
      obtain ⟨S3, e3, a3⟩ := bubble hc hi post pre S2 S1 (fun k hk => hp k (List.mem_cons_of_mem _ hk)) (wf_step hc hw hs) e
      unfold runL at e3
      cases hs2 : stepS E ops S2 i with
      | none => rw [hs2] at e3; cases e3
      | some S4 =>
        rw [hs2] at e3
        obtain ⟨oj, hj, hsw⟩ := hp j (List.mem_cons_self ..)
        obtain ⟨S5, S6, h5, h6, a6⟩ := swap_step hc hj hi hsw hw hs hs2
        obtain ⟨S7, h7, a7⟩ := runL_alike hc _ a6 e3
        refine ⟨S7, ?_, a3.trans a7⟩
        unfold runL
        rw [h5]
        simp only
        unfold runL
        rw [h6]
        exact h7
theorem any_wp {F : Fr} {ds : List Deferred} {Se : St} (hM : ModOk E) (hg0 : Globs E.gl F.ok0 F.w0) (hO : orderB ops = true) (hT : ∀ S, Alike Se S → T E f K S X) : ∀ (n : Nat) (rest : List Nat) (listed : Array Bool) (S S1 : St) (G : Gh) (ok : Okc) (w : World) (a : Act), rest.length = n → rest.Pairwise (· < ·) →
    (∀ i, i ∈ rest ↔ i < ops.size ∧ listed.getD i true = false) → (listed.size = ops.size ∧ Closed ops listed) → runL E ops rest S = some S1 → Alike Se S1 → Inv F G ok w S.h → RelT G ok w S a → a.defers = ds → ∀ fuel, n ≤ fuel → wpAny E.P .any ops (RegQ E f K X F ds) fuel listed a w := by
  obtain ⟨hc, hord⟩ := order_spec hO
  intro n
  induction n with
  | zero =>
    intro rest listed S S1 G ok w a hn hp hr hls e al I R ha fuel hf
    have : rest = [] := List.eq_nil_of_length_eq_zero hn
    subst this
    cases e
    refine wpAny_done ?_ ⟨ha, S, G, ok, I, R, hT S al⟩ fuel
    rw [List.eq_nil_iff_forall_not_mem]
    intro i hi
    obtain ⟨h1, o, ho, _⟩ := mem_ready.1 hi
    exact absurd ((hr i).2 ⟨(Array.getElem?_eq_some_iff.1 ho).1, h1⟩) (by simp)
  | succ n ih =>
    intro rest listed S S1 G ok w a hn hp hr hls e al I R ha fuel hf
    obtain ⟨hls, hclo⟩ := hls
    cases fuel with
    | zero => omega
    | succ fuel =>
    refine ⟨fun h0 => ?_, fun i hi => ?_⟩
    · exfalso
      cases rest with
      | nil => simp at hn
      | cons i rest =>
        have hmem := (hr i).1 (List.mem_cons_self ..)
        have : i ∈ Region.ready .any ops listed := mem_ready.2 ⟨hmem.2, ops[i]'hmem.1, by simp [hmem.1], fun e he hb => by
          have hlt := (hord i _ (by simp [hmem.1])).1 e he hb
          have hn : e.on ∉ i :: rest := fun hm => by
            rcases List.mem_cons.1 hm with q | q
            · omega
            · have := List.rel_of_pairwise_cons hp q; omega
          have hs : e.on < ops.size := by omega
          have hl : ¬ (listed.getD e.on true = false) := fun q => hn ((hr e.on).2 ⟨hs, q⟩)
          have hs' : e.on < listed.size := by omega
          simp only [Array.getD_eq_getD_getElem?, Array.getElem?_eq_getElem hs', Option.getD_some] at hl ⊢
          simpa using hl⟩
        rw [h0] at this
        cases this
    · obtain ⟨h1, o, ho, hall⟩ := mem_ready.1 hi
      have hmem : i ∈ rest := (hr i).2 ⟨(Array.getElem?_eq_some_iff.1 ho).1, h1⟩
      obtain ⟨pre, post, rfl⟩ := List.append_of_mem hmem
      have hpre : ∀ j ∈ pre, ∃ oj, ops[j]? = some oj ∧ swapB ops oj o = true := fun j hj => by
        have hjr := (hr j).1 (List.mem_append_left _ hj)
        have hji : j < i := (List.pairwise_append.1 hp).2.2 j hj i (List.mem_cons_self ..)
        refine ⟨ops[j]'hjr.1, by simp [hjr.1], ?_⟩
        rcases (hord i o ho).2 j (ops[j]'hjr.1) hji (by simp [hjr.1]) with q | q
        · exfalso
          exact listed_not (waits_listed hclo hall q) hjr.2
        · exact q
      obtain ⟨S2, e2, a2⟩ := bubble hc ho post pre S S1 hpre (wf_inv I) e
      unfold runL at e2
      have hi' : i < ops.size := (Array.getElem?_eq_some_iff.1 ho).1
      have key : ∀ (S3 : St) (G' : Gh) (ok' : Okc) (w' : World) (a' : Act), runL E ops (pre ++ post) S3 = some S2 → Inv F G' ok' w' S3.h → RelT G' ok' w' S3 a' → a'.defers = ds → wpAny E.P .any ops (RegQ E f K X F ds) fuel (listed.setIfInBounds i true) a' w' := fun S3 G' ok' w' a' q1 q2 q3 q4 => by
        refine ih (pre ++ post) (listed.setIfInBounds i true) S3 S2 G' ok' w' a' (by simp at hn ⊢; omega) ?_ (fun j => ?_) ⟨by simp [hls], hclo.set ho hall⟩ q1 (al.trans a2) q2 q3 q4 fuel (by omega)
        · rw [List.pairwise_append] at hp ⊢
          exact ⟨hp.1, (List.pairwise_cons.1 hp.2.1).2, fun x hx y hy => hp.2.2 x hx y (List.mem_cons_of_mem _ hy)⟩
        · have hj := hr j
          by_cases hji : j = i
          · subst hji
            constructor
            · intro hm
              exfalso
              rw [List.pairwise_append] at hp
              rcases List.mem_append.1 hm with q | q
              · have := hp.2.2 j q j (List.mem_cons_self ..); omega
              · have := (List.pairwise_cons.1 hp.2.1).1 j q; omega
            · rintro ⟨_, q⟩
              have hs' : j < listed.size := by omega
              simp [hs'] at q
          · rw [show (listed.setIfInBounds i true).getD j true = listed.getD j true by simp [Array.getElem?_setIfInBounds_ne (Ne.symm hji)], ← hj]
            simp only [List.mem_append, List.mem_cons]
            constructor
            · rintro (q | q)
              · exact .inl q
              · exact .inr (.inr q)
            · rintro (q | q | q)
              · exact .inl q
              · exact absurd q hji
              · exact .inr q
      unfold wpOp
      simp only [ho]
      unfold stepS at e2
      simp only [ho] at e2
      cases hg : guardA E ops.toList S o.guard with
      | none => rw [hg] at e2; cases e2
      | some b =>
        rw [hg] at e2
        rw [guard_ok R hg]
        cases b with
        | false =>
          rw [if_neg (by simp)]
          exact key _ G ok w _ e2 (by rw [put_h]; exact I) (R.put o.dst (.tup _ #[] [] rfl (fun j v a h => by simp at h))) (by rw [put_defers]; exact ha)
        | true =>
          rw [if_pos rfl]
          refine .inl ?_
          simp only at e2
          cases hop : opA E S o.op with
          | val v h' =>
            rw [hop] at e2
            exact oper_wp hM I R (glob_now hg0 I) hop (fun x w' G' ok' A I' rx => key _ G' ok' w' _ e2 (by rw [put_h]; exact I') ((R.adv A h').put o.dst rx) (by rw [put_defers]; exact ha))
          | call f a => rw [hop] at e2; cases e2
          | pan x => rw [hop] at e2; cases e2
          | bad => rw [hop] at e2; cases e2
/-- A region that draws its order: told by its run in the order of the text. -/
inductive WD (E : Env) (f : FuncId) (K : List Item) (X : Ex → St → Prop) : RR → Prop
  | done (S : St) (h : T E f K S X) : WD E f K X (.done S)
theorem runA_runL : ∀ (rest : List Oper) (i : Nat) (S S1 : St), ops.toList.drop i = rest → runA E ops.toList rest S = .done S1 → runL E ops (List.range' i rest.length) S = some S1
  | [], i, S, S1, hd, e => by cases e; rfl
  | o :: os, i, S, S1, hd, e => by
    have ho : ops[i]? = some o := by
      have : (ops.toList.drop i)[0]? = some o := by rw [hd]; rfl
      rw [List.getElem?_drop] at this
      simpa using this
    have hd' : ops.toList.drop (i + 1) = os := by
      have : (ops.toList.drop i).drop 1 = os := by rw [hd]; rfl
      rwa [List.drop_drop] at this
    rw [List.length_cons, List.range'_succ]
    unfold runA at e
    unfold runL stepS
    simp only [ho]
    split at e
    · rename_i hg
      unfold stepA at e
      rw [hg]
      split at e
      · rename_i v h' hop
        simp only [hop]
        exact runA_runL os (i + 1) _ S1 hd' e
      · cases e
      · cases e
      · cases e
    · rename_i hg
      rw [hg]
      exact runA_runL os (i + 1) _ S1 hd' e
    · cases e
theorem t_draw {id : Nat} {S : St} (hm : E.P.follows .mixedOrders = true) (hO : orderB ops = true) (h : WD E f K X (runA E ops.toList ops.toList S)) : T E f (.code (.region id ops true) :: K) S X := by
  intro F G ok w a b cs q2 q3 q5 q6 q7
  generalize hr : runA E ops.toList ops.toList S = r at h
  cases h with
  | done S1 hT =>
  have e := runA_runL ops.toList 0 S S1 rfl hr
  obtain ⟨A, I⟩ := q6.drawn (w' := { w with drawn := w.drawn + 1 }) rfl rfl rfl rfl
  have hw : wpAny E.P .any ops (RegQ E f K X F a.defers) ops.size (Array.replicate ops.size false) a { w with drawn := w.drawn + 1 } :=
    any_wp (Se := S1) q2 q5 hO (fun S' al => hT.alike al) ops.size (List.range' 0 ops.toList.length) _ S S1 G ok _ a (by simp) List.pairwise_lt_range' (fun i => by
      rw [List.mem_range'_1]
      simp only [Nat.zero_le, true_and, Nat.zero_add, Array.length_toList]
      constructor
      · intro hi; exact ⟨hi, by simp [hi]⟩
      · exact fun h => h.1) ⟨by simp, closed_none ops⟩ e (.refl _) I (by have := q7.adv A S.h; exact this) rfl ops.size (Nat.le_refl _)
  have hcode : (Code.region id ops true).wp E.P (RegQ E f K X F a.defers) a w := wp_region_any hm hw
  obtain ⟨e2, a2, w2, hq, harr⟩ := hcode b K cs
  exact reg_end q2 q3 q5 ⟨e2, a2, w2, hq, harr⟩
theorem wd_t {all os : List Oper} {d : Option Nat} {op : Op} {S : St} {b : Bool} (h1 : b = true → WD E f K X (runO E all d os S (opA E S op))) (h2 : b = false → WD E f K X (runA E all os (S.put d (.tup [])))) : WD E f K X (runG E all d op os S (some b)) := by
  cases b with
  | true => exact h1 rfl
  | false => exact h2 rfl
theorem wd_f {all os : List Oper} {d : Option Nat} {op : Op} {S : St} {b : Bool} (h1 : b = false → WD E f K X (runO E all d os S (opA E S op))) (h2 : b = true → WD E f K X (runA E all os (S.put d (.tup [])))) : WD E f K X (runG E all d op os S (some (!b))) := by
  cases b with
  | true => exact h2 rfl
  | false => exact h1 rfl
end
end Go.Proofs.YthahgmncnbeddaaGreatDoorA
