/- Regions that draw their order and hold one call that is no pure one. -/
import Derived.Test.YthahgmncnbeddaaGreatDoorMC
set_option linter.unusedVariables false
set_option linter.unusedSimpArgs false
namespace Go.Proofs.YthahgmncnbeddaaGreatDoorA
open Go Go.RowKit
abbrev YT := FuncId → List AV → Hp → Option (AV × Hp)
def YOk (E : Env) (Y : YT) : Prop := ∀ g args h r h', Y g args h = some (r, h') → MeetsH E g args h (Is (.ret r) h')
/-- The call c, from the state S. -/
def callS (E : Env) (Y : YT) (o : Oper) (S : St) : Option St := match opA E S o.op with
  | .call g args => (match Y g args S.h with | some (r, h') => some (St.put { S with h := h' } o.dst r) | none => none)
  | _ => none
section
variable {E : Env} {f : FuncId} {K : List Item} {X : Ex → St → Prop} {ops : Array Oper} {Y : YT}
theorem put_with (S : St) (d : Option Nat) (v : AV) (g : Hp) : ({ S.put d v with h := g } : St) = St.put { S with h := g } d v := by
  cases d with
  | none => rfl
  | some d => simp only [St.put]; split <;> rfl
theorem step0 {S S' : St} {i : Nat} {o : Oper} (hi : ops[i]? = some o) (hc : cls o.op = 0) (e : stepS E ops S i = some S') : ∃ x, S' = S.put o.dst x ∧ ∀ Z : St, (∀ t ∈ readsOf ops o, get Z.t t = get S.t t) → stepS E ops Z i = some (Z.put o.dst x) := by
  unfold stepS at e ⊢
  simp only [hi] at e ⊢
  cases hg : guardA E ops.toList S o.guard with
  | none => rw [hg] at e; cases e
  | some b =>
    rw [hg] at e
    cases b with
    | false =>
      cases e
      exact ⟨_, rfl, fun Z hz => by rw [guard_same (S' := S) hz, hg]⟩
    | true =>
      simp only at e
      cases hop : opA E S o.op with
      | val v h =>
        rw [hop] at e
        cases e
        obtain ⟨rfl, hf⟩ := opA_free hc hop S.h
        refine ⟨v, rfl, fun Z hz => ?_⟩
        rw [guard_same (S' := S) hz, hg]
        have h1 := (opA_free hc hop Z.h).2
        have h2 : opA E Z o.op = opA E { S with h := Z.h } o.op := op_same (by omega) rfl hz
        rw [h2, h1]
      | _ => rw [hop] at e; cases e
theorem callS_put {S S2 : St} {oc : Oper} {d : Option Nat} {x : AV} (hc : cls oc.op ≤ 4) (hd : ∀ t ∈ readsOf ops oc, d ≠ some t) (e : callS E Y oc (S.put d x) = some S2) :
    ∃ r h', callS E Y oc S = some (St.put { S with h := h' } oc.dst r) ∧ S2 = St.put (St.put { S with h := h' } d x) oc.dst r := by
  have hop : opA E (S.put d x) oc.op = opA E S oc.op := op_same (ops := ops) hc (put_h S d x) (fun t ht => get_put S d x t (hd t ht))
  unfold callS at e ⊢
  rw [hop] at e
  cases ho : opA E S oc.op with
  | call g args =>
    rw [ho] at e
    simp only [put_h] at e ⊢
    cases hy : Y g args S.h with
    | none => rw [hy] at e; cases e
    | some p =>
      obtain ⟨r, h'⟩ := p
      rw [hy] at e
      cases e
      exact ⟨r, h', rfl, by rw [put_with]⟩
  | _ => rw [ho] at e; cases e
theorem callS_alike {S S' S1 : St} {oc : Oper} (hc : cls oc.op ≤ 4) (a : Alike S S') (e : callS E Y oc S = some S1) : ∃ S1', callS E Y oc S' = some S1' ∧ Alike S1 S1' := by
  have hop : opA E S' oc.op = opA E S oc.op := op_same (ops := #[]) hc a.h.symm (fun t _ => (a.t t).symm)
  unfold callS at e ⊢
  rw [hop]
  cases ho : opA E S oc.op with
  | call g args =>
    rw [ho] at e
    simp only [← a.h] at e ⊢
    cases hy : Y g args S.h with
    | none => rw [hy] at e; cases e
    | some p =>
      obtain ⟨r, h'⟩ := p
      rw [hy] at e
      cases e
      exact ⟨_, rfl, a.put oc.dst r h'⟩
  | _ => rw [ho] at e; cases e
/-- A value of values, then the call: the other way round. -/
theorem swap0c {S S' S2 : St} {i : Nat} {o oc : Oper} (hi : ops[i]? = some o) (h0 : cls o.op = 0) (hc : cls oc.op ≤ 4) (ha : apartB ops o oc = true) (e1 : stepS E ops S i = some S') (e2 : callS E Y oc S' = some S2) :
    ∃ S1' S2', callS E Y oc S = some S1' ∧ stepS E ops S1' i = some S2' ∧ Alike S2 S2' ∧ S1'.h = S2.h := by
  obtain ⟨r1, r2, r3⟩ := apart_reads ha
  obtain ⟨x, rfl, hz⟩ := step0 hi h0 e1
  obtain ⟨r, h', e3, rfl⟩ := callS_put (ops := ops) hc (fun t ht q => r1 t q ht) e2
  refine ⟨_, _, e3, hz _ (fun t ht => ?_), put_comm _ _ _ _ _ r3, by rw [put_h, put_h, put_h]⟩
  rw [get_put _ _ _ _ (fun q => r2 t q ht)]
/-- The call, then a value of values: the other way round. -/
theorem swapc0 {S S1 S2 : St} {i : Nat} {o oc : Oper} (hi : ops[i]? = some o) (h0 : cls o.op = 0) (hc : cls oc.op ≤ 4) (ha : apartB ops o oc = true) (e1 : callS E Y oc S = some S1) (e2 : stepS E ops S1 i = some S2) :
    ∃ x S2', stepS E ops S i = some (S.put o.dst x) ∧ callS E Y oc (S.put o.dst x) = some S2' ∧ Alike S2 S2' ∧ S2'.h = S1.h := by
  obtain ⟨r1, r2, r3⟩ := apart_reads ha
  obtain ⟨x, rfl, hz⟩ := step0 hi h0 e2
  have hop : ∀ x, opA E (S.put o.dst x) oc.op = opA E S oc.op := fun x => op_same (ops := ops) hc (put_h S o.dst x) (fun t ht => get_put S o.dst x t (fun q => r1 t q ht))
  unfold callS at e1
  cases ho : opA E S oc.op with
  | call g args =>
    rw [ho] at e1
    simp only at e1
    cases hy : Y g args S.h with
    | none => rw [hy] at e1; cases e1
    | some p =>
      obtain ⟨r, h'⟩ := p
      rw [hy] at e1
      cases e1
      refine ⟨x, St.put { S.put o.dst x with h := h' } oc.dst r, ?_, ?_, ?_, ?_⟩
      · have := hz S (fun t ht => by rw [get_put _ _ _ _ (fun q => r2 t q ht)])
        exact this
      · unfold callS
        rw [hop, ho]
        simp only [put_h, hy]
      · rw [put_with]
        have a := put_comm { S with h := h' } o.dst oc.dst x r r3
        exact ⟨a.N.symm, a.h.symm, fun j => (a.t j).symm⟩
      · rw [put_h, put_h]
  | _ => rw [ho] at e1; cases e1
/-- Loads that wait not for the call read the same behind it. -/
def Chk (E : Env) (ops : Array Oper) (U : List Nat) (S : St) (h' : Hp) : Prop := ∀ u ∈ U, ∀ o, ops[u]? = some o → ∃ d, o.dst = some d ∧ d < S.N ∧ opA E { S with h := h' } o.op = .val (get S.t d) h'
def loadB (o : Oper) : Bool := o.guard.isNone && match o.op with | .load .. => true | _ => false
/-- A load, then the call: the other way round. -/
theorem swapuc {S S' S2 : St} {i : Nat} {o oc : Oper} (hi : ops[i]? = some o) (hl : loadB o = true) (hc : cls oc.op ≤ 4) (ha : apartB ops o oc = true) (e1 : stepS E ops S i = some S') (e2 : callS E Y oc S' = some S2)
    (hk : ∀ d, o.dst = some d → d < S.N → opA E { S with h := S2.h } o.op = .val (get S'.t d) S2.h) (hd : ∃ d, o.dst = some d ∧ d < S.N) :
    ∃ S1' S2', callS E Y oc S = some S1' ∧ stepS E ops S1' i = some S2' ∧ Alike S2 S2' ∧ S1'.h = S2.h := by
  obtain ⟨r1, r2, r3⟩ := apart_reads ha
  obtain ⟨d, hd1, hd2⟩ := hd
  unfold loadB at hl
  simp only [Bool.and_eq_true, Option.isNone_iff_eq_none] at hl
  obtain ⟨hg, hl⟩ := hl
  unfold stepS at e1
  simp only [hi, hg, guardA] at e1
  cases hop : opA E S o.op with
  | val v h =>
    rw [hop] at e1
    simp only [Option.some.injEq] at e1
    have hh : h = S.h := by
      cases ho : o.op with
      | load t a => rw [ho] at hop; exact (OR.of_val hop).2
      | _ => rw [ho] at hl; cases hl
    subst hh
    have e1' : S' = S.put o.dst v := e1.symm
    subst e1'
    obtain ⟨r, h', e3, rfl⟩ := callS_put (ops := ops) hc (fun t ht q => r1 t q ht) e2
    have hk' := hk d hd1 hd2
    have hv : get (S.put o.dst v).t d = v := by
      rw [hd1]; simp only [St.put]; rw [if_pos hd2]; simp only [get, if_true]
    rw [hv] at hk'
    simp only [put_h] at hk'
    refine ⟨_, St.put (St.put { S with h := h' } oc.dst r) o.dst v, e3, ?_, put_comm _ _ _ _ _ r3, by rw [put_h, put_h, put_h]⟩
    unfold stepS
    simp only [hi, hg, guardA]
    have hsame : opA E (St.put { S with h := h' } oc.dst r) o.op = opA E { S with h := h' } o.op := by
      refine op_same (ops := ops) ?_ (put_h _ _ _) (fun t ht => get_put _ _ _ t (fun q => r2 t q ht))
      cases ho : o.op with
      | load t a => simp [cls]
      | _ => rw [ho] at hl; cases hl
    rw [hsame, hk']
    simp only [Option.some.injEq]
    have : ({ St.put { S with h := h' } oc.dst r with h := h' } : St) = St.put { S with h := h' } oc.dst r := by rw [put_with]
    rw [this]
  | _ => rw [hop] at e1; cases e1
theorem step_get {S S' : St} {i t : Nat} (e : stepS E ops S i = some S') (h : ∀ o, ops[i]? = some o → o.dst ≠ some t) : get S'.t t = get S.t t := by
  unfold stepS at e
  split at e
  · cases e; rfl
  · rename_i o ho
    split at e
    · split at e
      · cases e; exact get_put _ _ _ _ (h o ho)
      · cases e
    · cases e; exact get_put _ _ _ _ (h o ho)
    · cases e
theorem step_N {S S' : St} {i : Nat} (e : stepS E ops S i = some S') : S'.N = S.N := by
  have pn : ∀ (S : St) (d : Option Nat) (v : AV), (S.put d v).N = S.N := fun S d v => by
    cases d with
    | none => rfl
    | some d => simp only [St.put]; split <;> rfl
  unfold stepS at e
  split at e
  · cases e; rfl
  · split at e
    · split at e
      · cases e; exact pn ..
      · cases e
    · cases e; exact pn ..
    · cases e
theorem runL_get {t : Nat} : ∀ (l : List Nat) {S S' : St}, runL E ops l S = some S' → (∀ i ∈ l, ∀ o, ops[i]? = some o → o.dst ≠ some t) → get S'.t t = get S.t t ∧ S'.N = S.N
  | [], S, S', e, h => by cases e; exact ⟨rfl, rfl⟩
  | i :: r, S, S', e, h => by
    unfold runL at e
    cases hs : stepS E ops S i with
    | none => rw [hs] at e; cases e
    | some S2 =>
      rw [hs] at e
      obtain ⟨h1, h2⟩ := runL_get r e (fun j hj => h j (List.mem_cons_of_mem _ hj))
      exact ⟨h1.trans (step_get hs (h i (List.mem_cons_self ..))), h2.trans (step_N hs)⟩
/-- What is asked of a region with one call c: U are the loads that do not wait. -/
structure CallOk (ops : Array Oper) (c : Nat) (oc : Oper) (U : List Nat) : Prop where
  hc : ops[c]? = some oc
  hg : oc.guard = none
  pairs : ∀ (i : Nat) oi, i ≠ c → ops[i]? = some oi → (i < c ∧ Waits ops oc i) ∨ (c < i ∧ Waits ops oi c) ∨ (apartB ops oi oc = true ∧ (cls oi.op = 0 ∨ (i ∈ U ∧ i < c ∧ loadB oi = true)))
  clob : ∀ u ∈ U, ∀ ou, ops[u]? = some ou → ∀ (i : Nat) oi, u ≤ i → ops[i]? = some oi → ∀ d, oi.dst = some d → d ∉ readsOf ops ou ∧ (u < i → ou.dst ≠ some d)
theorem blockC {c : Nat} {oc : Oper} {U : List Nat} (hC : CallOk ops c oc U) (hcl : ∀ o ∈ ops.toList, cls o.op ≤ 4) : ∀ (pre : List Nat) (S Sc S1 : St), pre.Pairwise (· < ·) → (∀ j ∈ pre, ∃ oj, ops[j]? = some oj ∧ apartB ops oj oc = true ∧ (cls oj.op = 0 ∨ (j ∈ U ∧ loadB oj = true))) →
    runL E ops pre S = some Sc → callS E Y oc Sc = some S1 → Chk E ops U Sc S1.h → ∃ S0 S1', callS E Y oc S = some S0 ∧ runL E ops pre S0 = some S1' ∧ Alike S1 S1' ∧ S0.h = S1.h
  | [], S, Sc, S1, _, _, e1, e2, _ => by cases e1; exact ⟨S1, S1, e2, rfl, .refl _, rfl⟩
  | j :: pre, S, Sc, S1, hp, hj, e1, e2, hk => by
    have hoc := hcl oc (List.mem_of_getElem? (by rw [Array.getElem?_toList]; exact hC.hc))
    unfold runL at e1
    cases hs : stepS E ops S j with
    | none => rw [hs] at e1; cases e1
    | some Sj =>
      rw [hs] at e1
      simp only at e1
      obtain ⟨S0j, S1', q1, q2, q3, q4⟩ := blockC hC hcl pre Sj Sc S1 (List.pairwise_cons.1 hp).2 (fun k hk => hj k (List.mem_cons_of_mem _ hk)) e1 e2 hk
      obtain ⟨oj, ho, ha, hcase⟩ := hj j (List.mem_cons_self ..)
      have fin : (∃ S1x S2x, callS E Y oc S = some S1x ∧ stepS E ops S1x j = some S2x ∧ Alike S0j S2x ∧ S1x.h = S0j.h) → ∃ S0 S1', callS E Y oc S = some S0 ∧ runL E ops (j :: pre) S0 = some S1' ∧ Alike S1 S1' ∧ S0.h = S1.h := by
        rintro ⟨S1x, S2x, r1, r2, r3, r4⟩
        obtain ⟨S3x, r5, r6⟩ := runL_alike hcl pre r3 q2
        refine ⟨S1x, S3x, r1, ?_, q3.trans r6, r4.trans q4⟩
        unfold runL
        rw [r2]
        exact r5
      rcases hcase with h0 | ⟨hU, hl⟩
      · exact fin (swap0c ho h0 hoc ha hs q1)
      · refine fin (swapuc ho hl hoc ha hs q1 (fun d hd hd2 => ?_) ?_)
        · obtain ⟨d', k1, k2, k3⟩ := hk j hU oj ho
          rw [hd] at k1; cases k1
          have hreads : ∀ t ∈ readsOf ops oj, get S.t t = get Sc.t t := fun t ht => by
            have a1 := runL_get (t := t) pre e1 (fun i hi o hio q => by
              have := (hC.clob j hU oj ho i o (Nat.le_of_lt (List.rel_of_pairwise_cons hp hi)) hio t q).1
              exact this ht)
            have a2 := step_get (t := t) hs (fun o hoo q => by
              rw [ho] at hoo; cases hoo
              exact (hC.clob j hU oj ho j oj (Nat.le_refl _) ho t q).1 ht)
            exact (a1.1.trans a2).symm
          have hdst : get Sc.t d = get Sj.t d := (runL_get (t := d) pre e1 (fun i hi o hio q => by
            have hlt := List.rel_of_pairwise_cons hp hi
            exact (hC.clob j hU oj ho i o (Nat.le_of_lt hlt) hio d q).2 hlt hd)).1
          rw [q4, ← hdst, ← k3]
          refine op_same (ops := ops) (hcl oj (List.mem_of_getElem? (by rw [Array.getElem?_toList]; exact ho))) rfl (fun t ht => hreads t ht)
        · obtain ⟨d', k1, k2, k3⟩ := hk j hU oj ho
          refine ⟨d', k1, ?_⟩
          have b1 := step_N hs
          have b2 : Sc.N = Sj.N := by
            clear q1 q2 q3 q4 hk k3 fin hs b1
            induction pre generalizing Sj with
            | nil => cases e1; rfl
            | cons a pre ih =>
              unfold runL at e1
              cases hq : stepS E ops Sj a with
              | none => rw [hq] at e1; cases e1
              | some S9 =>
                rw [hq] at e1
                exact (ih (by
                  rw [List.pairwise_cons] at hp ⊢
                  exact ⟨fun x hx => hp.1 x (List.mem_cons_of_mem _ hx), (List.pairwise_cons.1 hp.2).2⟩) (fun k hk => hj k (by
                  rcases List.mem_cons.1 hk with q | q
                  · exact List.mem_cons.2 (.inl q)
                  · exact List.mem_cons_of_mem _ (List.mem_cons_of_mem _ q))) S9 e1).trans (step_N hq)
          rw [← b1, ← b2]
          exact k2
end
end Go.Proofs.YthahgmncnbeddaaGreatDoorA
/- Regions that draw their order and hold one call that is no pure one: the rule. -/
set_option linter.unusedVariables false
set_option linter.unusedSimpArgs false
namespace Go.Proofs.YthahgmncnbeddaaGreatDoorA
open Go Go.RowKit
section
variable {E : Env} {f : FuncId} {K : List Item} {X : Ex → St → Prop} {ops : Array Oper} {Y : YT}
/-- One operation of a region, told by its step. -/
theorem step_op {F : Fr} {G : Gh} {ok : Okc} {w : World} {a : Act} {S S3 : St} {i : Nat} {ds : List Deferred} {next : Act → World → Prop} {QQ : Exit → Act → World → Prop} (hM : ModOk E) (hg0 : Globs E.gl F.ok0 F.w0) (e : stepS E ops S i = some S3) (I : Inv F G ok w S.h) (R : RelT G ok w S a) (ha : a.defers = ds)
    (key : ∀ (G' : Gh) (ok' : Okc) (w' : World) (a' : Act), Inv F G' ok' w' S3.h → RelT G' ok' w' S3 a' → a'.defers = ds → next a' w') : wpOp E.P ops QQ i next a w := by
  unfold wpOp
  unfold stepS at e
  cases ho : ops[i]? with
  | none => rw [ho] at e; cases e; exact key G ok w a I R ha
  | some o =>
    rw [ho] at e
    simp only at e ⊢
    cases hg : guardA E ops.toList S o.guard with
    | none => rw [hg] at e; cases e
    | some b =>
      rw [hg] at e
      rw [guard_ok R hg]
      cases b with
      | false =>
        cases e
        rw [if_neg (by simp)]
        exact key G ok w _ (by rw [put_h]; exact I) (R.put o.dst (.tup _ #[] [] rfl (fun j v a h => by simp at h))) (by rw [put_defers]; exact ha)
      | true =>
        rw [if_pos rfl]
        refine .inl ?_
        simp only at e
        cases hop : opA E S o.op with
        | val v h' =>
          rw [hop] at e
          cases e
          exact oper_wp hM I R (glob_now hg0 I) hop (fun x w' G' ok' A I' rx => key G' ok' w' _ (by rw [put_h]; exact I') ((R.adv A h').put o.dst rx) (by rw [put_defers]; exact ha))
        | _ => rw [hop] at e; cases e
/-- The call, told by its contract. -/
theorem call_op {F : Fr} {G : Gh} {ok : Okc} {w : World} {a : Act} {S S3 : St} {c : Nat} {oc : Oper} {ds : List Deferred} {next : Act → World → Prop} {QQ : Exit → Act → World → Prop} (hM : ModOk E) (hg0 : Globs E.gl F.ok0 F.w0) (hY : YOk E Y) (hc : ops[c]? = some oc) (hg : oc.guard = none) (e : callS E Y oc S = some S3) (I : Inv F G ok w S.h) (R : RelT G ok w S a) (ha : a.defers = ds)
    (key : ∀ (G' : Gh) (ok' : Okc) (w' : World) (a' : Act), Inv F G' ok' w' S3.h → RelT G' ok' w' S3 a' → a'.defers = ds → next a' w') : wpOp E.P ops QQ c next a w := by
  unfold wpOp
  simp only [hc]
  rw [guard_ok (E := E) (t := true) R (by rw [hg]; rfl), if_pos rfl]
  refine .inl ?_
  unfold callS at e
  cases ho : opA E S oc.op with
  | call g args =>
    rw [ho] at e
    simp only at e
    cases hy : Y g args S.h with
    | none => rw [hy] at e; cases e
    | some p =>
      obtain ⟨r, h'⟩ := p
      rw [hy] at e
      cases e
      have hm := hY g args S.h r h' hy
      obtain ⟨fo, as, ts, c1, c2, hoo, hv, rfl⟩ := opA_call ho
      have hgn := glob_now hg0 I
      obtain ⟨vs, us, hf, l1, l2, q1, q2⟩ := callee_rep R hgn hv
      obtain ⟨hl, hr⟩ := args_rep (args := as) R hgn l1 l2 q1 q2
      unfold Oper.wp
      rw [call_run hoo hf hm.1, Oper.upon_enter]
      refine (hm.2 F G ok w _ hM hgn I hl hr).mono (fun e w' hp => ?_)
      cases e with
      | returned x =>
        obtain ⟨r', h'', G', ok', ⟨hR1, rfl⟩, A, rx, I'⟩ := hp
        cases hR1
        exact key G' ok' w' _ (by rw [put_h]; exact I') ((R.adv A _).put oc.dst rx) (by rw [put_defers]; exact ha)
      | panicked ch =>
        obtain ⟨x, r', h'', G', ok', _, ⟨hR, _⟩, _⟩ := hp
        cases hR
      | outgrown => exact hp.elim
  | _ => rw [ho] at e; cases e
theorem rest_next {pre post : List Nat} {i : Nat} {listed : Array Bool} (hp : (pre ++ i :: post).Pairwise (· < ·)) (hr : ∀ j, j ∈ pre ++ i :: post ↔ j < ops.size ∧ listed.getD j true = false) (hls : listed.size = ops.size ∧ Closed ops listed) (hi : i ∈ Region.ready .any ops listed) :
    (pre ++ post).Pairwise (· < ·) ∧ (∀ j, j ∈ pre ++ post ↔ j < ops.size ∧ (listed.setIfInBounds i true).getD j true = false) ∧ ((listed.setIfInBounds i true).size = ops.size ∧ Closed ops (listed.setIfInBounds i true)) := by
  obtain ⟨hls, hclo⟩ := hls
  obtain ⟨_, o, ho, hall⟩ := mem_ready.1 hi
  refine ⟨?_, fun j => ?_, by simp [hls], hclo.set ho hall⟩
  · rw [List.pairwise_append] at hp ⊢
    exact ⟨hp.1, (List.pairwise_cons.1 hp.2.1).2, fun x hx y hy => hp.2.2 x hx y (List.mem_cons_of_mem _ hy)⟩
  · have hj := hr j
    by_cases hji : j = i
    · subst hji
      constructor
      · intro hm
        exfalso
        rw [List.pairwise_append] at hp
        rcases List.mem_append.1 hm with q | q
        · have := hp.2.2 j q j (List.mem_cons_self ..); omega
        · have := (List.pairwise_cons.1 hp.2.1).1 j q; omega
      · rintro ⟨_, q⟩
        have hs' : j < listed.size := by omega
        simp [hs'] at q
    · rw [show (listed.setIfInBounds i true).getD j true = listed.getD j true by simp [Array.getElem?_setIfInBounds_ne (Ne.symm hji)], ← hj]
      simp only [List.mem_append, List.mem_cons]
      constructor
      · rintro (q | q)
        · exact .inl q
        · exact .inr (.inr q)
      · rintro (q | q | q)
        · exact .inl q
        · exact absurd q hji
        · exact .inr q
theorem rest_ready {rest : List Nat} {listed : Array Bool} (hord : ∀ (j : Nat) oj, ops[j]? = some oj → ∀ e ∈ oj.after, Region.binds .any e = true → e.on < j) (hp : rest.Pairwise (· < ·)) (hr : ∀ j, j ∈ rest ↔ j < ops.size ∧ listed.getD j true = false) (hls : listed.size = ops.size) (hne : rest ≠ []) : Region.ready .any ops listed ≠ [] := by
  intro h0
  cases rest with
  | nil => exact hne rfl
  | cons i rest =>
    have hmem := (hr i).1 (List.mem_cons_self ..)
    have : i ∈ Region.ready .any ops listed := mem_ready.2 ⟨hmem.2, ops[i]'hmem.1, by simp [hmem.1], fun e he hb => by
      have hlt := hord i _ (by simp [hmem.1]) e he hb
      have hn : e.on ∉ i :: rest := fun hm => by
        rcases List.mem_cons.1 hm with q | q
        · omega
        · have := List.rel_of_pairwise_cons hp q; omega
      have hs : e.on < ops.size := by omega
      have hl : ¬ (listed.getD e.on true = false) := fun q => hn ((hr e.on).2 ⟨hs, q⟩)
      have hs' : e.on < listed.size := by omega
      simp only [Array.getD_eq_getD_getElem?, Array.getElem?_eq_getElem hs', Option.getD_some] at hl ⊢
      simpa using hl⟩
    rw [h0] at this
    cases this
/-- What is ready waits for nothing that is left. -/
theorem rest_free {rest : List Nat} {listed : Array Bool} {i j : Nat} {o : Oper} (hr : ∀ j, j ∈ rest ↔ j < ops.size ∧ listed.getD j true = false) (hls : listed.size = ops.size ∧ Closed ops listed) (hi : i ∈ Region.ready .any ops listed) (ho : ops[i]? = some o) (hj : j ∈ rest) : edgeB o j = false := by
  obtain ⟨hls, hclo⟩ := hls
  obtain ⟨h1, o', ho', hall⟩ := mem_ready.1 hi
  rw [ho] at ho'; cases ho'
  cases q : edgeB o j with
  | false => rfl
  | true =>
    exfalso
    have hjr := (hr j).1 hj
    obtain ⟨e, he, hb⟩ := Array.any_eq_true'.1 q
    simp only [Bool.and_eq_true, beq_iff_eq] at hb
    have h2 := hall e he hb.1
    rw [hb.2] at h2
    have hs' : j < listed.size := by omega
    have h3 := hjr.2
    simp only [Array.getD_eq_getD_getElem?, Array.getElem?_eq_getElem hs', Option.getD_some] at h2 h3
    rw [h2] at h3
    cases h3
theorem rest_free2 {rest : List Nat} {listed : Array Bool} {i j : Nat} {o : Oper} (hr : ∀ j, j ∈ rest ↔ j < ops.size ∧ listed.getD j true = false) (hls : listed.size = ops.size ∧ Closed ops listed) (hi : i ∈ Region.ready .any ops listed) (ho : ops[i]? = some o) (hj : j ∈ rest) : ¬ Waits ops o j := fun q => by
  obtain ⟨h1, o', ho', hall⟩ := mem_ready.1 hi
  rw [ho] at ho'; cases ho'
  exact listed_not (waits_listed hls.2 hall q) ((hr j).1 hj).2
theorem chk_alike {U : List Nat} {S S' : St} {h' : Hp} (hcl : ∀ o ∈ ops.toList, cls o.op ≤ 4) (a : Alike S S') (h : Chk E ops U S h') : Chk E ops U S' h' := fun u hu o ho => by
  obtain ⟨d, h1, h2, h3⟩ := h u hu o ho
  refine ⟨d, h1, by rw [← a.N]; exact h2, ?_⟩
  rw [← a.t, ← h3]
  exact op_same (ops := ops) (hcl o (List.mem_of_getElem? (by rw [Array.getElem?_toList]; exact ho))) rfl (fun t _ => (a.t t).symm)
theorem chk_put {U : List Nat} {S : St} {h' : Hp} {dd : Option Nat} {x : AV} (hcl : ∀ o ∈ ops.toList, cls o.op ≤ 4) (hd : ∀ u ∈ U, ∀ ou, ops[u]? = some ou → ∀ d, dd = some d → d ∉ readsOf ops ou ∧ ou.dst ≠ some d) (h : Chk E ops U S h') : Chk E ops U (S.put dd x) h' := fun u hu o ho => by
  obtain ⟨d, h1, h2, h3⟩ := h u hu o ho
  have hN : (S.put dd x).N = S.N := by
    cases dd with
    | none => rfl
    | some d => simp only [St.put]; split <;> rfl
  refine ⟨d, h1, by rw [hN]; exact h2, ?_⟩
  rw [get_put S dd x d (fun q => (hd u hu o ho d q).2 h1), ← h3]
  exact op_same (ops := ops) (hcl o (List.mem_of_getElem? (by rw [Array.getElem?_toList]; exact ho))) rfl (fun t ht => get_put S dd x t (fun q => (hd u hu o ho t q).1 ht))
theorem runL_append : ∀ (l l' : List Nat) {S S1 : St}, runL E ops l S = some S1 → runL E ops (l ++ l') S = runL E ops l' S1
  | [], l', S, S1, e => by cases e; rfl
  | i :: l, l', S, S1, e => by
    unfold runL at e
    cases hs : stepS E ops S i with
    | none => rw [hs] at e; cases e
    | some S2 =>
      rw [hs] at e
      show runL E ops (i :: (l ++ l')) S = _
      rw [runL, hs]
      exact runL_append l l' e
theorem runL_cons {i : Nat} {l : List Nat} {S S2 : St} (e : runL E ops (i :: l) S = some S2) : ∃ S1, stepS E ops S i = some S1 ∧ runL E ops l S1 = some S2 := by
  unfold runL at e
  cases hs : stepS E ops S i with
  | none => rw [hs] at e; cases e
  | some S1 => rw [hs] at e; exact ⟨S1, rfl, e⟩
theorem anyC_wp {F : Fr} {ds : List Deferred} {Se : St} {c : Nat} {oc : Oper} {U : List Nat} (hM : ModOk E) (hg0 : Globs E.gl F.ok0 F.w0) (hO : orderB ops = true) (hY : YOk E Y) (hC : CallOk ops c oc U) (hU : ∀ u ∈ U, u < c) (hT : ∀ S, Alike Se S → T E f K S X) :
    ∀ (n : Nat) (pre post : List Nat) (listed : Array Bool) (S Sc S1 S2 : St) (G : Gh) (ok : Okc) (w : World) (a : Act), (pre ++ c :: post).length = n → (pre ++ c :: post).Pairwise (· < ·) → (∀ i, i ∈ pre ++ c :: post ↔ i < ops.size ∧ listed.getD i true = false) → (listed.size = ops.size ∧ Closed ops listed) →
    runL E ops pre S = some Sc → callS E Y oc Sc = some S1 → Chk E ops U Sc S1.h → WFh S1.h → runL E ops post S1 = some S2 → Alike Se S2 → Inv F G ok w S.h → RelT G ok w S a → a.defers = ds → ∀ fuel, n ≤ fuel → wpAny E.P .any ops (RegQ E f K X F ds) fuel listed a w := by
  obtain ⟨hc, hord⟩ := order_spec hO
  have hoc := hc oc (List.mem_of_getElem? (by rw [Array.getElem?_toList]; exact hC.hc))
  intro n
  induction n with
  | zero => intro pre post listed S Sc S1 S2 G ok w a hn; simp at hn
  | succ n ih =>
    intro pre post listed S Sc S1 S2 G ok w a hn hp hr hls e1 e2 hk hw e3 al I R ha fuel hf
    cases fuel with
    | zero => omega
    | succ fuel =>
    refine ⟨fun h0 => absurd h0 (rest_ready (fun j oj hj => (hord j oj hj).1) hp hr hls.1 (by simp)), fun i hi => ?_⟩
    obtain ⟨h1, o, ho, _⟩ := mem_ready.1 hi
    have hmem : i ∈ pre ++ c :: post := (hr i).2 ⟨(Array.getElem?_eq_some_iff.1 ho).1, h1⟩
    have free : ∀ j ∈ pre ++ c :: post, edgeB o j = false := fun j hj => rest_free hr hls hi ho hj
    have sw : ∀ j ∈ pre ++ c :: post, j < i → ∃ oj, ops[j]? = some oj ∧ swapB ops oj o = true := fun j hj hji => by
      have hjr := (hr j).1 hj
      refine ⟨ops[j]'hjr.1, by simp [hjr.1], ?_⟩
      rcases (hord i o ho).2 j (ops[j]'hjr.1) hji (by simp [hjr.1]) with q | q
      · exact absurd q (rest_free2 hr hls hi ho hj)
      · exact q
    rcases List.mem_append.1 hmem with hpre | hrest
    · -- ahead of the call
      obtain ⟨p1, p2, rfl⟩ := List.append_of_mem hpre
      have hlt : ∀ j ∈ p1, j < i := fun j hj => by
        have := (List.pairwise_append.1 hp).1
        exact (List.pairwise_append.1 this).2.2 j hj i (List.mem_cons_self ..)
      obtain ⟨Sc', f1, f2⟩ := bubble hc ho p2 p1 S Sc (fun j hj => sw j (by simp [hj]) (hlt j hj)) (wf_inv I) e1
      obtain ⟨S3, g1, g2⟩ := runL_cons f1
      obtain ⟨S1', g3, g4⟩ := callS_alike hoc f2 e2
      obtain ⟨S2', g5, g6⟩ := runL_alike hc post g4 e3
      have hp' : (p1 ++ i :: (p2 ++ c :: post)).Pairwise (· < ·) := by simpa using hp
      have hr' : ∀ j, j ∈ p1 ++ i :: (p2 ++ c :: post) ↔ j < ops.size ∧ listed.getD j true = false := fun j => by rw [← hr j]; simp
      obtain ⟨k1, k2, k3⟩ := rest_next hp' hr' hls hi
      refine step_op hM hg0 g1 I R ha (fun G' ok' w' a' q2 q3 q4 => ?_)
      exact ih (p1 ++ p2) post _ S3 Sc' S1' S2' G' ok' w' a' (by simp at hn ⊢; omega) (by simpa using k1) (fun j => by rw [← k2 j]; simp) k3 g2 g3 (by rw [← g4.h]; exact chk_alike hc f2 hk) (by rw [← g4.h]; exact hw) g5 (al.trans g6) q2 q3 q4 fuel (by omega)
    · rcases List.mem_cons.1 hrest with rfl | hpost
      · -- the call
        rw [hC.hc] at ho; cases ho
        obtain ⟨S0, S1', g1, g2, g3, g4⟩ := blockC hC hc pre S Sc S1 (List.pairwise_append.1 hp).1 (fun j hj => by
          have hjr := (hr j).1 (List.mem_append_left _ hj)
          have hjc : j < i := (List.pairwise_append.1 hp).2.2 j hj i (List.mem_cons_self ..)
          refine ⟨ops[j]'hjr.1, by simp [hjr.1], ?_⟩
          rcases hC.pairs j (ops[j]'hjr.1) (by omega) (by simp [hjr.1]) with q | q | q
          · exact absurd q.2 (rest_free2 hr hls hi hC.hc (List.mem_append_left _ hj))
          · omega
          · exact ⟨q.1, q.2.imp id (fun q => ⟨q.1, q.2.2⟩)⟩) e1 e2 hk
        obtain ⟨S2', g5, g6⟩ := runL_alike hc post g3 e3
        obtain ⟨k1, k2, k3⟩ := rest_next hp hr hls hi
        refine call_op hM hg0 hY hC.hc hC.hg g1 I R ha (fun G' ok' w' a' q2 q3 q4 => ?_)
        refine any_wp hM hg0 hO hT n (pre ++ post) _ S0 S2' G' ok' w' a' (by simp at hn ⊢; omega) k1 k2 k3 ?_ (al.trans g6) q2 q3 q4 fuel (by omega)
        rw [runL_append pre post g2]; exact g5
      · -- behind the call
        obtain ⟨p1, p2, rfl⟩ := List.append_of_mem hpost
        have hci : c < i := (List.pairwise_cons.1 (List.pairwise_append.1 hp).2.1).1 i hpost
        have hlt : ∀ j ∈ p1, j < i := fun j hj => by
          have := (List.pairwise_cons.1 (List.pairwise_append.1 hp).2.1).2
          exact (List.pairwise_append.1 this).2.2 j hj i (List.mem_cons_self ..)
        have hlt2 : ∀ j ∈ pre, j < i := fun j hj => (List.pairwise_append.1 hp).2.2 j hj i (List.mem_cons_of_mem _ hpost)
        obtain ⟨ha0, h00⟩ : apartB ops o oc = true ∧ cls o.op = 0 := by
          rcases hC.pairs i o (by omega) ho with q | q | q
          · omega
          · exact absurd q.2 (rest_free2 hr hls hi ho (by simp))
          · exact ⟨q.1, q.2.resolve_right (fun q => by omega)⟩
        obtain ⟨S2', f1, f2⟩ := bubble hc ho p2 p1 S1 S2 (fun j hj => sw j (by simp [hj]) (hlt j hj)) hw e3
        obtain ⟨S1i, g1, g2⟩ := runL_cons f1
        obtain ⟨x, Sx, g3, g4, g5, g6⟩ := swapc0 ho h00 hoc ha0 e2 g1
        have e1' : runL E ops (pre ++ i :: []) S = some (Sc.put o.dst x) := by
          rw [runL_append pre [i] e1, runL, g3]; rfl
        obtain ⟨Sc'', f3, f4⟩ := bubble hc ho [] pre S _ (fun j hj => sw j (by simp [hj]) (hlt2 j hj)) (wf_inv I) e1'
        obtain ⟨S3, g7, g8⟩ := runL_cons f3
        obtain ⟨S1'', g9, g10⟩ := callS_alike hoc f4 g4
        obtain ⟨S2'', g11, g12⟩ := runL_alike hc (p1 ++ p2) (g5.trans g10) g2
        have hp' : ((pre ++ c :: p1) ++ i :: p2).Pairwise (· < ·) := by simpa using hp
        have hr' : ∀ j, j ∈ (pre ++ c :: p1) ++ i :: p2 ↔ j < ops.size ∧ listed.getD j true = false := fun j => by rw [← hr j]; simp
        obtain ⟨k1, k2, k3⟩ := rest_next hp' hr' hls hi
        have hh : S1''.h = S1.h := by rw [← g10.h, g6]
        refine step_op hM hg0 g7 I R ha (fun G' ok' w' a' q2 q3 q4 => ?_)
        refine ih pre (p1 ++ p2) _ S3 Sc'' S1'' S2'' G' ok' w' a' (by simp at hn ⊢; omega) (by simpa using k1) (fun j => by rw [← k2 j]; simp) k3 (by simpa using g8) g9 ?_ (by rw [hh]; exact hw) g11 ((al.trans f2).trans g12) q2 q3 q4 fuel (by omega)
        rw [hh]
        refine chk_alike hc f4 (chk_put hc (fun u hu ou hou d hd => ?_) hk)
        have huc := hU u hu
        obtain ⟨z1, z2⟩ := hC.clob u hu ou hou i o (by omega) ho d hd
        exact ⟨z1, z2 (by omega)⟩
end
end Go.Proofs.YthahgmncnbeddaaGreatDoorA
/- Regions that draw their order and hold one call that is no pure one: as a rule. -/
set_option linter.unusedVariables false
set_option linter.unusedSimpArgs false
namespace Go.Proofs.YthahgmncnbeddaaGreatDoorA
open Go Go.RowKit
def callB (ops : Array Oper) (c : Nat) (U : List Nat) : Bool := match ops[c]? with
  | some oc => oc.guard.isNone && (List.range ops.size).all (fun i => i == c || match ops[i]? with
      | some oi => (decide (i < c) && waitsB ops oc i) || (decide (c < i) && waitsB ops oi c) || (apartB ops oi oc && (cls oi.op == 0 || (U.contains i && decide (i < c) && loadB oi)))
      | none => true) &&
    U.all fun u => decide (u < c) && match ops[u]? with
      | some ou => (List.range ops.size).all fun i => decide (i < u) || match ops[i]? with
        | some oi => (match oi.dst with | some d => !(readsOf ops ou).contains d && (decide (i ≤ u) || ou.dst != some d) | none => true)
        | none => true
      | none => true
  | none => false
section
variable {E : Env} {f : FuncId} {K : List Item} {X : Ex → St → Prop} {ops : Array Oper}
theorem callB_spec {c : Nat} {U : List Nat} (h : callB ops c U = true) : ∃ oc, CallOk ops c oc U ∧ ∀ u ∈ U, u < c := by
  unfold callB at h
  split at h
  · rename_i oc hoc
    simp only [Bool.and_eq_true, Option.isNone_iff_eq_none, List.all_eq_true, List.mem_range, decide_eq_true_eq] at h
    obtain ⟨⟨h1, h2⟩, h3⟩ := h
    refine ⟨oc, ⟨hoc, h1, fun i oi hi ho => ?_, fun u hu ou hou i oi hui hoi d hd => ?_⟩, fun u hu => (h3 u hu).1⟩
    · have := h2 i (Array.getElem?_eq_some_iff.1 ho).1
      rw [ho] at this
      simp only [Bool.or_eq_true, Bool.and_eq_true, decide_eq_true_eq, beq_iff_eq, List.contains_iff_mem] at this
      rcases this with q | (q | q) | q
      · exact absurd q hi
      · exact .inl ⟨q.1, waitsB_spec q.2⟩
      · exact .inr (.inl ⟨q.1, waitsB_spec q.2⟩)
      · exact .inr (.inr ⟨q.1, q.2.imp id (fun q => ⟨q.1.1, q.1.2, q.2⟩)⟩)
    · have := (h3 u hu).2
      rw [hou] at this
      simp only [List.all_eq_true, List.mem_range] at this
      have := this i (Array.getElem?_eq_some_iff.1 hoi).1
      rw [hoi] at this
      simp only [hd, Bool.or_eq_true, Bool.and_eq_true, decide_eq_true_eq, Bool.not_eq_true', bne_iff_ne] at this
      rcases this with q | ⟨q1, q2⟩
      · omega
      · refine ⟨fun q => ?_, fun q => ?_⟩
        · rw [List.contains_iff_mem.2 q] at q1; cases q1
        · exact q2.resolve_left (by omega)
  · cases h
theorem runA_call : ∀ (rest : List Oper) (i : Nat) (S Sc : St) (g : FuncId) (args : List AV) (d : Option Nat) (os : List Oper), ops.toList.drop i = rest → runA E ops.toList rest S = .call g args d os Sc →
    ∃ c oc, i ≤ c ∧ ops[c]? = some oc ∧ opA E Sc oc.op = .call g args ∧ oc.dst = d ∧ ops.toList.drop (c + 1) = os ∧ runL E ops (List.range' i (c - i)) S = some Sc
  | [], i, S, Sc, g, args, d, os, hd, e => by cases e
  | o :: rest, i, S, Sc, g, args, d, os, hd, e => by
    have ho : ops[i]? = some o := by
      have : (ops.toList.drop i)[0]? = some o := by rw [hd]; rfl
      rw [List.getElem?_drop] at this
      simpa using this
    have hd' : ops.toList.drop (i + 1) = rest := by
      have : (ops.toList.drop i).drop 1 = rest := by rw [hd]; rfl
      rwa [List.drop_drop] at this
    have next : ∀ S', stepS E ops S i = some S' → runA E ops.toList rest S' = .call g args d os Sc → ∃ c oc, i ≤ c ∧ ops[c]? = some oc ∧ opA E Sc oc.op = .call g args ∧ oc.dst = d ∧ ops.toList.drop (c + 1) = os ∧ runL E ops (List.range' i (c - i)) S = some Sc := fun S' hs hr => by
      obtain ⟨c, oc, q1, q2, q3, q4, q5, q6⟩ := runA_call rest (i + 1) S' Sc g args d os hd' hr
      refine ⟨c, oc, by omega, q2, q3, q4, q5, ?_⟩
      rw [show c - i = (c - (i + 1)) + 1 by omega, List.range'_succ, runL, hs]
      exact q6
    unfold runA at e
    split at e
    · rename_i hg
      unfold stepA at e
      split at e
      · rename_i v h' hop
        exact next _ (by unfold stepS; simp only [ho, hg, hop]) e
      · rename_i g' args' hop
        cases e
        exact ⟨i, o, Nat.le_refl _, ho, hop, rfl, hd', by simp [runL]⟩
      · cases e
      · cases e
    · rename_i hg
      exact next _ (by unfold stepS; simp only [ho, hg]) e
    · cases e
open Classical in
theorem t_drawC {id : Nat} {S Sc S2 : St} {g : FuncId} {args : List AV} {d : Option Nat} {os : List Oper} {r : AV} {h' : Hp} (U : List Nat) (hm : E.P.follows .mixedOrders = true) (hO : orderB ops = true) (h1 : runA E ops.toList ops.toList S = .call g args d os Sc)
    (hB : callB ops (ops.size - os.length - 1) U = true) (h2 : MeetsH E g args Sc.h (Is (.ret r) h')) (hw : WFh h') (hk : Chk E ops U Sc h') (h3 : runA E ops.toList os (St.put { Sc with h := h' } d r) = .done S2) (hT : T E f K S2 X) : T E f (.code (.region id ops true) :: K) S X := by
  intro F G ok w a b cs q2 q3 q5 q6 q7
  obtain ⟨c, oc, k1, k2, k3, k4, k5, k6⟩ := runA_call ops.toList 0 S Sc g args d os rfl h1
  have hcs : c < ops.size := (Array.getElem?_eq_some_iff.1 k2).1
  have hlen : os.length = ops.size - (c + 1) := by rw [← k5, List.length_drop, Array.length_toList]
  rw [show ops.size - os.length - 1 = c by omega] at hB
  obtain ⟨oc', hC, hU⟩ := callB_spec hB
  have := hC.hc
  rw [k2] at this
  cases this
  let Y : YT := fun g' args' h => if g' = g ∧ args' = args ∧ h = Sc.h then some (r, h') else none
  have hY : YOk E Y := fun g' args' h r' h'' e => by
    simp only [Y] at e
    split at e
    · rename_i q; obtain ⟨rfl, rfl, rfl⟩ := q; cases e; exact h2
    · cases e
  have hcall : callS E Y oc Sc = some (St.put { Sc with h := h' } oc.dst r) := by
    unfold callS
    rw [k3]
    simp only [Y, and_self, if_true]
  have h3' := runA_runL os (c + 1) _ S2 k5 (by rw [← k4] at h3; exact h3)
  obtain ⟨A, I⟩ := q6.drawn (w' := { w with drawn := w.drawn + 1 }) rfl rfl rfl rfl
  have hsplit : List.range' 0 ops.size = List.range' 0 (c - 0) ++ c :: List.range' (c + 1) os.length := by
    rw [hlen, ← List.range'_succ, Nat.sub_zero]
    have := List.range'_append_1 (s := 0) (m := c) (n := ops.size - (c + 1) + 1)
    rw [Nat.zero_add] at this
    rw [this]
    congr 1
    omega
  have hwp : wpAny E.P .any ops (RegQ E f K X F a.defers) ops.size (Array.replicate ops.size false) a { w with drawn := w.drawn + 1 } :=
    anyC_wp (Se := S2) (Y := Y) q2 q5 hO hY hC hU (fun S' al => hT.alike al) ops.size (List.range' 0 (c - 0)) (List.range' (c + 1) os.length) _ S Sc _ S2 G ok _ a (by rw [← hsplit]; simp) (by rw [← hsplit]; exact List.pairwise_lt_range') (fun i => by
      rw [← hsplit, List.mem_range'_1]
      simp only [Nat.zero_le, true_and, Nat.zero_add]
      constructor
      · intro hi; exact ⟨hi, by simp [hi]⟩
      · exact fun h => h.1) ⟨by simp, closed_none ops⟩ k6 hcall (by rw [put_h]; exact hk) (by rw [put_h]; exact hw) h3' (.refl _) I (by have := q7.adv A S.h; exact this) rfl ops.size (Nat.le_refl _)
  have hcode : (Code.region id ops true).wp E.P (RegQ E f K X F a.defers) a w := wp_region_any hm hwp
  obtain ⟨e2, a2, w2, hq, harr⟩ := hcode b K cs
  exact reg_end q2 q3 q5 ⟨e2, a2, w2, hq, harr⟩
end
end Go.Proofs.YthahgmncnbeddaaGreatDoorA
/- Runs reckoned out by the kernel, with calls in regions that draw. -/
set_option linter.unusedVariables false
set_option linter.unusedSimpArgs false
namespace Go.Proofs.YthahgmncnbeddaaGreatDoorA
open Go Go.RowKit
def sameL (p : AV → AV → Bool) : List AV → List AV → Bool
  | [], [] => true
  | x :: xs, y :: ys => p x y && sameL p xs ys
  | _, _ => false
/-- The same value (told so only of some). -/
noncomputable def sameV : Nat → AV → AV → Bool
  | 0, _, _ => false
  | d + 1, a, b => match a, b with
    | .b x, .b y => x == y
    | .i k x, .i k' y => eqK k k' && beqI x y
    | .s x, .s y => beqS x y
    | .np, .np => true
    | .nf, .nf => true
    | .ni, .ni => true
    | .nils, .nils => true
    | .ptr i r c, .ptr i' r' c' => Nat.beq i i' && Nat.beq r r' && Nat.beq c c'
    | .osl i o n, .osl i' o' n' => Nat.beq i i' && Nat.beq o o' && Nat.beq n n'
    | .agg xs, .agg ys => sameL (sameV d) xs ys
    | _, _ => false
theorem sameL_eq {p : AV → AV → Bool} (hp : ∀ a b, p a b = true → a = b) : ∀ xs ys, sameL p xs ys = true → xs = ys
  | [], [], _ => rfl
  | x :: xs, y :: ys, h => by
    simp only [sameL, Bool.and_eq_true] at h
    rw [hp x y h.1, sameL_eq hp xs ys h.2]
  | [], _ :: _, h => by cases h
  | _ :: _, [], h => by cases h
theorem sameV_eq : ∀ (d : Nat) (a b : AV), sameV d a b = true → a = b
  | 0, a, b, h => by cases h
  | d + 1, a, b, h => by
    cases a <;> cases b <;> first
      | rfl
      | (exfalso; cases h; done)
      | skip
    case b.b x y => simp only [sameV, beq_iff_eq] at h; rw [h]
    case i.i k x k' y =>
      simp only [sameV, Bool.and_eq_true, eqK_eq, beqI_eq, decide_eq_true_eq, beq_iff_eq] at h
      rw [h.1, h.2]
    case s.s x y => simp only [sameV, beqS_eq, beq_iff_eq] at h; rw [h]
    case ptr.ptr i r c i' r' c' => simp only [sameV, Bool.and_eq_true, Nat.beq_eq] at h; rw [h.1.1, h.1.2, h.2]
    case osl.osl i r c i' r' c' => simp only [sameV, Bool.and_eq_true, Nat.beq_eq] at h; rw [h.1.1, h.1.2, h.2]
    case agg.agg xs ys => simp only [sameV] at h; rw [sameL_eq (sameV_eq d) xs ys h]
def wfL (n : Nat) : List (Nat × Ent) → Bool
  | [] => true
  | (i, _) :: r => !Nat.ble n i && wfL n r
theorem wfL_ok {n : Nat} : ∀ {c : List (Nat × Ent)}, wfL n c = true → ∀ id e, look c id = some e → id < n
  | [], h, id, e, q => by cases q
  | (i, x) :: r, h, id, e, q => by
    simp only [wfL, Bool.and_eq_true, Bool.not_eq_true'] at h
    by_cases hi : i = id
    · subst hi
      rcases Nat.lt_or_ge i n with k | k
      · exact k
      · rw [Nat.ble_eq_true_of_le k] at h; cases h.1
    · simp only [look, if_neg hi] at q
      exact wfL_ok h.2 id e q
/-- The loads ahead of the call that it does not wait for. -/
def freeU (ops : Array Oper) (c : Nat) : List Nat := (List.range c).filter fun i => match ops[i]?, ops[c]? with | some oi, some oc => loadB oi && !waitsB ops oc i | _, _ => false
noncomputable def chkN (E : Env) (ops : Array Oper) (U : List Nat) (S : St) (h' : Hp) : Bool := U.all fun u => match ops[u]? with
  | some o => (match o.dst with
    | some d => !Nat.ble S.N d && (match opA E { S with h := h' } o.op with | .val v _ => loadB o && sameV 5 v (getE S.t d) | _ => false)
    | none => false)
  | none => true
theorem chkN_ok {E : Env} {ops : Array Oper} {U : List Nat} {S : St} {h' : Hp} (h : chkN E ops U S h' = true) : Chk E ops U S h' := fun u hu o ho => by
  have := List.all_eq_true.1 h u hu
  rw [ho] at this
  simp only at this
  cases hd : o.dst with
  | none => rw [hd] at this; cases this
  | some d =>
    rw [hd] at this
    simp only [Bool.and_eq_true, Bool.not_eq_true'] at this
    obtain ⟨h1, h2⟩ := this
    refine ⟨d, rfl, ?_, ?_⟩
    · rcases Nat.lt_or_ge d S.N with k | k
      · exact k
      · rw [Nat.ble_eq_true_of_le k] at h1; cases h1
    · cases hop : opA E { S with h := h' } o.op with
      | val v g =>
        rw [hop] at h2
        simp only [Bool.and_eq_true] at h2
        have hv := sameV_eq 5 _ _ h2.2
        rw [getE_eq] at hv
        have hg : g = h' := by
          have hl := h2.1
          unfold loadB at hl
          simp only [Bool.and_eq_true] at hl
          cases ho : o.op with
          | load t a => rw [ho] at hop; exact (OR.of_val hop).2
          | _ => rw [ho] at hl; cases hl.2
        rw [hv, hg]
      | _ => rw [hop] at h2; cases h2
end Go.Proofs.YthahgmncnbeddaaGreatDoorA
/- Runs reckoned out by the kernel, with calls in regions that draw: the machine and its proof. -/
set_option linter.unusedVariables false
set_option linter.unusedSimpArgs false
namespace Go.Proofs.YthahgmncnbeddaaGreatDoorA
open Go Go.RowKit
noncomputable def backZ (E : Env) (rec : Rc) (rl : List ResultVar) (ops : Array Oper) (K : List Item) (d : Option Nat) (os : List Oper) (S : St) (r : Option (Out × Hp)) : Option (Out × Hp) := match r with
  | some p => (match p with
    | (o, h') => (match o with
      | .ret r => (match wfL h'.n h'.c && (callB ops (ops.size - os.length - 1) (freeU ops (ops.size - os.length - 1)) && chkN E ops (freeU ops (ops.size - os.length - 1)) S h') with
        | true => (match runE E ops.toList os (St.put { S with h := h' } d r) with | .done S2 => rec rl (.code K S2) | _ => none)
        | false => none)
      | .pan _ => none))
  | none => none
noncomputable def drawZ (E : Env) (X : XT) (rec : Rc) (rl : List ResultVar) (ops : Array Oper) (K : List Item) (S : St) : Option (Out × Hp) := match orderB ops with
  | true => (match runE E ops.toList ops.toList S with
    | .done S' => rec rl (.code K S')
    | .call g args d os Sc => backZ E rec rl ops K d os Sc (callN E X rec g args Sc.h)
    | _ => none)
  | false => none
noncomputable def cZ (E : Env) (X : XT) (rec : Rc) (rl : List ResultVar) (c : Code) (K : List Item) (S : St) : Option (Out × Hp) := match c with
  | .seq x y => rec rl (.code (.code x :: .code y :: K) S)
  | .skip => rec rl (.code K S)
  | .label _ => rec rl (.code K S)
  | .block id c => rec rl (.code (.code c :: .inBlock id :: K) S)
  | .loop c => rec rl (.code (.code c :: .inLoop c :: K) S)
  | .exit id => exitN rec rl S (exitTo id K)
  | .cond c x y => condN rec rl x y K S (evE E S.t c)
  | .ret => endN E rl S
  | .region _ ops b => (match b with
    | true => drawZ E X rec rl ops K S
    | false => rec rl (.reg ops.toList K (runE E ops.toList ops.toList S)))
  | _ => none
noncomputable def itZ (E : Env) (X : XT) (rec : Rc) (rl : List ResultVar) (it : Item) (K : List Item) (S : St) : Option (Out × Hp) := match it with
  | .code c => cZ E X rec rl c K S
  | .inLoop c => rec rl (.code (.code c :: .inLoop c :: K) S)
  | .inBlock _ => rec rl (.code K S)
  | _ => none
noncomputable def stepZ (E : Env) (X : XT) (rec : Rc) (rl : List ResultVar) (tk : Tk) : Option (Out × Hp) := match tk with
  | .code K S => (match K with | [] => endN E rl S | it :: K => itZ E X rec rl it K S)
  | .reg all K r => regN E X rec rl all K r
noncomputable def evZ (E : Env) (X : XT) (n : Nat) : Rc := Nat.rec (fun _ _ => none) (fun _ rec rl tk => stepZ E X rec rl tk) n
noncomputable def evO (E : Env) (X : XT) (n : Nat) (f : FuncId) (args : List AV) (h : Hp) : Option (Out × Hp) := enterN E (evZ E X n) f args h
section
variable {E : Env} {X : XT}
def RecOk (E : Env) (rec : Rc) : Prop := ∀ rl tk o h, rec rl tk = some (o, h) → TkOk E rl (Is o h) tk
theorem enter_ok {rec : Rc} (hR : RecOk E rec) (hN : Named E.P) {g : FuncId} {args : List AV} {h h' : Hp} {o : Out} (e : enterN E rec g args h = some (o, h')) : MeetsH E g args h (Is o h') := by
  unfold enterN at e
  split at e
  · rename_i fn hf
    split at e
    · rename_i c hb
      split at e
      · rename_i hl
        exact call_ok hN hf hb hl (hR _ _ _ _ e)
      · cases e
    · cases e
  · cases e
theorem callN_ok {rec : Rc} (hX : XOk E X) (hR : RecOk E rec) (hN : Named E.P) {g : FuncId} {args : List AV} {h h' : Hp} {o : Out} (e : callN E X rec g args h = some (o, h')) : MeetsH E g args h (Is o h') := by
  unfold callN at e
  split at e
  · rename_i p hx
    cases e
    exact hX _ _ _ _ _ hx
  · exact enter_ok hR hN e
theorem end_ok {rl : List ResultVar} {S : St} {o : Out} {h : Hp} (e : endN E rl S = some (o, h)) : XQ E rl (Is o h) .ret S := by
  unfold endN at e
  split at e
  · rename_i r hr
    cases e
    simp only [XQ, hr]
    exact ⟨rfl, rfl⟩
  · cases e
theorem reg_ok {rec : Rc} (hX : XOk E X) (hR : RecOk E rec) (hN : Named E.P) {rl : List ResultVar} {all : List Oper} {K : List Item} {r : RR} {o : Out} {h : Hp} (e : regN E X rec rl all K r = some (o, h)) : ∀ f, WR E f all K (XQ E rl (Is o h)) r := fun f => by
  cases r with
  | done S => obtain ⟨t, N, ⟨c, m⟩⟩ := S; exact .done _ (hR rl (.code K ⟨t, N, ⟨c, m⟩⟩) o h e f)
  | call g args d os S =>
    simp only [regN] at e
    cases hc : callN E X rec g args S.h with
    | none => rw [hc] at e; cases e
    | some p =>
      obtain ⟨o', h'⟩ := p
      rw [hc] at e
      have hm := callN_ok hX hR hN hc
      cases o' with
      | ret r =>
        simp only [backN, runE_eq] at e
        exact wr_ret hm (hR rl (.reg all K _) o h e f)
      | pan x =>
        simp only [backN] at e
        cases e
        exact wr_pan hm ⟨rfl, rfl⟩
  | pan x S => simp only [regN] at e; cases e; exact .pan x S ⟨rfl, rfl⟩
  | bad => simp only [regN] at e; cases e
theorem draw_ok {rec : Rc} (hX : XOk E X) (hR : RecOk E rec) (hN : Named E.P) (hO : E.P.follows .mixedOrders = true) {rl : List ResultVar} {id : Nat} {ops : Array Oper} {K : List Item} {S : St} {o : Out} {h : Hp} (e : drawZ E X rec rl ops K S = some (o, h)) (f : FuncId) : T E f (.code (.region id ops true) :: K) S (XQ E rl (Is o h)) := by
  unfold drawZ at e
  split at e
  · rename_i ho
    rw [runE_eq] at e
    split at e
    · rename_i S' hr
      exact t_draw hO ho (by rw [hr]; exact .done S' (hR rl (.code K S') o h e f))
    · rename_i g args d os Sc hr
      cases hc : callN E X rec g args Sc.h with
      | none => rw [hc] at e; cases e
      | some p =>
        obtain ⟨o', h'⟩ := p
        rw [hc] at e
        have hm := callN_ok hX hR hN hc
        cases o' with
        | pan x => simp only [backZ] at e; cases e
        | ret r =>
          simp only [backZ] at e
          split at e
          · rename_i hb
            simp only [Bool.and_eq_true] at hb
            rw [runE_eq] at e
            split at e
            · rename_i S2 hr2
              exact t_drawC _ hO ho hr hb.2.1 hm (wfL_ok hb.1) (chkN_ok hb.2.2) hr2 (hR rl (.code K S2) o h e f)
            · cases e
          · cases e
    · cases e
  · cases e
theorem evZ_ok (hX : XOk E X) (hN : Named E.P) (hO : E.P.follows .mixedOrders = true) : ∀ n, RecOk E (evZ E X n)
  | 0 => fun rl tk o h e => by cases e
  | n + 1 => fun rl tk o h e => by
    have hR := evZ_ok hX hN hO n
    change stepZ E X (evZ E X n) rl tk = some (o, h) at e
    generalize evZ E X n = rec at e hR
    cases tk with
    | reg all K r => exact reg_ok hX hR hN e
    | code K S =>
      intro f
      cases K with
      | nil => exact t_end (end_ok e)
      | cons it K =>
        cases it with
        | inLoop c => exact t_inLoop (hR rl _ o h e f)
        | inBlock _ => exact t_inBlock (hR rl _ o h e f)
        | code c =>
          cases c with
          | seq x y => exact t_seq (hR rl _ o h e f)
          | skip => exact t_skip (hR rl _ o h e f)
          | label _ => exact t_label (hR rl _ o h e f)
          | block id c => exact t_block (hR rl _ o h e f)
          | loop c => exact t_loop (hR rl _ o h e f)
          | exit id =>
            simp only [stepZ, itZ, cZ, exitN] at e
            split at e
            · rename_i K' hk
              exact t_exit hk (hR rl _ o h e f)
            · cases e
          | cond c x y =>
            simp only [stepZ, itZ, cZ, condN, evE_eq] at e
            refine t_cond ?_
            split at e
            · rename_i t hv
              rw [hv]
              cases t with
              | true => exact hR rl _ o h e f
              | false => exact hR rl _ o h e f
            · cases e
          | ret => exact t_ret (end_ok e)
          | region id ops b =>
            cases b with
            | true => exact draw_ok hX hR hN hO e f
            | false =>
              simp only [stepZ, itZ, cZ, runE_eq] at e
              exact t_region (hR rl (.reg ops.toList K _) o h e f)
          | _ => cases e
        | _ => cases e
end
end Go.Proofs.YthahgmncnbeddaaGreatDoorA
/- Evaluation of a function that defers one closure, with calls in regions that draw. -/
set_option linter.unusedVariables false
set_option linter.unusedSimpArgs false
namespace Go.Proofs.YthahgmncnbeddaaGreatDoorA
open Go Go.RowKit
/-- A function that defers a closure, at given arguments, without a panic. -/
noncomputable def evDZ (E : Env) (X : XT) (n N NC : Nat) (D : DefP) (C : RecP) (args : List AV) (h : Hp) : Option (Out × Hp) :=
  match runE E D.ops0.toList D.ops0.toList ⟨envOf 0 args, N, h⟩ with
  | .done S1 => (match evZ E X n [.tmp D.rp] (.code [.code D.rest] (S1.put (some D.d9) (.fn D.g (D.as.toList.map (ev E S1)) (D.bs.toList.map (ev E S1))))) with
    | some (.ret p, h1) => (match evZ E X n [] (.code [.code C.rest] (recS (D.as.toList.map (ev E S1) ++ D.bs.toList.map (ev E S1)) NC C.d1 C.d2 h1 .ni)) with
      | some (.ret _, h2) => (match loadA E.P D.rt h2 p with | some r => some (.ret r, h2) | none => none)
      | _ => none)
    | _ => none)
  | _ => none
section
variable {E : Env} {X : XT}
theorem evDZ_ok (hX : XOk E X) (hN : Named E.P) (hO : E.P.follows .mixedOrders = true) {n N NC : Nat} {D : DefP} {C : RecP} {f : FuncId} {fn fc : Func} (hf : E.P.funcs[f]? = some fn) (hb : fn.body = some D.body) (hn : fn.ntmps = N) (hr : fn.results.toList = [.cell D.rp D.rt]) (hd : D.d9 < N)
    (hfc : E.P.funcs[D.g]? = some fc) (hbc : fc.body = some C.body) (hnc : fc.ntmps = NC) (hrc : fc.results.toList = []) (hlc : D.as.size + D.bs.size ≤ NC) {args : List AV} (hl : args.length ≤ N) {h h' : Hp} {o : Out} (e : evDZ E X n N NC D C args h = some (o, h')) : MeetsH E f args h (Is o h') := by
  unfold evDZ at e
  rw [runE_eq] at e
  split at e
  · rename_i S1 hrun
    split at e
    · rename_i p h1 he1
      split at e
      · rename_i r0 h2 he2
        split at e
        · rename_i r hload
          cases e
          have hT := evZ_ok hX hN hO n _ _ _ _ he1 f
          have hC := evZ_ok hX hN hO n _ _ _ _ he2 D.g
          refine meetsH_defer (d9 := D.d9) N _ hf hb (hN f fn hf) rfl hn hl hd (runA_N _ _ _ _ hrun) hrun (hT.mono ?_)
          rintro x S hx
          cases x with
          | pan x => obtain ⟨q, _⟩ := hx; cases q
          | ret =>
            simp only [XQ, resA, resL, Option.map_some] at hx
            obtain ⟨q1, q2⟩ := hx
            cases q1
            refine meetsD NC hfc hbc (hN _ fc hfc) hrc hnc (by simpa using hlc) ?_
            rw [q2]
            refine hC.mono ?_
            rintro x S' hx'
            cases x with
            | pan x => obtain ⟨q, _⟩ := hx'; cases q
            | ret =>
              simp only [XQ, resA, resL] at hx'
              obtain ⟨q3, q4⟩ := hx'
              refine ⟨rfl, ?_⟩
              rw [hr, q4]
              simp only [resA, resL, hload]
              exact ⟨rfl, rfl⟩
        · cases e
      · cases e
    · cases e
  · cases e
end
end Go.Proofs.YthahgmncnbeddaaGreatDoorA
/- Own blocks that last from now on. -/
set_option linter.unusedVariables false
set_option linter.unusedSimpArgs false
namespace Go.Proofs.YthahgmncnbeddaaGreatDoorA
open Go Go.RowKit
/-- What names the block id, read as lasting. -/
def frz (id k : Nat) (l : List (List AV)) : Nat → AV → AV
  | 0, a => a
  | d + 1, a => match a with
    | .osl i off n => if i = id ∧ off + n ≤ l.length then .isl true k ((l.drop off).take n) else .osl i off n
    | .ptr i r c => if i = id then (match l[r]? with | some row => .ip row c | none => .ptr i r c) else .ptr i r c
    | .agg cs => .agg (cs.map (frz id k l d))
    | .tup cs => .tup (cs.map (frz id k l d))
    | a => a
theorem frz_rep {ok ok' : Okc} {w : World} {G : Gh} {id k : Nat} {l : List (List AV)} {p : Pl} (hp : G id = some p) (hh : HoldsR ok w G p k l) (hno : l.all (fun row => row.all (noid 12)) = true) (h1 : ∀ b i, ok b i → ok' b i) (h2 : ∀ o, p.base ≤ o → ok' p.b o) :
    ∀ (d : Nat) (v : Value) (a : AV), Rep ok w G v a → Rep ok' w G v (frz id k l d a) := by
  have hm : ∀ {v a}, Rep ok w G v a → Rep ok' w G v a := fun r => r.mono (fun b i q => ⟨h1 b i q, rfl⟩) _ (fun _ _ e => e)
  obtain ⟨hk, cs, t, fz', e1, e2, e3, e4, e5, e6⟩ := hh
  have hcell : ∀ i row, l[i]? = some row → ∀ j a, row[j]? = some a → ∃ u, w.cell? ⟨p.b, p.base + i * p.k + j, none⟩ = some u ∧ Rep ok' w G0 u a ∧ u.oneCell' = true := fun i row hi j a hj => by
    obtain ⟨u, hu, ru, ro⟩ := e6 i row hi j a hj
    refine ⟨u, ?_, noid_rep 12 u a (List.all_eq_true.1 (List.all_eq_true.1 hno row (List.mem_of_getElem? hi)) a (List.mem_of_getElem? hj)) (hm ru), ro⟩
    rw [cell_of_row w p.b _ cs t fz' e1, ← hu]
  intro d
  induction d with
  | zero => exact fun v a r => hm r
  | succ d ih =>
    intro v a r
    cases r with
    | osl _ i off n cap q hq q1 q2 =>
      simp only [frz]
      split
      · rename_i hc
        obtain ⟨rfl, hc⟩ := hc
        rw [hp] at hq; cases hq
        have hget : ∀ i row, ((l.drop off).take n)[i]? = some row → l[off + i]? = some row := fun i row hi => by
          rw [List.getElem?_take] at hi
          split at hi
          · rw [List.getElem?_drop] at hi; exact hi
          · cases hi
        have hof : ∀ i j, p.base + off * p.k + i * k + j = p.base + (off + i) * p.k + j := fun i j => by rw [← hk, Nat.add_mul, Nat.add_assoc p.base]
        refine .isl _ true k _ n p.b (p.base + off * p.k) cap (fun i j => (w.cell? ⟨p.b, p.base + off * p.k + i * k + j, none⟩).getD undef) (by simp; omega) (by simp; omega) (fun row hr => ?_) (fun i row hi j hj => ?_) (fun i row hi j a hj => ?_)
        · rw [← hk]; exact e5 row (List.mem_of_mem_drop (List.mem_of_mem_take hr))
        · obtain ⟨u, hu, _, ro⟩ := hcell _ row (hget i row hi) j row[j] (by simp [hj])
          simp only [hof, hu]
          exact ⟨rfl, h2 _ (by omega), ro⟩
        · obtain ⟨u, hu, ru, _⟩ := hcell _ row (hget i row hi) j a hj
          simp only [hof, hu]
          exact ru
      · exact hm (.osl _ i off n cap q hq q1 q2)
    | ptr _ i r c q hq =>
      simp only [frz]
      split
      · rename_i hc
        subst hc
        rw [hp] at hq; cases hq
        split
        · rename_i row hrow
          refine .ip _ row c p.b (p.base + r * p.k) (fun j => (w.cell? ⟨p.b, p.base + r * p.k + j, none⟩).getD undef) (fun j hj => ?_) (fun j a hj => ?_)
          · obtain ⟨u, hu, _, ro⟩ := hcell _ row hrow j row[j] (by simp [hj])
            simp only [hu]
            exact ⟨rfl, h2 _ (by omega), ro⟩
          · obtain ⟨u, hu, ru, _⟩ := hcell _ row hrow j a hj
            simp only [hu]
            exact ru
        · exact hm (.ptr _ _ r c p hp)
      · exact hm (.ptr _ i r c q hq)
    | agg _ vs as hl h =>
      simp only [frz]
      refine .agg _ vs _ (by simp [hl]) (fun j v a e e' => ?_)
      rw [List.getElem?_map] at e'
      cases hb : as[j]? with
      | none => rw [hb] at e'; cases e'
      | some b => rw [hb] at e'; cases e'; exact ih v b (h j v b e hb)
    | tup _ vs as hl h =>
      simp only [frz]
      refine .tup _ vs _ (by simp [hl]) (fun j v a e e' => ?_)
      rw [List.getElem?_map] at e'
      cases hb : as[j]? with
      | none => rw [hb] at e'; cases e'
      | some b => rw [hb] at e'; cases e'; exact ih v b (h j v b e hb)
    | b => exact .b ..
    | i => exact .i ..
    | s => exact .s ..
    | np => exact .np _
    | nf => exact .nf _
    | ni => exact .ni _
    | nils => exact .nils _
    | un => exact .un ..
    | isln => exact .isln ..
    | isle => exact .isle ..
    | ip _ row c bb o vs q1 q2 => exact hm (.ip _ row c bb o vs q1 q2)
    | isl _ nn k rows n bb o cap vs q1 q2 q3 q4 q5 => exact hm (.isl _ nn k rows n bb o cap vs q1 q2 q3 q4 q5)
    | itr _ i q hq => exact hm (.itr _ i q hq)
    | fn _ f vs us as bs l1 l2 q1 q2 => exact hm (.fn _ f vs us as bs l1 l2 q1 q2)
    | ifc _ t v a r => exact hm (.ifc _ t v a r)
section
variable {E : Env} {f : FuncId} {K : List Item} {S : St} {X : Ex → St → Prop}
/-- A block of the call's own lasts from now on. -/
theorem t_freeze (id : Nat) {k : Nat} {l : List (List AV)} {t' : List (Nat × AV)} (hl : look S.h.c id = some (.rows k l)) (hno : l.all (fun row => row.all (noid 12)) = true) (ht : ∀ j, get t' j = get S.t j ∨ get t' j = frz id k l 12 (get S.t j))
    (h : T E f K ⟨t', S.N, ⟨rmv S.h.c id, S.h.n⟩⟩ X) : T E f K S X := by
  intro F G ok w a b cs q2 q3 q5 I R
  obtain ⟨p, hp, hh, hno'⟩ := I.rel.look' hl
  obtain ⟨e00, hm, _⟩ := look_mem hl
  have A : Adv G ok w G (fun b i => ok b i ∨ (b = p.b ∧ p.base ≤ i)) w := ⟨fun _ _ e => e, fun b i e => ⟨.inl e, rfl⟩, fun _ _ e => e⟩
  have I' : Inv F G (fun b i => ok b i ∨ (b = p.b ∧ p.base ≤ i)) w ⟨rmv S.h.c id, S.h.n⟩ := by
    refine ⟨I.os, I.tape, I.output, I.size, I.keep, fun b hb hd i q => ?_, I.adv.trans A, fun b i q => ?_, fun id' e q hm' hq => I.own id' e q (mem_rmv I.rel.nodup hm').2 hq, fun id' e' hm' => ?_, fun i1 i2 a1 a2 q1 q2 m1 m2 => I.rel.inj i1 i2 a1 a2 q1 q2 (mem_rmv I.rel.nodup m1).2 (mem_rmv I.rel.nodup m2).2, (sub_rmv id S.h.c).nodup I.rel.nodup, I.rel.fresh⟩
    · rcases q with q | ⟨rfl, _⟩
      · exact I.okeep b hb hd i q
      · rcases I.own id e00 p hm hp with q | q
        · exact absurd q hd
        · omega
    · rcases q with q | ⟨rfl, _⟩
      · exact I.lt b i q
      · exact Holds.lt hh
    · obtain ⟨hne, hm'⟩ := mem_rmv I.rel.nodup hm'
      obtain ⟨q, hq, h1, h2⟩ := I.rel.look id' e' hm'
      refine ⟨q, hq, h1.adv A rfl, fun o ho q' => ?_⟩
      rcases q' with q' | ⟨hb, _⟩
      · exact h2 o ho q'
      · exact I.rel.inj id' id _ _ q p hm' hm hne hq hp hb
  refine h F G _ w a b cs q2 q3 q5 I' ⟨R.size, fun j => ?_⟩
  rcases ht j with e | e
  · rw [e]; exact (R.r j).adv A
  · rw [e]; exact frz_rep hp hh hno (fun b i q => .inl q) (fun o ho => .inr ⟨rfl, ho⟩) 12 _ _ (R.r j)
def frzT (id k : Nat) (l : List (List AV)) (t : List (Nat × AV)) : List (Nat × AV) := t.map fun q => (q.1, frz id k l 12 q.2)
end
end Go.Proofs.YthahgmncnbeddaaGreatDoorA
/- From contracts over own blocks to pure ones; forgetting blocks. -/
set_option linter.unusedVariables false
set_option linter.unusedSimpArgs false
namespace Go.Proofs.YthahgmncnbeddaaGreatDoorA
open Go Go.RowKit
section
variable {E : Env} {f : FuncId} {args : List AV} {h : Hp} {K : List Item} {S : St} {X : Ex → St → Prop}
theorem PostA.mono {F : Fr} {G : Gh} {ok : Okc} {w : World} {R R' : Out → Hp → Prop} (hq : ∀ o h, R o h → R' o h) {e : Ending} {w' : World} (p : PostA F G ok w R e w') : PostA F G ok w R' e w' := by
  cases e with
  | returned v => obtain ⟨r, h', G', ok', q, p⟩ := p; exact ⟨r, h', G', ok', hq _ _ q, p⟩
  | panicked c => obtain ⟨v, r, h', G', ok', e, q, p⟩ := p; exact ⟨v, r, h', G', ok', e, hq _ _ q, p⟩
  | outgrown => exact p
theorem MeetsH.mono {R R' : Out → Hp → Prop} (hm : MeetsH E f args h R) (hq : ∀ o h, R o h → R' o h) : MeetsH E f args h R' :=
  ⟨hm.1, fun F G ok w vals q1 q2 q3 q4 q5 => (hm.2 F G ok w vals q1 q2 q3 q4 q5).mono fun e w' p => p.mono hq⟩
/-- Less blocks, and numbers that are not given yet. -/
structure Sub (h' h : Hp) : Prop where
  c : ∀ x ∈ h'.c, x ∈ h.c
  nodup : (h.c.map (·.1)).Nodup → (h'.c.map (·.1)).Nodup
  n : h.n ≤ h'.n
theorem Inv.sub {F : Fr} {G : Gh} {ok : Okc} {w : World} {h h' : Hp} (I : Inv F G ok w h) (s : Sub h' h) : Inv F G ok w h' := I.less h'.c s.c (s.nodup I.rel.nodup) h'.n s.n
theorem MeetsH.forget {R R' : Out → Hp → Prop} (hm : MeetsH E f args h R) (hq : ∀ o h0, R o h0 → ∃ h1, Sub h1 h0 ∧ R' o h1) : MeetsH E f args h R' := by
  refine ⟨hm.1, fun F G ok w vals q1 q2 q3 q4 q5 => (hm.2 F G ok w vals q1 q2 q3 q4 q5).mono fun e w' p => ?_⟩
  cases e with
  | returned v => obtain ⟨r, h', G', ok', q, A, rv, I⟩ := p; obtain ⟨h1, s, q'⟩ := hq _ _ q; exact ⟨r, h1, G', ok', q', A, rv, I.sub s⟩
  | panicked c => obtain ⟨v, r, h', G', ok', e, q, A, rv, I⟩ := p; obtain ⟨h1, s, q'⟩ := hq _ _ q; exact ⟨v, r, h1, G', ok', e, q', A, rv, I.sub s⟩
  | outgrown => exact p
theorem t_forget (h' : Hp) (s : Sub h' S.h) (hT : T E f K ⟨S.t, S.N, h'⟩ X) : T E f K S X := fun F G ok w a b cs q2 q3 q5 q6 q7 =>
  hT F G ok w a b cs q2 q3 q5 (q6.sub s) ⟨q7.size, q7.r⟩
theorem Sub.refl (h : Hp) : Sub h h := ⟨fun _ q => q, fun q => q, Nat.le_refl _⟩
theorem Sub.tail (x : Nat × Ent) (c : List (Nat × Ent)) (n m : Nat) (hn : n ≤ m) : Sub ⟨c, m⟩ ⟨x :: c, n⟩ := ⟨fun _ q => List.mem_cons_of_mem _ q, fun q => (List.nodup_cons.1 q).2, hn⟩
theorem Sub.drop (k : Nat) (c : List (Nat × Ent)) (n m : Nat) (hn : n ≤ m) : Sub ⟨c.drop k, m⟩ ⟨c, n⟩ := ⟨fun _ q => List.mem_of_mem_drop q, fun q => (((List.drop_sublist k c).map _).nodup q), hn⟩
/-- A contract from nothing of one's own is a pure one. -/
theorem meetsP_of_H {r : AV} (hM : ModOk E) (hm : MeetsH E f args ⟨[], 0⟩ (Rt r)) : MeetsP E.P E.gl f args r := by
  refine ⟨hm.1, fun ok w vals hg hlt hl hr => ?_⟩
  have I : Inv ⟨fun _ => False, w, ok, G0⟩ G0 ok w ⟨[], 0⟩ :=
    ⟨rfl, rfl, rfl, Nat.le_refl _, fun _ _ _ => rfl, fun _ _ _ _ q => q, .refl .., hlt, fun _ _ _ q _ => (List.not_mem_nil q).elim, ⟨fun _ _ q => (List.not_mem_nil q).elim, fun _ _ _ _ _ _ q _ => (List.not_mem_nil q).elim, .nil, fun _ _ => rfl⟩⟩
  refine (hm.2 ⟨fun _ => False, w, ok, G0⟩ G0 ok w vals hM hg I hl hr).mono (fun e w' hp => ?_)
  cases e with
  | returned v =>
    obtain ⟨r0, h, G, ok', ⟨e2, e3⟩, A, rv, I'⟩ := hp
    refine ⟨v, okB G ok' h, rfl, ⟨I'.os, I'.tape, I'.output, I'.size, fun b q => I'.keep b q (fun q => q)⟩, fun b i q1 q2 => ?_, fun b i q => .inl (I'.adv.c b i q).1, fun b i q => ?_, ?_⟩
    · rcases q2 with q2 | ⟨id, e, p, m, hp, rfl, _⟩
      · exact I'.okeep b q1 (fun q => q) i q2
      · rcases I'.own id e p m hp with q | q
        · exact q.elim
        · exact absurd q1 (Nat.not_lt.2 q)
    · rcases q with q | ⟨id, e, p, m, hp, rfl, _⟩
      · exact I'.lt b i q
      · obtain ⟨p', hp', h1, _⟩ := I'.rel.look id e m
        rw [hp] at hp'; cases hp'
        exact h1.lt
    · have := fz_rep I' 12 v _ (by rw [e2]; exact e3) rv
      rwa [e2] at this
  | panicked ch => obtain ⟨x, r0, h, G, ok', _, e1, _⟩ := hp; exact e1.elim
  | outgrown => exact hp.elim
theorem MeetsH.to_P {r r' : AV} {h' : Hp} (hM : ModOk E) (hm : MeetsH E f args ⟨[], 0⟩ (Is (.ret r') h')) (h1 : fz h' 12 r' = r) (h2 : noid 12 r = true) : MeetsP E.P E.gl f args r :=
  meetsP_of_H hM (hm.mono fun o h q => by obtain ⟨rfl, rfl⟩ := q; exact ⟨h1, h2⟩)
/-- A pure function at given arguments, reckoned out. -/
noncomputable def outP (o : Option (Out × Hp)) : Option AV := match o with
  | some (.ret r, h) => (match noid 12 (fz h 12 r) with | true => some (fz h 12 r) | false => none)
  | _ => none
theorem evOP_ok {XX : XT} (hM : ModOk E) (hX : XOk E XX) (hN : Named E.P) (hO : E.P.follows .mixedOrders = true) {n : Nat} {r : AV} (e : outP (evO E XX n f args ⟨[], 0⟩) = some r) : MeetsP E.P E.gl f args r := by
  unfold outP at e
  split at e
  · rename_i r' h' he
    split at e
    · rename_i hn
      cases e
      exact (enter_ok (evZ_ok hX hN hO n) hN he).to_P hM rfl hn
    · cases e
  · cases e
end
end Go.Proofs.YthahgmncnbeddaaGreatDoorA
