/- A contract with further own blocks ahead of those that it speaks of. -/
import Derived.Test.YthahgmncnbeddaaGreatDoorME
import Derived.Test.YthahgmncnbeddaaGreatDoorMC
set_option linter.unusedVariables false
set_option linter.unusedSimpArgs false
namespace Go.Proofs.YthahgmncnbeddaaGreatDoorA
open Go Go.RowKit
section
variable {E : Env} {f : FuncId} {args : List AV} {K : List Item} {S : St} {X : Ex → St → Prop}
theorem Inv.join {F : Fr} {G G' : Gh} {ok ok' : Okc} {w w' : World} {e c : List (Nat × Ent)} {n : Nat} {h' : Hp} (I : Inv F G ok w ⟨e ++ c, n⟩) (A : Adv G ok w G' ok' w')
    (I' : Inv ⟨fun b => ∃ id en p, (id, en) ∈ c ∧ G id = some p ∧ p.b = b, w, ok, G⟩ G' ok' w' h') : Inv F G' ok' w' ⟨e ++ h'.c, h'.n⟩ := by
  have hD : ∀ b, (∃ id en p, (id, en) ∈ c ∧ G id = some p ∧ p.b = b) → F.D b ∨ F.w0.heap.size ≤ b := by
    rintro b ⟨id, en, p, hm, hp, rfl⟩
    exact I.own id en p (List.mem_append_right _ hm) hp
  have hN : ∀ b, b < F.w0.heap.size → ¬ F.D b → ¬ (∃ id en p, (id, en) ∈ c ∧ G id = some p ∧ p.b = b) := fun b q1 q2 q3 => by
    rcases hD b q3 with q | q
    · exact q2 q
    · omega
  have hlt : ∀ b, b < F.w0.heap.size → b < w.heap.size := fun b q => Nat.lt_of_lt_of_le q I.size
  have hE : ∀ id en, (id, en) ∈ e → ∃ p, G id = some p ∧ G' id = some p ∧ p.b < w.heap.size ∧ ¬ (∃ id en q, (id, en) ∈ c ∧ G id = some q ∧ q.b = p.b) := by
    intro id en hm
    obtain ⟨p, hp, hh, _⟩ := I.rel.look id en (List.mem_append_left _ hm)
    refine ⟨p, hp, A.g _ _ hp, hh.lt, ?_⟩
    rintro ⟨id2, en2, q, hm2, hq, hb⟩
    refine I.rel.inj id id2 en en2 p q (List.mem_append_left _ hm) (List.mem_append_right _ hm2) ?_ hp hq hb.symm
    rintro rfl
    have := I.rel.nodup
    rw [List.map_append, List.nodup_append] at this
    exact this.2.2 id (List.mem_map_of_mem (f := (·.1)) hm) id (List.mem_map_of_mem (f := (·.1)) hm2) rfl
  have hC : ∀ id en p, (id, en) ∈ h'.c → G' id = some p → (∃ id en q, (id, en) ∈ c ∧ G id = some q ∧ q.b = p.b) ∨ w.heap.size ≤ p.b := fun id en p hm hp => I'.own id en p hm hp
  refine ⟨I'.os.trans I.os, I'.tape.trans I.tape, I'.output.trans I.output, Nat.le_trans I.size I'.size, fun b q1 q2 => (I'.keep b (hlt b q1) (hN b q1 q2)).trans (I.keep b q1 q2), fun b q1 q2 i q3 => I.okeep b q1 q2 i (I'.okeep b (hlt b q1) (hN b q1 q2) i q3), I.adv.trans A, I'.lt, ?_, ⟨?_, ?_, ?_, I'.rel.fresh⟩⟩
  · intro id en p hm hp
    rcases List.mem_append.1 hm with hm | hm
    · obtain ⟨p', h1, h2, _, _⟩ := hE id en hm
      rw [h2] at hp; cases hp
      exact I.own id en p (List.mem_append_left _ hm) h1
    · rcases hC id en p hm hp with q | q
      · exact hD _ q
      · exact .inr (Nat.le_trans I.size q)
  · intro id en hm
    rcases List.mem_append.1 hm with hm | hm
    · obtain ⟨p, hp, hh, hno⟩ := I.rel.look id en (List.mem_append_left _ hm)
      obtain ⟨p', h1, h2, h3, h4⟩ := hE id en hm
      rw [hp] at h1; cases h1
      exact ⟨p, h2, hh.adv A (I'.keep _ h3 h4), fun o q q' => hno o q (I'.okeep _ h3 h4 o q')⟩
    · exact I'.rel.look id en hm
  · intro id id2 en en2 p p2 hm hm2 hne hp hp2
    rcases List.mem_append.1 hm with hm | hm <;> rcases List.mem_append.1 hm2 with hm2 | hm2
    · obtain ⟨q, h1, h2, h3, h4⟩ := hE id en hm
      obtain ⟨q2, k1, k2, k3, k4⟩ := hE id2 en2 hm2
      rw [h2] at hp; cases hp
      rw [k2] at hp2; cases hp2
      exact I.rel.inj id id2 en en2 _ _ (List.mem_append_left _ hm) (List.mem_append_left _ hm2) hne h1 k1
    · obtain ⟨q, h1, h2, h3, h4⟩ := hE id en hm
      rw [h2] at hp; cases hp
      intro hb
      rcases hC id2 en2 p2 hm2 hp2 with q | q
      · exact h4 (hb ▸ q)
      · omega
    · obtain ⟨q, h1, h2, h3, h4⟩ := hE id2 en2 hm2
      rw [h2] at hp2; cases hp2
      intro hb
      rcases hC id en p hm hp with q | q
      · exact h4 (hb ▸ q)
      · omega
    · exact I'.rel.inj id id2 en en2 p p2 hm hm2 hne hp hp2
  · rw [List.map_append, List.nodup_append]
    have nd := I.rel.nodup
    rw [List.map_append, List.nodup_append] at nd
    refine ⟨nd.1, I'.rel.nodup, ?_⟩
    intro a ha b hb hab
    subst hab
    obtain ⟨⟨i1, e1⟩, m1, q1⟩ := List.mem_map.1 ha
    obtain ⟨⟨i2, e2⟩, m2, q2⟩ := List.mem_map.1 hb
    simp only at q1 q2
    subst q1; subst q2
    obtain ⟨q, h1, h2, h3, h4⟩ := hE _ e1 m1
    rcases hC _ e2 q m2 h2 with r | r
    · exact h4 r
    · omega
/-- A contract with further own blocks ahead of those that it speaks of. -/
theorem MeetsH.frame {c : List (Nat × Ent)} {n : Nat} {R : Out → Hp → Prop} (e : List (Nat × Ent)) (hm : MeetsH E f args ⟨c, n⟩ R) : MeetsH E f args ⟨e ++ c, n⟩ (fun o h => ∃ h0, R o h0 ∧ h = ⟨e ++ h0.c, h0.n⟩) := by
  refine ⟨hm.1, fun F G ok w vals hM hg I hl hr => ?_⟩
  have nd := I.rel.nodup
  rw [List.map_append, List.nodup_append] at nd
  have I1 : Inv ⟨fun b => ∃ id en p, (id, en) ∈ c ∧ G id = some p ∧ p.b = b, w, ok, G⟩ G ok w ⟨c, n⟩ :=
    ⟨rfl, rfl, rfl, Nat.le_refl _, fun _ _ _ => rfl, fun _ _ _ _ q => q, .refl .., I.lt, fun id en p q1 q2 => .inl ⟨id, en, p, q1, q2, rfl⟩,
      ⟨fun id en q => I.rel.look id en (List.mem_append_right _ q), fun i j a b p q q1 q2 => I.rel.inj i j a b p q (List.mem_append_right _ q1) (List.mem_append_right _ q2), nd.2.1, I.rel.fresh⟩⟩
  refine (hm.2 _ G ok w vals hM hg I1 hl hr).mono fun x w' p => ?_
  cases x with
  | returned v =>
    obtain ⟨r, h', G', ok', q, A, rv, I'⟩ := p
    exact ⟨r, ⟨e ++ h'.c, h'.n⟩, G', ok', ⟨h', q, rfl⟩, A, rv, I.join A I'⟩
  | panicked ch =>
    obtain ⟨v, r, h', G', ok', e1, q, A, rv, I'⟩ := p
    exact ⟨v, r, ⟨e ++ h'.c, h'.n⟩, G', ok', e1, ⟨h', q, rfl⟩, A, rv, I.join A I'⟩
  | outgrown => exact p
theorem MeetsH.frameI {c c' : List (Nat × Ent)} {n n' : Nat} {o : Out} (e : List (Nat × Ent)) (hm : MeetsH E f args ⟨c, n⟩ (Is o ⟨c', n'⟩)) : MeetsH E f args ⟨e ++ c, n⟩ (Is o ⟨e ++ c', n'⟩) :=
  (hm.frame e).mono fun o' h q => by obtain ⟨h0, ⟨rfl, rfl⟩, rfl⟩ := q; exact ⟨rfl, rfl⟩
end
end Go.Proofs.YthahgmncnbeddaaGreatDoorA
/- Regions that draw their order, told by paths: the order in which the operations that change the own blocks come, and what each operation yields. -/
set_option linter.unusedVariables false
set_option linter.unusedSimpArgs false
namespace Go.Proofs.YthahgmncnbeddaaGreatDoorA
open Go Go.RowKit
/-- A path: what the region's temporaries hold at last, the own blocks from change to change, the changes. -/
structure DP where
  ws : List (Nat × AV)
  gs : List Hp
  es : List Nat
def DP.st (p : DP) (S0 : St) (g : Hp) : St := ⟨p.ws ++ S0.t, S0.N, g⟩
def FreeAt (E : Env) (all : List Oper) (S : St) (o : Oper) : Prop := ∃ d, o.dst = some d ∧ ((guardA E all S o.guard = some true ∧ opA E S o.op = .val (get S.t d) S.h) ∨ (guardA E all S o.guard = some false ∧ get S.t d = .tup []))
def EffAt (E : Env) (all : List Oper) (S : St) (o : Oper) (h' : Hp) : Prop := guardA E all S o.guard = some true ∧ ∃ v, (∀ d, o.dst = some d → get S.t d = v) ∧ (opA E S o.op = .val v h' ∨ ∃ g args, opA E S o.op = .call g args ∧ MeetsH E g args S.h (Is (.ret v) h'))
def dstIs (o : Oper) (t : Nat) : Bool := match o.dst with | some d => d == t | none => false
def isCallV (o : Oper) : Bool := match o.op with | .call ⟨.value _, _, _⟩ => true | _ => false
/-- What is asked of the region and the paths, beside what the operations yield. -/
def dpB (ops : Array Oper) (N : Nat) (eff : List Nat) (pes : List (List Nat)) : Bool :=
  ops.toList.all (fun o => decide (cls o.op ≤ 4)) &&
  (List.range ops.size).all (fun j => match ops[j]? with
    | some oj => oj.after.all (fun e => !Region.binds .any e || decide (e.on < j)) && (readsOf ops oj).all (fun t => (List.range ops.size).all fun i => match ops[i]? with
        | some oi => !dstIs oi t || waitsB ops oj i
        | none => true) &&
      (match oj.dst with | some d => decide (d < N) && (List.range ops.size).all (fun i => i == j || match ops[i]? with | some oi => !dstIs oi d | none => true) | none => true)
    | none => true) &&
  eff.all (fun e => decide (e < ops.size)) &&
  pes.all (fun es => decide (es.length = eff.length) && decide (es.Nodup) && es.all (fun e => eff.contains e) && eff.all (fun e => es.contains e) &&
    (List.range (es.length + 1)).all fun s => eff.all fun e => (es.take s).contains e || (match ops[e]? with | some oe => eff.any fun e' => !(es.take s).contains e' && waitsB ops oe e' | none => true) || pes.any fun es' => decide (es'.take (s + 1) = es.take s ++ [e])) &&
  pes.any (fun _ => true) &&
  (eff.all (fun e => match ops[e]? with | some oe => !isCallV oe | none => true) || pes.all fun es => (pes.filter fun es' => decide (es'.head? = es.head?)).length == 1)
def frB (ops : Array Oper) (eff es : List Nat) (frs : List (Nat × Nat)) : Bool :=
  decide (frs.length = ops.size) && (List.range ops.size).all fun i => eff.contains i || match ops[i]?, frs[i]? with
    | some o, some ku => decide (ku.1 ≤ ku.2) && decide (ku.2 ≤ es.length) && (cls o.op == 0 || ((List.range ku.1).all (fun s => (es.drop s).any fun e => eff.contains e && waitsB ops o e) &&
        (List.range (es.length + 1)).all fun s => decide (s ≤ ku.2) || (es.take s).any fun e => match ops[e]? with | some oe => waitsB ops oe i | none => false))
    | _, _ => true
section
variable {E : Env} {f : FuncId} {K : List Item} {X : Ex → St → Prop} {ops : Array Oper}
theorem dstIs_iff {o : Oper} {t : Nat} : dstIs o t = true ↔ o.dst = some t := by
  unfold dstIs
  cases o.dst <;> simp
theorem get_ws {ws t0 : List (Nat × AV)} {t : Nat} (h : ∀ x ∈ ws, x.1 ≠ t) : get (ws ++ t0) t = get t0 t := by
  induction ws with
  | nil => rfl
  | cons x ws ih =>
    obtain ⟨k, v⟩ := x
    have h1 := h (k, v) (List.mem_cons_self ..)
    simp only at h1
    rw [List.cons_append, get_cons, if_neg h1]
    exact ih (fun y hy => h y (List.mem_cons_of_mem _ hy))
/-- One operation of a region, told by what it yields or by the contract of what it calls. -/
theorem eff_op {F : Fr} {G : Gh} {ok : Okc} {w : World} {a : Act} {S : St} {c : Nat} {oc : Oper} {v : AV} {h' : Hp} {ds : List Deferred} {next : Act → World → Prop} {QQ : Exit → Act → World → Prop} (hM : ModOk E) (hg0 : Globs E.gl F.ok0 F.w0) (hc : ops[c]? = some oc)
    (hgu : guardA E ops.toList S oc.guard = some true) (he : opA E S oc.op = .val v h' ∨ ∃ g args, opA E S oc.op = .call g args ∧ MeetsH E g args S.h (Is (.ret v) h')) (I : Inv F G ok w S.h) (R : RelT G ok w S a) (ha : a.defers = ds)
    (key : ∀ (G' : Gh) (ok' : Okc) (w' : World) (a' : Act), Inv F G' ok' w' h' → RelT G' ok' w' (St.put { S with h := h' } oc.dst v) a' → a'.defers = ds → next a' w') : wpOp E.P ops QQ c next a w := by
  unfold wpOp
  simp only [hc]
  rw [guard_ok (E := E) (t := true) R hgu, if_pos rfl]
  refine .inl ?_
  rcases he with hop | ⟨g, args, ho, hm⟩
  · exact oper_wp hM I R (glob_now hg0 I) hop (fun x w' G' ok' A I' rx => key G' ok' w' _ I' ((R.adv A h').put oc.dst rx) (by rw [put_defers]; exact ha))
  · obtain ⟨fo, as, ts, c1, c2, hoo, hv, rfl⟩ := opA_call ho
    have hgn := glob_now hg0 I
    obtain ⟨vs, us, hf, l1, l2, q1, q2⟩ := callee_rep R hgn hv
    obtain ⟨hl, hr⟩ := args_rep (args := as) R hgn l1 l2 q1 q2
    unfold Oper.wp
    rw [call_run hoo hf hm.1, Oper.upon_enter]
    refine (hm.2 F G ok w _ hM hgn I hl hr).mono (fun e w' hp => ?_)
    cases e with
    | returned x =>
      obtain ⟨r', h'', G', ok', ⟨hR1, rfl⟩, A, rx, I'⟩ := hp
      cases hR1
      exact key G' ok' w' _ I' ((R.adv A _).put oc.dst rx) (by rw [put_defers]; exact ha)
    | panicked ch =>
      obtain ⟨x, r', h'', G', ok', _, ⟨hR, _⟩, _⟩ := hp
      cases hR
    | outgrown => exact hp.elim
structure DOk (ops : Array Oper) (N : Nat) (eff : List Nat) (pes : List (List Nat)) : Prop where
  c4 : ∀ o ∈ ops.toList, cls o.op ≤ 4
  ord : ∀ (j : Nat) oj, ops[j]? = some oj → ∀ e ∈ oj.after, Region.binds .any e = true → e.on < j
  ssa : ∀ (j : Nat) oj, ops[j]? = some oj → ∀ t ∈ readsOf ops oj, ∀ (i : Nat) oi, ops[i]? = some oi → oi.dst = some t → Waits ops oj i
  lt : ∀ (j : Nat) oj d, ops[j]? = some oj → oj.dst = some d → d < N
  one : ∀ (j : Nat) oj d, ops[j]? = some oj → oj.dst = some d → ∀ (i : Nat) oi, ops[i]? = some oi → oi.dst = some d → i = j
  es : ∀ es ∈ pes, es.length = eff.length ∧ es.Nodup ∧ (∀ e ∈ es, e ∈ eff) ∧ ∀ e ∈ eff, e ∈ es
  nx : ∀ es ∈ pes, ∀ s, s ≤ es.length → ∀ e ∈ eff, e ∉ es.take s → ∀ oe, ops[e]? = some oe → (∀ e' ∈ eff, waitsB ops oe e' = true → e' ∈ es.take s) → ∃ es' ∈ pes, es'.take (s + 1) = es.take s ++ [e]
  ne : ∃ es, es ∈ pes
  cl : (∀ e ∈ eff, ∀ oe, ops[e]? = some oe → isCallV oe = false) ∨ ∀ es ∈ pes, ∀ es' ∈ pes, es'.head? = es.head? → es' = es
  el : ∀ e ∈ eff, e < ops.size
theorem one_len {α : Type} {p : α → Bool} {l : List α} (h : (l.filter p).length = 1) {a b : α} (ha : a ∈ l) (hb : b ∈ l) (pa : p a = true) (pb : p b = true) : a = b := by
  obtain ⟨c, hc⟩ := List.length_eq_one_iff.1 h
  have h1 : a ∈ l.filter p := List.mem_filter.2 ⟨ha, pa⟩
  have h2 : b ∈ l.filter p := List.mem_filter.2 ⟨hb, pb⟩
  rw [hc, List.mem_singleton] at h1 h2
  rw [h1, h2]
theorem dpB_spec {N : Nat} {eff : List Nat} {pes : List (List Nat)} (h : dpB ops N eff pes = true) : DOk ops N eff pes := by
  unfold dpB at h
  simp only [Bool.and_eq_true] at h
  obtain ⟨⟨⟨⟨⟨h1, h2⟩, h3⟩, h4⟩, h5⟩, h6⟩ := h
  have key : ∀ (j : Nat) oj, ops[j]? = some oj → (oj.after.all (fun e => !Region.binds .any e || decide (e.on < j)) = true) ∧ ((readsOf ops oj).all (fun t => (List.range ops.size).all fun i => match ops[i]? with
        | some oi => !dstIs oi t || waitsB ops oj i
        | none => true) = true) ∧ ((match oj.dst with | some d => decide (d < N) && (List.range ops.size).all (fun i => i == j || match ops[i]? with | some oi => !dstIs oi d | none => true) | none => true) = true) := fun j oj hj => by
    have := List.all_eq_true.1 h2 j (List.mem_range.2 (Array.getElem?_eq_some_iff.1 hj).1)
    rw [hj] at this
    simp only [Bool.and_eq_true] at this
    exact ⟨this.1.1, this.1.2, this.2⟩
  refine ⟨fun o ho => by simpa using List.all_eq_true.1 h1 o ho, fun j oj hj e he hb => ?_, fun j oj hj t ht i oi hi hd => ?_, fun j oj d hj hd => ?_, fun j oj d hj hd i oi hi hd2 => ?_, fun es hes => ?_, fun es hes s hs e he hne oe hoe hw => ?_, ?_, ?_, fun e he => by simpa using List.all_eq_true.1 h3 e he⟩
  · have := Array.all_eq_true_iff_forall_mem.1 (key j oj hj).1 e he
    simp only [Bool.or_eq_true, Bool.not_eq_true', decide_eq_true_eq] at this
    exact this.resolve_left (by rw [hb]; simp)
  · have := List.all_eq_true.1 (List.all_eq_true.1 (key j oj hj).2.1 t ht) i (List.mem_range.2 (Array.getElem?_eq_some_iff.1 hi).1)
    rw [hi] at this
    simp only [Bool.or_eq_true, Bool.not_eq_true'] at this
    rcases this with q | q
    · rw [dstIs_iff.2 hd] at q; cases q
    · exact waitsB_spec q
  · have := (key j oj hj).2.2
    rw [hd] at this
    simp only [Bool.and_eq_true, decide_eq_true_eq] at this
    exact this.1
  · have := (key j oj hj).2.2
    rw [hd] at this
    simp only [Bool.and_eq_true, decide_eq_true_eq] at this
    have := List.all_eq_true.1 this.2 i (List.mem_range.2 (Array.getElem?_eq_some_iff.1 hi).1)
    rw [hi] at this
    simp only [Bool.or_eq_true, beq_iff_eq, Bool.not_eq_true'] at this
    rcases this with q | q
    · exact q
    · rw [dstIs_iff.2 hd2] at q; cases q
  · have := List.all_eq_true.1 h4 es hes
    simp only [Bool.and_eq_true, decide_eq_true_eq] at this
    obtain ⟨⟨⟨⟨q1, q2⟩, q3⟩, q4⟩, q5⟩ := this
    exact ⟨q1, q2, fun e he => by simpa using List.all_eq_true.1 q3 e he, fun e he => by simpa using List.all_eq_true.1 q4 e he⟩
  · have := List.all_eq_true.1 h4 es hes
    simp only [Bool.and_eq_true, decide_eq_true_eq] at this
    have := List.all_eq_true.1 (List.all_eq_true.1 this.2 s (List.mem_range.2 (by omega))) e he
    rw [hoe] at this
    simp only [Bool.or_eq_true] at this
    rcases this with (q | q) | q
    · exact absurd (List.contains_iff_mem.1 q) hne
    · obtain ⟨e', he', hq⟩ := List.any_eq_true.1 q
      simp only [Bool.and_eq_true, Bool.not_eq_true'] at hq
      have := List.contains_iff_mem.2 (hw e' he' hq.2)
      rw [hq.1] at this; cases this
    · obtain ⟨es', he', hq⟩ := List.any_eq_true.1 q
      exact ⟨es', he', by simpa using hq⟩
  · obtain ⟨es, hes, _⟩ := List.any_eq_true.1 h5
    exact ⟨es, hes⟩
  · simp only [Bool.or_eq_true] at h6
    rcases h6 with q | q
    · refine .inl fun e he oe hoe => ?_
      have := List.all_eq_true.1 q e he
      rw [hoe] at this
      simpa using this
    · refine .inr fun es hes es' hes' hh => ?_
      have := List.all_eq_true.1 q es hes
      exact one_len (p := fun es' => decide (es'.head? = es.head?)) (by simpa using this) hes' hes (by simpa using hh) (by simp)
/-- Where the region stands: pre are the changes so far, in order. -/
structure DJ (ops : Array Oper) (S0 : St) (eff : List Nat) (ps : List DP) (listed : Array Bool) (S : St) (pre : List Nat) : Prop where
  N : S.N = S0.N
  ex : ∃ p ∈ ps, pre <+: p.es
  al : ∀ p ∈ ps, pre <+: p.es → p.gs[pre.length]? = some S.h ∧ ∀ (i : Nat) o d, ops[i]? = some o → listed.getD i false = true → o.dst = some d → get S.t d = get (p.ws ++ S0.t) d
  old : ∀ t, (∀ (i : Nat) o, ops[i]? = some o → listed.getD i false = true → o.dst ≠ some t) → get S.t t = get S0.t t
  li : ∀ e ∈ eff, listed.getD e false = true ↔ e ∈ pre
theorem listed_set_iff {listed : Array Bool} {i j : Nat} (hi : i < listed.size) : (listed.setIfInBounds i true).getD j false = true ↔ j = i ∨ listed.getD j false = true := by
  simp only [Array.getD_eq_getD_getElem?]
  by_cases q : j = i
  · subst q
    simp [Array.getElem?_setIfInBounds, hi]
  · rw [Array.getElem?_setIfInBounds_ne (Ne.symm q)]
    simp [q]
theorem get_put_same {S : St} {d : Nat} {v : AV} (h : d < S.N) : get (S.put (some d) v).t d = v := by
  simp only [St.put]; rw [if_pos h, get_cons, if_pos rfl]
theorem put_N (S : St) (d : Option Nat) (v : AV) : (S.put d v).N = S.N := by
  cases d with
  | none => rfl
  | some d => simp only [St.put]; split <;> rfl
end
end Go.Proofs.YthahgmncnbeddaaGreatDoorA
/- Regions that draw their order, told by paths: the rule. -/
set_option linter.unusedVariables false
set_option linter.unusedSimpArgs false
namespace Go.Proofs.YthahgmncnbeddaaGreatDoorA
open Go Go.RowKit
section
variable {E : Env} {f : FuncId} {K : List Item} {X : Ex → St → Prop} {ops : Array Oper}
structure DAll (E : Env) (f : FuncId) (K : List Item) (X : Ex → St → Prop) (ops : Array Oper) (S0 : St) (eff : List Nat) (ps : List DP) : Prop where
  ok : DOk ops S0.N eff (ps.map (·.es))
  ws : ∀ p ∈ ps, ∀ x ∈ p.ws, ∃ (i : Nat) (o : Oper), ops[i]? = some o ∧ o.dst = some x.1
  gl : ∀ p ∈ ps, p.gs.length = p.es.length + 1
  fr : ∀ p ∈ ps, ∀ (i : Nat) o, ops[i]? = some o → i ∉ eff → ∀ (s : Nat) g, p.gs[s]? = some g → (∀ e ∈ eff, Waits ops o e → e ∈ p.es.take s) → (∀ e ∈ p.es.take s, ∀ oe, ops[e]? = some oe → ¬ Waits ops oe i) → FreeAt E ops.toList (p.st S0 g) o
  ef : ∀ p ∈ ps, ∀ (s : Nat) e g g', p.es[s]? = some e → p.gs[s]? = some g → p.gs[s + 1]? = some g' → ∃ o, ops[e]? = some o ∧ EffAt E ops.toList (p.st S0 g) o g'
  t : ∀ p ∈ ps, ∀ g, p.gs[p.es.length]? = some g → T E f K (p.st S0 g) X
  nd : ∀ p ∈ ps, ∀ q ∈ ps, p.es = q.es → p = q
variable {S0 : St} {eff : List Nat} {ps : List DP}
theorem DAll.es {p : DP} (hA : DAll E f K X ops S0 eff ps) (hp : p ∈ ps) : p.es.length = eff.length ∧ p.es.Nodup ∧ (∀ e ∈ p.es, e ∈ eff) ∧ ∀ e ∈ eff, e ∈ p.es := hA.ok.es _ (List.mem_map_of_mem hp)
theorem take_pre {α : Type} {a b : List α} (h : a <+: b) : b.take a.length = a := by
  obtain ⟨r, rfl⟩ := h
  simp
theorem DAll.reads {p : DP} {listed : Array Bool} {S : St} {pre : List Nat} {i : Nat} {o : Oper} (hA : DAll E f K X ops S0 eff ps) (hJ : DJ ops S0 eff ps listed S pre) (hclo : Closed ops listed) (hp : p ∈ ps) (hpre : pre <+: p.es) (ho : ops[i]? = some o)
    (hall : ∀ e ∈ o.after, Region.binds .any e = true → listed.getD e.on false = true) : ∀ t ∈ readsOf ops o, get S.t t = get (p.st S0 S.h).t t := by
  intro t ht
  by_cases hw : ∃ (j : Nat) (oj : Oper), ops[j]? = some oj ∧ oj.dst = some t
  · obtain ⟨j, oj, hj, hd⟩ := hw
    have := waits_listed hclo hall (hA.ok.ssa i o ho t ht j oj hj hd)
    exact (hJ.al p hp hpre).2 j oj t hj this hd
  · have hn : ∀ (j : Nat) oj, ops[j]? = some oj → oj.dst ≠ some t := fun j oj hj q => hw ⟨j, oj, hj, q⟩
    rw [hJ.old t (fun j oj hj _ => hn j oj hj)]
    show get S0.t t = get (p.ws ++ S0.t) t
    rw [get_ws (fun x hx q => by
      obtain ⟨j, oj, hj, hd⟩ := hA.ws p hp x hx
      exact hn j oj hj (by rw [hd, q]))]
theorem dp_wp {F : Fr} {ds : List Deferred} (hM : ModOk E) (hg0 : Globs E.gl F.ok0 F.w0) (hA : DAll E f K X ops S0 eff ps) : ∀ (n : Nat) (rest : List Nat) (listed : Array Bool) (S : St) (pre : List Nat) (G : Gh) (ok : Okc) (w : World) (a : Act), rest.length = n → rest.Pairwise (· < ·) →
    (∀ i, i ∈ rest ↔ i < ops.size ∧ listed.getD i true = false) → (listed.size = ops.size ∧ Closed ops listed) → DJ ops S0 eff ps listed S pre → Inv F G ok w S.h → RelT G ok w S a → a.defers = ds → ∀ fuel, n ≤ fuel → wpAny E.P .any ops (RegQ E f K X F ds) fuel listed a w := by
  have hord := hA.ok.ord
  intro n
  induction n with
  | zero =>
    intro rest listed S pre G ok w a hn hp hr hls hJ I R ha fuel hf
    have : rest = [] := List.eq_nil_of_length_eq_zero hn
    subst this
    have hli : ∀ (i : Nat) o, ops[i]? = some o → listed.getD i false = true := fun i o ho => by
      have hi := (Array.getElem?_eq_some_iff.1 ho).1
      have h1 : ¬ (listed.getD i true = false) := fun q => by
        have := (hr i).2 ⟨hi, q⟩
        cases this
      have hi' : i < listed.size := by rw [hls.1]; exact hi
      simp only [Array.getD_eq_getD_getElem?, Array.getElem?_eq_getElem hi', Option.getD_some] at h1 ⊢
      simpa using h1
    refine wpAny_done ?_ ⟨ha, S, G, ok, I, R, ?_⟩ fuel
    · rw [List.eq_nil_iff_forall_not_mem]
      intro i hi
      obtain ⟨h1, o, ho, _⟩ := mem_ready.1 hi
      exact absurd ((hr i).2 ⟨(Array.getElem?_eq_some_iff.1 ho).1, h1⟩) (by simp)
    · obtain ⟨p, hp, hpre⟩ := hJ.ex
      obtain ⟨e1, e2, e3, e4⟩ := hA.es hp
      have hes : pre = p.es := by
        obtain ⟨r, hr'⟩ := hpre
        cases r with
        | nil => simpa using hr'
        | cons x r =>
          have hx : x ∈ p.es := by rw [← hr']; simp
          have hxe := e3 x hx
          have : listed.getD x false = true := hli x (ops[x]'(hA.ok.el x hxe)) (by simp [hA.ok.el x hxe])
          have hxp := (hJ.li x hxe).1 this
          rw [← hr', List.nodup_append] at e2
          exact absurd rfl (e2.2.2 x hxp x (List.mem_cons_self ..))
      obtain ⟨q1, q2⟩ := hJ.al p hp hpre
      refine (hA.t p hp S.h (by rw [← hes]; exact q1)).alike ⟨hJ.N.symm, rfl, fun j => ?_⟩
      by_cases hw : ∃ (i : Nat) (o : Oper), ops[i]? = some o ∧ o.dst = some j
      · obtain ⟨i, o, ho, hd⟩ := hw
        exact (q2 i o j ho (hli i o ho) hd).symm
      · rw [hJ.old j (fun i o ho _ q => hw ⟨i, o, ho, q⟩)]
        exact get_ws (fun x hx q => by
          obtain ⟨i, o, ho, hd⟩ := hA.ws p hp x hx
          exact hw ⟨i, o, ho, by rw [hd, q]⟩)
  | succ n ih =>
    intro rest listed S pre G ok w a hn hp hr hls hJ I R ha fuel hf
    cases fuel with
    | zero => omega
    | succ fuel =>
    refine ⟨fun h0 => absurd h0 (rest_ready hord hp hr hls.1 (by intro q; rw [q] at hn; simp at hn)), fun i hi => ?_⟩
    obtain ⟨h1, o, ho, hall⟩ := mem_ready.1 hi
    have hisz : i < ops.size := (Array.getElem?_eq_some_iff.1 ho).1
    have hisl : i < listed.size := by rw [hls.1]; exact hisz
    have hnl : ¬ listed.getD i false = true := fun q => listed_not q h1
    have hmem : i ∈ rest := (hr i).2 ⟨hisz, h1⟩
    obtain ⟨l1, l2, rfl⟩ := List.append_of_mem hmem
    obtain ⟨k1, k2, k3⟩ := rest_next hp hr hls hi
    have hc4 := hA.ok.c4 o (List.mem_of_getElem? (by rw [Array.getElem?_toList]; exact ho))
    obtain ⟨p0, hp0, hpre0⟩ := hJ.ex
    have hsame : ∀ p ∈ ps, pre <+: p.es → guardA E ops.toList S o.guard = guardA E ops.toList (p.st S0 S.h) o.guard ∧ opA E S o.op = opA E (p.st S0 S.h) o.op := fun p hp hq => by
      have rd := hA.reads hJ hls.2 hp hq ho hall
      exact ⟨guard_same rd, op_same hc4 rfl rd⟩
    have go : ∀ (S3 : St) (pre' : List Nat), DJ ops S0 eff ps (listed.setIfInBounds i true) S3 pre' → ∀ (G' : Gh) (ok' : Okc) (w' : World) (a' : Act), Inv F G' ok' w' S3.h → RelT G' ok' w' S3 a' → a'.defers = ds → wpAny E.P .any ops (RegQ E f K X F ds) fuel (listed.setIfInBounds i true) a' w' := fun S3 pre' hJ' G' ok' w' a' q2 q3 q4 =>
      ih (l1 ++ l2) _ S3 pre' G' ok' w' a' (by simp at hn ⊢; omega) k1 k2 k3 hJ' q2 q3 q4 fuel (by omega)
    have oldOk : ∀ (h' : Hp) (v : AV), ∀ t, (∀ (j : Nat) oj, ops[j]? = some oj → (listed.setIfInBounds i true).getD j false = true → oj.dst ≠ some t) → get (St.put { S with h := h' } o.dst v).t t = get S0.t t := fun h' v t ht => by
      rw [get_put _ _ _ _ (ht i o ho ((listed_set_iff hisl).2 (.inl rfl)))]
      exact hJ.old t (fun j oj hj hl => ht j oj hj ((listed_set_iff hisl).2 (.inr hl)))
    have keepOk : ∀ p ∈ ps, pre <+: p.es → ∀ (h' : Hp) (v : AV), (∀ d, o.dst = some d → get (p.ws ++ S0.t) d = v) → ∀ (j : Nat) oj d, ops[j]? = some oj → (listed.setIfInBounds i true).getD j false = true → oj.dst = some d → get (St.put { S with h := h' } o.dst v).t d = get (p.ws ++ S0.t) d := fun p hp hq h' v hv j oj d hj hl hd => by
      rcases (listed_set_iff hisl).1 hl with rfl | hl2
      · rw [ho] at hj; cases hj
        rw [hd, get_put_same (S := { S with h := h' }) (by show d < S.N; rw [hJ.N]; exact hA.ok.lt _ o d ho hd)]
        exact (hv d hd).symm
      · rw [get_put _ _ _ _ (fun q => by
          have := hA.ok.one i o d ho q j oj hj hd
          subst this
          exact hnl hl2)]
        exact (hJ.al p hp hq).2 j oj d hj hl2 hd
    by_cases hie : i ∈ eff
    · -- a change
      have hnp : i ∉ pre := fun q => hnl ((hJ.li i hie).2 q)
      obtain ⟨es1, hes1, ht1⟩ := hA.ok.nx p0.es (List.mem_map_of_mem hp0) pre.length hpre0.length_le i hie (by rw [take_pre hpre0]; exact hnp) o ho (fun e' he' hw => by
        rw [take_pre hpre0]
        exact (hJ.li e' he').1 (waits_listed hls.2 hall (waitsB_spec hw)))
      obtain ⟨p1, hp1, rfl⟩ := List.mem_map.1 hes1
      rw [take_pre hpre0] at ht1
      have step : ∀ p ∈ ps, (pre ++ [i]) <+: p.es → ∃ g', p.gs[pre.length + 1]? = some g' ∧ guardA E ops.toList S o.guard = some true ∧ ∃ v, (∀ d, o.dst = some d → get (p.ws ++ S0.t) d = v) ∧ (opA E S o.op = .val v g' ∨ ∃ g args, opA E S o.op = .call g args ∧ MeetsH E g args S.h (Is (.ret v) g')) := fun p hp hq => by
        have hq' : pre <+: p.es := (List.prefix_append pre [i]).trans hq
        have hl := hq.length_le
        simp only [List.length_append, List.length_singleton] at hl
        have hgl := hA.gl p hp
        have hi1 : p.es[pre.length]? = some i := by
          obtain ⟨r, hr'⟩ := hq
          rw [← hr', List.append_assoc, List.getElem?_append_right (Nat.le_refl _), Nat.sub_self]; rfl
        have hg1 := (hJ.al p hp hq').1
        have hlt : pre.length + 1 < p.gs.length := by omega
        obtain ⟨o', ho', hgu, v, hv, hop⟩ := hA.ef p hp pre.length i S.h (p.gs[pre.length + 1]) hi1 hg1 (List.getElem?_eq_getElem hlt)
        rw [ho] at ho'; cases ho'
        obtain ⟨s1, s2⟩ := hsame p hp hq'
        exact ⟨p.gs[pre.length + 1], List.getElem?_eq_getElem hlt, by rw [s1]; exact hgu, v, hv, by rw [s2]; exact hop⟩
      have hq1 : (pre ++ [i]) <+: p1.es := by rw [← ht1]; exact List.take_prefix _ _
      obtain ⟨g1, hg1, hgu, v, hv, hop⟩ := step p1 hp1 hq1
      have hall2 : ∀ p ∈ ps, (pre ++ [i]) <+: p.es → p.gs[pre.length + 1]? = some g1 ∧ ∀ d, o.dst = some d → get (p.ws ++ S0.t) d = v := fun p hp hq => by
        rcases hA.ok.cl with hcl | hcl
        · obtain ⟨g2, hg2, _, v2, hv2, hop2⟩ := step p hp hq
          have hnc := hcl i hie o ho
          have nocall : ¬ ∃ g args, opA E S o.op = .call g args ∧ True := by
            rintro ⟨g, args, hc, _⟩
            obtain ⟨fo, as, ts, c1, c2, hoo, _⟩ := opA_call hc
            unfold isCallV at hnc
            rw [hoo] at hnc
            cases hnc
          have a1 : opA E S o.op = .val v g1 := hop.resolve_right (fun ⟨g, as, q, _⟩ => nocall ⟨g, as, q, trivial⟩)
          have a2 : opA E S o.op = .val v2 g2 := hop2.resolve_right (fun ⟨g, as, q, _⟩ => nocall ⟨g, as, q, trivial⟩)
          rw [a1] at a2
          cases a2
          exact ⟨hg2, hv2⟩
        · have hh : ∀ q, (pre ++ [i]) <+: q → q.head? = (pre ++ [i]).head? := fun q hq => by
            obtain ⟨r, rfl⟩ := hq
            cases pre <;> rfl
          have he : p.es = p1.es := hcl p1.es (List.mem_map_of_mem hp1) p.es (List.mem_map_of_mem hp) ((hh _ hq).trans (hh _ hq1).symm)
          obtain rfl := hA.nd p hp p1 hp1 he
          exact ⟨hg1, hv⟩
      refine eff_op hM hg0 ho hgu hop I R ha (fun G' ok' w' a' q2 q3 q4 => ?_)
      refine go (St.put { S with h := g1 } o.dst v) (pre ++ [i]) ⟨by rw [put_N]; exact hJ.N, ⟨p1, hp1, hq1⟩, fun p hp hq => ⟨by rw [put_h, List.length_append]; exact (hall2 p hp hq).1, ?_⟩, oldOk g1 v, fun e he => ?_⟩ G' ok' w' a' (by rw [put_h]; exact q2) q3 q4
      · exact keepOk p hp ((List.prefix_append pre [i]).trans hq) g1 v (hall2 p hp hq).2
      · rw [listed_set_iff hisl, hJ.li e he]
        rw [List.mem_append, List.mem_singleton, or_comm]
    · -- free
      have allowed : ∀ p ∈ ps, pre <+: p.es → FreeAt E ops.toList (p.st S0 S.h) o := fun p hp hq =>
        hA.fr p hp i o ho hie pre.length S.h (hJ.al p hp hq).1 (fun e he hw => by
          rw [take_pre hq]
          exact (hJ.li e he).1 (waits_listed hls.2 hall hw)) (fun e he oe hoe hw => by
          rw [take_pre hq] at he
          have hef := (hA.es hp).2.2.1 e (hq.subset he)
          exact hnl (waits_listed hls.2 (hls.2 e oe hoe ((hJ.li e hef).2 he)) hw))
      have step : ∀ p ∈ ps, pre <+: p.es → ∃ d, o.dst = some d ∧ stepS E ops S i = some (S.put (some d) (get (p.ws ++ S0.t) d)) := fun p hp hq => by
        obtain ⟨d, hd, hc⟩ := allowed p hp hq
        obtain ⟨s1, s2⟩ := hsame p hp hq
        refine ⟨d, hd, ?_⟩
        unfold stepS
        simp only [ho, s1, s2]
        rcases hc with ⟨c1, c2⟩ | ⟨c1, c2⟩
        · rw [c1]
          simp only [c2, hd]
          rfl
        · rw [c1]
          simp only [hd]
          rw [← c2]; rfl
      obtain ⟨d, hd, hs0⟩ := step p0 hp0 hpre0
      have hdN : d < S.N := by rw [hJ.N]; exact hA.ok.lt i o d ho hd
      have hv : ∀ p ∈ ps, pre <+: p.es → get (p.ws ++ S0.t) d = get (p0.ws ++ S0.t) d := fun p hp hq => by
        obtain ⟨d', hd', hs⟩ := step p hp hq
        rw [hd] at hd'; cases hd'
        rw [hs0] at hs
        have := congrArg (fun S : St => get S.t d) (Option.some.inj hs)
        simp only [get_put_same hdN] at this
        exact this.symm
      refine step_op hM hg0 hs0 I R ha (fun G' ok' w' a' q2 q3 q4 => ?_)
      have ek : ∀ v, S.put (some d) v = St.put { S with h := S.h } o.dst v := fun v => by rw [hd]
      refine go (S.put (some d) (get (p0.ws ++ S0.t) d)) pre ⟨by rw [put_N]; exact hJ.N, ⟨p0, hp0, hpre0⟩, fun p hp hq => ⟨by rw [put_h]; exact (hJ.al p hp hq).1, ?_⟩, by rw [ek]; exact oldOk S.h _, fun e he => ?_⟩ G' ok' w' a' q2 q3 q4
      · rw [ek]
        exact keepOk p hp hq S.h _ (fun d' hd' => by rw [hd] at hd'; cases hd'; exact hv p hp hq)
      · rw [listed_set_iff hisl, hJ.li e he]
        constructor
        · rintro (rfl | q)
          · exact absurd he hie
          · exact q
        · exact .inr
end
end Go.Proofs.YthahgmncnbeddaaGreatDoorA
/- Regions that draw their order, told by paths: as a rule for walks. -/
set_option linter.unusedVariables false
set_option linter.unusedSimpArgs false
namespace Go.Proofs.YthahgmncnbeddaaGreatDoorA
open Go Go.RowKit
@[go_sem] theorem guardA_none (E : Env) (all : List Oper) (S : St) : guardA E all S none = some true := rfl
def FreeM (E : Env) (all : List Oper) (S : St) (o : Oper) : Prop := match o.dst with
  | none => False
  | some d => match guardA E all S o.guard with
    | some true => opA E S o.op = .val (get S.t d) S.h
    | some false => get S.t d = .tup []
    | none => False
def dstM (S : St) (d : Option Nat) (v : AV) : Prop := match d with
  | some d => get S.t d = v
  | none => True
def EffM (E : Env) (all : List Oper) (S : St) (o : Oper) (h' : Hp) : Prop := guardA E all S o.guard = some true ∧ match opA E S o.op with
  | .val v h => h = h' ∧ dstM S o.dst v
  | .call g args => ∃ r, MeetsH E g args S.h (Is (.ret r) h') ∧ dstM S o.dst r
  | _ => False
def freeN (E : Env) (all : List Oper) (st : Hp → St) (gs : List Hp) : List Oper → List (Nat × Nat) → Prop
  | o :: os, k :: ks => (∀ g ∈ (gs.drop k.1).take (k.2 + 1 - k.1), FreeM E all (st g) o) ∧ freeN E all st gs os ks
  | _, _ => True
def effN (E : Env) (all : List Oper) (st : Hp → St) : List Nat → List Hp → Prop
  | e :: es, g :: g' :: gs => (match all[e]? with | some o => EffM E all (st g) o g' | none => False) ∧ effN E all st es (g' :: gs)
  | _, _ => True
def pathB (ops : Array Oper) (N : Nat) (eff : List Nat) (pes : List (List Nat)) (frs : List (List (Nat × Nat))) (keys : List (List Nat)) : Bool :=
  dpB ops N eff pes && decide pes.Nodup && (pes.zip frs).all (fun x => frB ops eff x.1 x.2) && keys.all fun l => l.all fun k => ops.toList.any fun o => dstIs o k
section
variable {E : Env} {f : FuncId} {K : List Item} {X : Ex → St → Prop} {ops : Array Oper}
theorem FreeM.at {all : List Oper} {S : St} {o : Oper} (h : FreeM E all S o) : FreeAt E all S o := by
  unfold FreeM at h
  split at h
  · exact h.elim
  · rename_i d hd
    split at h
    · exact ⟨d, hd, .inl ⟨‹_›, h⟩⟩
    · exact ⟨d, hd, .inr ⟨‹_›, h⟩⟩
    · exact h.elim
theorem dstM_spec {S : St} {d : Option Nat} {v : AV} (h : dstM S d v) : ∀ k, d = some k → get S.t k = v := fun k hk => by subst hk; exact h
theorem EffM.at {all : List Oper} {S : St} {o : Oper} {h' : Hp} (h : EffM E all S o h') : EffAt E all S o h' := by
  obtain ⟨h1, h2⟩ := h
  refine ⟨h1, ?_⟩
  split at h2
  · rename_i v h hop
    obtain ⟨rfl, q⟩ := h2
    exact ⟨v, dstM_spec q, .inl hop⟩
  · rename_i g args hop
    obtain ⟨r, hm, q⟩ := h2
    exact ⟨r, dstM_spec q, .inr ⟨g, args, hop, hm⟩⟩
  · exact h2.elim
theorem freeN_at {all : List Oper} {st : Hp → St} {gs : List Hp} : ∀ {os : List Oper} {ks : List (Nat × Nat)}, freeN E all st gs os ks → ∀ (i : Nat) o k, os[i]? = some o → ks[i]? = some k → ∀ g ∈ (gs.drop k.1).take (k.2 + 1 - k.1), FreeM E all (st g) o
  | [], ks, h, i, o, k, ho, hk => by simp at ho
  | o' :: os, [], h, i, o, k, ho, hk => by simp at hk
  | o' :: os, k' :: ks, h, 0, o, k, ho, hk => by
    simp only [List.getElem?_cons_zero, Option.some.injEq] at ho hk
    subst ho; subst hk; exact h.1
  | o' :: os, k' :: ks, h, i + 1, o, k, ho, hk => freeN_at h.2 i o k (by simpa using ho) (by simpa using hk)
theorem effN_at {all : List Oper} {st : Hp → St} : ∀ {es : List Nat} {gs : List Hp}, effN E all st es gs → ∀ (s : Nat) e g g', es[s]? = some e → gs[s]? = some g → gs[s + 1]? = some g' → ∃ o, all[e]? = some o ∧ EffM E all (st g) o g'
  | [], gs, h, s, e, g, g', he, hg, hg' => by simp at he
  | e0 :: es, [], h, s, e, g, g', he, hg, hg' => by simp at hg
  | e0 :: es, [g0], h, s, e, g, g', he, hg, hg' => by simp at hg'
  | e0 :: es, g0 :: g1 :: gs, h, 0, e, g, g', he, hg, hg' => by
    simp only [List.getElem?_cons_zero, List.getElem?_cons_succ, Option.some.injEq] at he hg hg'
    subst he; subst hg; subst hg'
    have h1 := h.1
    split at h1
    · rename_i o ho; exact ⟨o, ho, h1⟩
    · exact h1.elim
  | e0 :: es, g0 :: g1 :: gs, h, s + 1, e, g, g', he, hg, hg' => effN_at h.2 s e g g' (by simpa using he) (by simpa using hg) (by simpa using hg')
theorem uniq_es {α β : Type} {g : α → β} : ∀ {l : List α}, (l.map g).Nodup → ∀ a ∈ l, ∀ b ∈ l, g a = g b → a = b
  | [], _, a, ha, _, _, _ => by cases ha
  | x :: l, h, a, ha, b, hb, e => by
    rw [List.map_cons, List.nodup_cons] at h
    rcases List.mem_cons.1 ha with rfl | ha2 <;> rcases List.mem_cons.1 hb with rfl | hb2
    · rfl
    · exact absurd (by rw [e]; exact List.mem_map_of_mem hb2) h.1
    · exact absurd (by rw [← e]; exact List.mem_map_of_mem ha2) h.1
    · exact uniq_es h.2 a ha2 b hb2 e
theorem t_paths {id : Nat} {S0 : St} (N : Nat) (eff : List Nat) (ps : List (DP × List (Nat × Nat))) (pes : List (List Nat)) (frs : List (List (Nat × Nat))) (keys : List (List Nat)) (hm : E.P.follows .mixedOrders = true) (hB : pathB ops N eff pes frs keys = true)
    (hN : S0.N = N) (h1 : ps.map (·.1.es) = pes) (h2 : ps.map (·.2) = frs) (h3 : (ps.map fun p => p.1.ws.map (·.1)) = keys) (h4 : ∀ p ∈ ps, p.1.gs.length = p.1.es.length + 1) (h5 : ∀ p ∈ ps, p.1.gs[0]? = some S0.h)
    (hF : ∀ p ∈ ps, freeN E ops.toList (p.1.st S0) p.1.gs ops.toList p.2) (hE : ∀ p ∈ ps, effN E ops.toList (p.1.st S0) p.1.es p.1.gs)
    (hT : ∀ p ∈ ps, ∀ g, p.1.gs[p.1.es.length]? = some g → T E f K (p.1.st S0 g) X) : T E f (.code (.region id ops true) :: K) S0 X := by
  intro F G ok w a b cs q2 q3 q5 q6 q7
  subst hN; subst h1; subst h2; subst h3
  unfold pathB at hB
  simp only [Bool.and_eq_true, decide_eq_true_eq] at hB
  obtain ⟨⟨⟨b1, b2⟩, b3⟩, b4⟩ := hB
  have hD := dpB_spec b1
  have hes : (ps.map (·.1)).map (·.es) = ps.map (·.1.es) := by rw [List.map_map]; rfl
  have hfr : ∀ p ∈ ps, frB ops eff p.1.es p.2 = true := fun p hp => by
    have hz : (p.1.es, p.2) ∈ (ps.map (·.1.es)).zip (ps.map (·.2)) := by
      rw [List.zip_map']
      exact List.mem_map_of_mem (f := fun p : DP × List (Nat × Nat) => (p.1.es, p.2)) hp
    exact List.all_eq_true.1 b3 _ hz
  have hA : DAll E f K X ops S0 eff (ps.map (·.1)) := by
    refine ⟨by rw [hes]; exact hD, fun p hp x hx => ?_, fun p hp => ?_, fun p hp i o ho hie s g hg hall hno => ?_, fun p hp s e g g' he hg hg' => ?_, fun p hp g hg => ?_, fun p hp q hq e => ?_⟩
    · obtain ⟨p', hp', rfl⟩ := List.mem_map.1 hp
      have hk := List.all_eq_true.1 (List.all_eq_true.1 b4 _ (List.mem_map_of_mem (f := fun p : DP × List (Nat × Nat) => p.1.ws.map (·.1)) hp')) x.1 (List.mem_map_of_mem hx)
      obtain ⟨o, ho, hd⟩ := List.any_eq_true.1 hk
      obtain ⟨i, hi⟩ := List.getElem?_of_mem ho
      exact ⟨i, o, by rw [← Array.getElem?_toList]; exact hi, dstIs_iff.1 hd⟩
    · obtain ⟨p', hp', rfl⟩ := List.mem_map.1 hp
      exact h4 p' hp'
    · obtain ⟨p', hp', rfl⟩ := List.mem_map.1 hp
      have hb := hfr p' hp'
      unfold frB at hb
      simp only [Bool.and_eq_true, decide_eq_true_eq] at hb
      obtain ⟨hl, hb⟩ := hb
      have hi := (Array.getElem?_eq_some_iff.1 ho).1
      have hb' := List.all_eq_true.1 hb i (List.mem_range.2 hi)
      have hk : p'.2[i]? = some (p'.2[i]'(by omega)) := List.getElem?_eq_getElem (by omega)
      generalize p'.2[i]'(by omega) = k at hk
      have hnc : eff.contains i = false := by
        cases hq : eff.contains i with
        | false => rfl
        | true => exact absurd (List.contains_iff_mem.1 hq) hie
      rw [ho, hk, hnc] at hb'
      simp only [Bool.false_or, Bool.and_eq_true, decide_eq_true_eq, Bool.or_eq_true, beq_iff_eq] at hb'
      obtain ⟨⟨hku, hkl⟩, hb'⟩ := hb'
      have hs := (List.getElem?_eq_some_iff.1 hg).1
      have hgl := h4 p' hp'
      have hat := freeN_at (hF p' hp') i o k (by rw [Array.getElem?_toList]; exact ho) hk
      have hmem : ∀ (s : Nat) g, k.1 ≤ s → s ≤ k.2 → p'.1.gs[s]? = some g → FreeM E ops.toList (p'.1.st S0 g) o := fun s g h1 h2 hg => by
        refine hat g (List.mem_of_getElem? (i := s - k.1) ?_)
        rw [List.getElem?_take, if_pos (by omega), List.getElem?_drop, show k.1 + (s - k.1) = s by omega]
        exact hg
      by_cases hsk : k.1 ≤ s ∧ s ≤ k.2
      · exact (hmem s g hsk.1 hsk.2 hg).at
      · rcases hb' with h0 | ⟨hw, hw2⟩
        · have hk2 : k.1 < p'.1.gs.length := by omega
          have hf0 := (hmem k.1 (p'.1.gs[k.1]'hk2) (Nat.le_refl _) hku (List.getElem?_eq_getElem hk2)).at
          obtain ⟨d, hd, hc⟩ := hf0
          refine ⟨d, hd, ?_⟩
          rcases hc with ⟨c1, c2⟩ | ⟨c1, c2⟩
          · refine .inl ⟨?_, ?_⟩
            · rw [← c1]; exact guard_same (fun t ht => rfl)
            · have := (opA_free h0 c2 g).2
              exact this
          · refine .inr ⟨?_, c2⟩
            rw [← c1]; exact guard_same (fun t ht => rfl)
        · exfalso
          by_cases hsk2 : s < k.1
          · have := List.all_eq_true.1 hw s (List.mem_range.2 hsk2)
            obtain ⟨e, he, hq⟩ := List.any_eq_true.1 this
            simp only [Bool.and_eq_true] at hq
            have h6 := hall e (List.contains_iff_mem.1 hq.1) (waitsB_spec hq.2)
            have hnd := (hD.es _ (List.mem_map_of_mem (f := fun p : DP × List (Nat × Nat) => p.1.es) hp')).2.1
            rw [← List.take_append_drop s p'.1.es, List.nodup_append] at hnd
            exact hnd.2.2 e h6 e he rfl
          · have := List.all_eq_true.1 hw2 s (List.mem_range.2 (by omega))
            simp only [Bool.or_eq_true, decide_eq_true_eq] at this
            rcases this with q | q
            · exact hsk ⟨by omega, q⟩
            · obtain ⟨e, he, hq⟩ := List.any_eq_true.1 q
              split at hq
              · rename_i oe hoe
                exact hno e he oe hoe (waitsB_spec hq)
              · cases hq
    · obtain ⟨p', hp', rfl⟩ := List.mem_map.1 hp
      obtain ⟨o, ho, hx⟩ := effN_at (hE p' hp') s e g g' he hg hg'
      exact ⟨o, by rw [← Array.getElem?_toList]; exact ho, hx.at⟩
    · obtain ⟨p', hp', rfl⟩ := List.mem_map.1 hp
      exact hT p' hp' g hg
    · exact uniq_es (g := fun p : DP => p.es) (by rw [hes]; exact b2) p hp q hq e
  obtain ⟨A, I⟩ := q6.drawn (w' := { w with drawn := w.drawn + 1 }) rfl rfl rfl rfl
  have hnl : ∀ i : Nat, ¬ (Array.replicate ops.size false).getD i false = true := fun i q => by
    simp only [Array.getD_eq_getD_getElem?, Array.getElem?_replicate] at q
    split at q <;> cases q
  have hwp : wpAny E.P .any ops (RegQ E f K X F a.defers) ops.size (Array.replicate ops.size false) a { w with drawn := w.drawn + 1 } :=
    dp_wp q2 q5 hA ops.size (List.range' 0 ops.size) _ S0 [] G ok _ a (by simp) List.pairwise_lt_range' (fun i => by
      rw [List.mem_range'_1]
      simp only [Nat.zero_le, true_and, Nat.zero_add]
      constructor
      · intro hi; exact ⟨hi, by simp [hi]⟩
      · exact fun h => h.1) ⟨by simp, closed_none ops⟩ ⟨rfl, by
        obtain ⟨es, hes'⟩ := hD.ne
        obtain ⟨p, hp, rfl⟩ := List.mem_map.1 hes'
        exact ⟨p.1, List.mem_map_of_mem hp, List.nil_prefix⟩, fun p hp _ => by
        obtain ⟨p', hp', rfl⟩ := List.mem_map.1 hp
        exact ⟨h5 p' hp', fun i o d _ hl => absurd hl (hnl i)⟩, fun t _ => rfl, fun e _ => ⟨fun hl => absurd hl (hnl e), fun q => by cases q⟩⟩ I (by have := q7.adv A S0.h; exact this) rfl ops.size (Nat.le_refl _)
  have hcode : (Code.region id ops true).wp E.P (RegQ E f K X F a.defers) a w := wp_region_any hm hwp
  obtain ⟨e2, a2, w2, hq, harr⟩ := hcode b K cs
  exact reg_end q2 q3 q5 ⟨e2, a2, w2, hq, harr⟩
end
end Go.Proofs.YthahgmncnbeddaaGreatDoorA
/- min and max of whole numbers. -/
set_option linter.unusedVariables false
set_option linter.unusedSimpArgs false
namespace Go.Proofs.YthahgmncnbeddaaGreatDoorA
open Go Go.RowKit
@[go_sem] theorem blt_min (E : Env) (S : St) (ts : Array TypeId) (x : AV) (l : List AV) : bltA E S .min ts (x :: l) = .of S.h (mmA true x l) := rfl
@[go_sem] theorem blt_max (E : Env) (S : St) (ts : Array TypeId) (x : AV) (l : List AV) : bltA E S .max ts (x :: l) = .of S.h (mmA false x l) := rfl
@[go_sem] theorem mm_nil (lo : Bool) (k : IntKind) (x : Int) : mmA lo (.i k x) [] = some (.i k x) := rfl
@[go_sem] theorem mm_min (k k' : IntKind) (x y : Int) (r : List AV) : mmA true (.i k x) (.i k' y :: r) = mmA true (.i k (min x y)) r := by
  simp only [mmA]; congr 2; split <;> omega
@[go_sem] theorem mm_max (k k' : IntKind) (x y : Int) (r : List AV) : mmA false (.i k x) (.i k' y :: r) = mmA false (.i k (max x y)) r := by
  simp only [mmA]; congr 2; split <;> omega
@[go_sem] theorem cast_2 : ((2 : Nat) : Int) = 2 := rfl
@[go_sem] theorem cast_3 : ((3 : Nat) : Int) = 3 := rfl
@[go_sem] theorem cast_4 : ((4 : Nat) : Int) = 4 := rfl
@[go_sem] theorem cast_5 : ((5 : Nat) : Int) = 5 := rfl
@[go_sem] theorem cast_6 : ((6 : Nat) : Int) = 6 := rfl
@[go_sem] theorem cast_7 : ((7 : Nat) : Int) = 7 := rfl
@[go_sem] theorem cast_8 : ((8 : Nat) : Int) = 8 := rfl
@[go_sem] theorem cast_12 : ((12 : Nat) : Int) = 12 := rfl
@[go_sem] theorem cast_13 : ((13 : Nat) : Int) = 13 := rfl
attribute [go_sem] beq_self_eq_true
end Go.Proofs.YthahgmncnbeddaaGreatDoorA
