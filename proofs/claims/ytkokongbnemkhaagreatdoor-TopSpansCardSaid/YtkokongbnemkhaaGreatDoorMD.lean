/- Runs that are reckoned out by the kernel. -/
import Derived.Test.YtkokongbnemkhaaGreatDoorMC
import Derived.Recover
set_option linter.unusedVariables false
set_option linter.unusedSimpArgs false
namespace Go.Proofs.YtkokongbnemkhaaGreatDoorA
open Go Go.RowKit
abbrev Rc := List ResultVar → Tk → Option (Out × Hp)
noncomputable def endN (E : Env) (rl : List ResultVar) (S : St) : Option (Out × Hp) := match resA E S rl with | some r => some (.ret r, S.h) | none => none
noncomputable def condN (rec : Rc) (rl : List ResultVar) (x y : Code) (K : List Item) (S : St) (v : AV) : Option (Out × Hp) := match v with
  | .b t => (match t with | true => rec rl (.code (.code x :: K) S) | false => rec rl (.code (.code y :: K) S))
  | _ => none
noncomputable def exitN (rec : Rc) (rl : List ResultVar) (S : St) (k : Option (List Item)) : Option (Out × Hp) := match k with | some K' => rec rl (.code K' S) | none => none
noncomputable def doneN (rec : Rc) (rl : List ResultVar) (K : List Item) (S : St) : Option (Out × Hp) := match S with | ⟨t, N, h⟩ => (match h with | ⟨c, m⟩ => rec rl (.code K ⟨t, N, ⟨c, m⟩⟩))
noncomputable def drawN (E : Env) (rec : Rc) (rl : List ResultVar) (ops : Array Oper) (K : List Item) (S : St) : Option (Out × Hp) := match orderB ops with
  | true => (match runE E ops.toList ops.toList S with | .done S' => rec rl (.code K S') | _ => none)
  | false => none
noncomputable def backN (E : Env) (rec : Rc) (rl : List ResultVar) (all : List Oper) (K : List Item) (d : Option Nat) (os : List Oper) (S : St) (r : Option (Out × Hp)) : Option (Out × Hp) := match r with
  | some p => (match p with
    | (o, h') => (match o with
      | .ret r => rec rl (.reg all K (runE E all os (St.put { S with h := h' } d r)))
      | .pan x => some (.pan x, h')))
  | none => none
noncomputable def enterN (E : Env) (rec : Rc) (g : FuncId) (args : List AV) (h : Hp) : Option (Out × Hp) := match E.P.funcs[g]? with
  | some fn => (match fn.body with
    | some c => (match Nat.ble args.length fn.ntmps with
      | true => rec fn.results.toList (.code [.code c] ⟨envOf 0 args, fn.ntmps, h⟩)
      | false => none)
    | none => none)
  | none => none
noncomputable def callN (E : Env) (X : XT) (rec : Rc) (g : FuncId) (args : List AV) (h : Hp) : Option (Out × Hp) := match X g args h with
  | some p => some p
  | none => enterN E rec g args h
noncomputable def regN (E : Env) (X : XT) (rec : Rc) (rl : List ResultVar) (all : List Oper) (K : List Item) (r : RR) : Option (Out × Hp) := match r with
  | .done S => doneN rec rl K S
  | .call g args d os S => backN E rec rl all K d os S (callN E X rec g args S.h)
  | .pan x S => some (.pan x, S.h)
  | .bad => none
noncomputable def cN (E : Env) (X : XT) (rec : Rc) (rl : List ResultVar) (c : Code) (K : List Item) (S : St) : Option (Out × Hp) := match c with
  | .seq x y => rec rl (.code (.code x :: .code y :: K) S)
  | .skip => rec rl (.code K S)
  | .label _ => rec rl (.code K S)
  | .block id c => rec rl (.code (.code c :: .inBlock id :: K) S)
  | .loop c => rec rl (.code (.code c :: .inLoop c :: K) S)
  | .exit id => exitN rec rl S (exitTo id K)
  | .cond c x y => condN rec rl x y K S (evE E S.t c)
  | .ret => endN E rl S
  | .region _ ops b => (match b with
    | true => drawN E rec rl ops K S
    | false => rec rl (.reg ops.toList K (runE E ops.toList ops.toList S)))
  | _ => none
noncomputable def itN (E : Env) (X : XT) (rec : Rc) (rl : List ResultVar) (it : Item) (K : List Item) (S : St) : Option (Out × Hp) := match it with
  | .code c => cN E X rec rl c K S
  | .inLoop c => rec rl (.code (.code c :: .inLoop c :: K) S)
  | .inBlock _ => rec rl (.code K S)
  | _ => none
noncomputable def stepN (E : Env) (X : XT) (rec : Rc) (rl : List ResultVar) (tk : Tk) : Option (Out × Hp) := match tk with
  | .code K S => (match K with | [] => endN E rl S | it :: K => itN E X rec rl it K S)
  | .reg all K r => regN E X rec rl all K r
noncomputable def evN (E : Env) (X : XT) (n : Nat) : Rc := Nat.rec (fun _ _ => none) (fun _ rec rl tk => stepN E X rec rl tk) n
theorem evN_eq (E : Env) (X : XT) : ∀ n, evN E X n = evK E X n
  | 0 => funext fun _ => funext fun _ => rfl
  | n + 1 => by
    funext rl tk
    show stepN E X (evN E X n) rl tk = _
    rw [evN_eq E X n]
    have hrun : ∀ (all ops : List Oper) (S : St), runE E all ops S = runA E all ops S := runE_eq E
    cases tk with
    | code K S =>
      cases K with
      | nil => simp only [stepN, endN, evK]; cases resA E S rl <;> rfl
      | cons it K =>
        cases it with
        | code c =>
          cases c with
          | cond c x y =>
            simp only [stepN, itN, cN, condN, evE_eq, evK]
            cases ev E S c with
            | b t => cases t <;> rfl
            | _ => rfl
          | exit id => simp only [stepN, itN, cN, exitN, evK]; cases exitTo id K <;> rfl
          | ret => simp only [stepN, itN, cN, endN, evK]; cases resA E S rl <;> rfl
          | region id ops b =>
            cases b with
            | false => simp only [stepN, itN, cN, hrun, evK]
            | true =>
              simp only [stepN, itN, cN, drawN, hrun, evK]
              cases orderB ops with
              | false => rfl
              | true => cases runA E ops.toList ops.toList S <;> rfl
          | _ => rfl
        | _ => rfl
    | reg all K r =>
      cases r with
      | done S => obtain ⟨t, N, ⟨c, m⟩⟩ := S; rfl
      | call g args d os S =>
        simp only [stepN, regN, callN, evK]
        cases X g args S.h with
        | some p =>
          obtain ⟨o, h'⟩ := p
          cases o with
          | ret r => simp only [backN, hrun]
          | pan x => rfl
        | none =>
          simp only [enterN]
          cases E.P.funcs[g]? with
          | none => rfl
          | some fn =>
            cases hb : fn.body with
            | none => simp only [hb]; rfl
            | some c =>
              simp only [hb]
              cases Nat.ble args.length fn.ntmps with
              | false => rfl
              | true =>
                cases evK E X n fn.results.toList (.code [.code c] ⟨envOf 0 args, fn.ntmps, S.h⟩) with
                | none => rfl
                | some p =>
                  obtain ⟨o, h'⟩ := p
                  cases o with
                  | ret r => simp only [backN, hrun]
                  | pan x => rfl
      | pan x S => rfl
      | bad => rfl
noncomputable def evM (E : Env) (X : XT) (n : Nat) (f : FuncId) (args : List AV) (h : Hp) : Option (Out × Hp) := enterN E (evN E X n) f args h
theorem evM_eq (E : Env) (X : XT) (n : Nat) (f : FuncId) (args : List AV) (h : Hp) : evM E X n f args h = evF E X n f args h := by
  simp only [evM, enterN, evF, evN_eq]
  cases E.P.funcs[f]? with
  | none => rfl
  | some fn =>
    cases hb : fn.body with
    | none => simp only [hb]
    | some c => simp only [hb]; cases Nat.ble args.length fn.ntmps <;> rfl
end Go.Proofs.YtkokongbnemkhaaGreatDoorA
/- Small laws for walks. -/
set_option linter.unusedVariables false
set_option linter.unusedSimpArgs false
namespace Go.Proofs.YtkokongbnemkhaaGreatDoorA
open Go Go.RowKit
attribute [go_sem] w64
@[go_sem] theorem callA_ptr (E : Env) (h : Hp) (f : FuncId) (i r c : Nat) (args : List AV) : callA E h f (.ptr i r c :: args) = .call f (.ptr i r c :: args) := by
  unfold callA
  simp only [List.all_cons, List.map_cons, noid, fz, Bool.false_and, Bool.false_eq_true, if_false]
theorem look_upd : ∀ {c : List (Nat × Ent)} {id : Nat} {e0 : Ent} (e : Ent), look c id = some e0 → look (upd c id e) id = some e.plain
  | [], id, e0, e, h => by cases h
  | (i, x) :: r, id, e0, e, h => by
    simp only [upd]
    by_cases hi : i = id
    · rw [if_pos hi]; simp only [look, if_pos hi]
      cases x <;> cases e <;> rfl
    · rw [if_neg hi]
      simp only [look, if_neg hi] at h ⊢
      exact look_upd e h
theorem look_updR {c : List (Nat × Ent)} {id : Nat} {e0 : Ent} (k : Nat) (l : List (List AV)) (h : look c id = some e0) : look (upd c id (.rows k l)) id = some (.rows k l) := look_upd _ h
theorem look_upd_ne : ∀ {c : List (Nat × Ent)} {id j : Nat} {e : Ent}, j ≠ id → look (upd c id e) j = look c j
  | [], id, j, e, h => rfl
  | (i, x) :: r, id, j, e, h => by
    simp only [upd]
    by_cases hi : i = id
    · rw [if_pos hi]; simp only [look, if_neg (fun q : i = j => h (q.symm.trans hi))]
    · rw [if_neg hi]
      simp only [look, look_upd_ne h]
theorem tyOf_upd : ∀ (c : List (Nat × Ent)) (id j k : Nat) (l : List (List AV)), tyOf (upd c id (.rows k l)) j = tyOf c j
  | [], id, j, k, l => rfl
  | (i, x) :: r, id, j, k, l => by
    simp only [upd]
    by_cases hi : i = id
    · rw [if_pos hi]
      simp only [tyOf]
      by_cases hj : i = j
      · rw [if_pos hj, if_pos hj]; cases x <;> rfl
      · rw [if_neg hj, if_neg hj]
    · rw [if_neg hi]
      simp only [tyOf, tyOf_upd r id j k l]
theorem upd_upd : ∀ (c : List (Nat × Ent)) (id k : Nat) (l : List (List AV)) (e' : Ent), upd (upd c id (.rows k l)) id e' = upd c id e'
  | [], id, k, l, e' => rfl
  | (i, x) :: r, id, k, l, e' => by
    by_cases hi : i = id
    · simp only [upd, if_pos hi]
      cases x <;> cases e' <;> rfl
    · simp only [upd, if_neg hi, upd_upd r id k l e']
theorem upd_same : ∀ {c : List (Nat × Ent)} {id : Nat} {e : Ent}, look c id = some e → upd c id e = c
  | [], id, e, h => by cases h
  | (i, x) :: r, id, e, h => by
    by_cases hi : i = id
    · simp only [look, if_pos hi] at h; cases h; simp only [upd, if_pos hi]; cases x <;> rfl
    · simp only [look, if_neg hi] at h; simp only [upd, if_neg hi, upd_same h]
section
variable {E : Env} {f : FuncId} {all os : List Oper} {K : List Item} {S : St} {X : Ex → St → Prop} {g : FuncId} {args : List AV} {d : Option Nat}
/-- A call that comes back with r, the own blocks being h'. -/
theorem wr_ret {r : AV} {h' : Hp} (hm : MeetsH E g args S.h (Is (.ret r) h')) (h : WR E f all K X (runA E all os (St.put { S with h := h' } d r))) : WR E f all K X (.call g args d os S) :=
  .call _ _ _ _ _ _ hm (fun r' h'' q => by obtain ⟨q1, rfl⟩ := q; cases q1; exact h) (fun r' h'' q => by obtain ⟨q1, _⟩ := q; cases q1)
theorem wr_isCall (h : WR E f all K X (.call g args d os S)) : WR E f all K X (.call g args d os S) := h
theorem t_isDraw {id : Nat} {ops : Array Oper} (h : T E f (.code (.region id ops true) :: K) S X) : T E f (.code (.region id ops true) :: K) S X := h
theorem t_isExit {id : Nat} (h : T E f (.code (.exit id) :: K) S X) : T E f (.code (.exit id) :: K) S X := h
/-- A call that panics. -/
theorem wr_pan {x : AV} {h' : Hp} (hm : MeetsH E g args S.h (Is (.pan x) h')) (h : X (.pan x) { S with h := h' }) : WR E f all K X (.call g args d os S) :=
  .call _ _ _ _ _ _ hm (fun r' h'' q => by obtain ⟨q1, _⟩ := q; cases q1) (fun r' h'' q => by obtain ⟨q1, rfl⟩ := q; cases q1; exact h)
theorem t_bl {id : Nat} {c : Code} (h : T E f (.code (.block id (.loop c)) :: K) S X) : T E f (.code (.block id (.loop c)) :: K) S X := h
/-- A loop with its way out: what holds at each head, a measure, what holds behind it. -/
theorem t_while {id N : Nat} {c : Code} {t0 : List (Nat × AV)} {h0 : Hp} {α : Type} (I : α → List (Nat × AV) → Hp → Prop) (m : α → Nat) (J : List (Nat × AV) → Hp → Prop) (x0 : α) (hI : I x0 t0 h0)
    (round : ∀ x t h, I x t h → (∀ y t' h', I y t' h' → m y < m x → T E f (.inLoop c :: .inBlock id :: K) ⟨t', N, h'⟩ X) → (∀ t' h', J t' h' → T E f K ⟨t', N, h'⟩ X) → T E f (.code c :: .inLoop c :: .inBlock id :: K) ⟨t, N, h⟩ X)
    (rest : ∀ t h, J t h → T E f K ⟨t, N, h⟩ X) : T E f (.code (.block id (.loop c)) :: K) ⟨t0, N, h0⟩ X :=
  t_block (t_inv I m x0 hI fun x t h hx hr => round x t h hx hr rest)
theorem MeetsH.to {P : Program} {gl gl' : Nat → Option (List AV)} {M M' : FuncId → List AV → Option AV} {h : Hp} {R : Out → Hp → Prop} (hM : ModOk ⟨P, gl, M⟩) (hg : ∀ g row, gl g = some row → gl' g = some row) (hm : MeetsH ⟨P, gl, M⟩ f args h R) : MeetsH ⟨P, gl', M'⟩ f args h R :=
  ⟨hm.1, fun F G ok w vals _ q I hl hr => hm.2 F G ok w vals hM (fun g row e => q g row (hg g row e)) I hl hr⟩
end
end Go.Proofs.YtkokongbnemkhaaGreatDoorA
/- Functions that defer one closure, and the closure. -/
set_option linter.unusedVariables false
set_option linter.unusedSimpArgs false
namespace Go.Proofs.YtkokongbnemkhaaGreatDoorA
open Go Go.RowKit
section
variable {E : Env} {f : FuncId} {fn : Func} {rl : List ResultVar} {K : List Item} {S : St} {X : Ex → St → Prop} {Q : Out → Hp → Prop}
/-- A region without calls of its own to be told: it runs to its end. -/
theorem run_wp {ops : Array Oper} {F : Fr} {ds : List Deferred} (hM : ModOk E) (hg0 : Globs E.gl F.ok0 F.w0) {S1 : St} : ∀ (n : Nat) (rest : List Oper) (i : Nat) (S : St) (G : Gh) (ok : Okc) (w : World) (a : Act), rest.length = n → ops.toList.drop i = rest → runA E ops.toList rest S = .done S1 → Inv F G ok w S.h → RelT G ok w S a → a.defers = ds →
    wpOps E.P ops (fun e a w => e = .normal ∧ a.defers = ds ∧ ∃ G ok, Inv F G ok w S1.h ∧ RelT G ok w S1 a) (List.range' i rest.length) a w
  | n, [], i, S, G, ok, w, a, hn, hd, h, I, R, ha => by cases h; exact ⟨rfl, ha, G, ok, I, R⟩
  | 0, o :: os, i, S, G, ok, w, a, hn, hd, h, I, R, ha => by simp at hn
  | n + 1, o :: os, i, S, G, ok, w, a, hn, hd, h, I, R, ha => by
    have ho : ops[i]? = some o := by
      have : (ops.toList.drop i)[0]? = some o := by rw [hd]; rfl
      rw [List.getElem?_drop] at this
      simpa using this
    have hd' : ops.toList.drop (i + 1) = os := by
      have : (ops.toList.drop i).drop 1 = os := by rw [hd]; rfl
      rwa [List.drop_drop] at this
    have hlen : os.length = n := by simpa using hn
    rw [List.length_cons, List.range'_succ]
    simp only [wpOps, ho]
    unfold runA at h
    split at h
    · rename_i hgd
      rw [guard_ok R hgd, if_pos rfl]
      refine .inl ?_
      unfold stepA at h
      split at h
      · rename_i v h' hop
        refine oper_wp hM I R (glob_now hg0 I) hop (fun x w' G' ok' A I' rx => ?_)
        exact run_wp hM hg0 n os (i + 1) _ G' ok' w' _ hlen hd' h (by rw [put_h]; exact I') ((R.adv A h').put o.dst rx) (by rw [put_defers]; exact ha)
      · cases h
      · cases h
      · cases h
    · rename_i hgd
      rw [guard_ok R hgd, if_neg (by simp)]
      exact run_wp hM hg0 n os (i + 1) _ G ok w _ hlen hd' h (by rw [put_h]; exact I) (R.put o.dst (.tup _ #[] [] rfl (fun j v a h => by simp at h))) (by rw [put_defers]; exact ha)
    · cases h
/-- The mode in which a deferred closure is called. -/
def Mode (ok : Okc) (w : World) (G : Gh) (um : FrameMode) : Option AV → Prop
  | none => um = .returning
  | some x => ∃ v, um = .panicking [{ v, recovered := false }] ∧ Rep ok w G v x
/-- What a deferred closure does: it comes back, and a panic is recovered. -/
def MeetsD (E : Env) (g : FuncId) (args : List AV) (u : Option AV) (h : Hp) (R : Hp → Prop) : Prop :=
  HasBody E.P g ∧ ∀ (F : Fr) (G : Gh) (ok : Okc) (w : World) (vals : Array Value) (um : FrameMode), ModOk E → Globs E.gl ok w → Inv F G ok w h → vals.size = args.length → (∀ (j : Nat) v a, vals[j]? = some v → args[j]? = some a → Rep ok w G v a) → Mode ok w G um u →
    CallsD E.P g vals um w fun e u' w' => ∃ vr, e = .returned vr ∧ settle u' = .returning ∧ ∃ G' ok' h', R h' ∧ Adv G ok w G' ok' w' ∧ Inv F G' ok' w' h'
def recOp (d1 d2 : Nat) (t1 t2 : TypeId) (p1 p2 : String) (a1 a2 : Array Edge) : Array Oper := #[⟨some d1, .call ⟨.builtin .recover, #[], #[]⟩, t1, p1, a1, none⟩, ⟨some d2, .assign (.tmp d1), t2, p2, a2, none⟩]
def recS (args : List AV) (n d1 d2 : Nat) (h : Hp) (x : AV) : St := ((St.mk (envOf 0 args) n h).put (some d1) x).put (some d2) (get ((St.mk (envOf 0 args) n h).put (some d1) x).t d1)
theorem meetsD {args : List AV} {h : Hp} {R : Hp → Prop} {rest : Code} {u : Option AV} {id d1 d2 : Nat} {t1 t2 : TypeId} {p1 p2 : String} {a1 a2 : Array Edge} (n : Nat) (hf : E.P.funcs[f]? = some fn) (hb : fn.body = some (.seq (.region id (recOp d1 d2 t1 t2 p1 p2 a1 a2) false) rest)) (hnm : fn.name ≠ "runtime.NumGoroutine") (hrl : fn.results.toList = []) (hN : fn.ntmps = n) (hn : args.length ≤ n)
    (hT : T E f [.code rest] (recS args n d1 d2 h (u.getD .ni)) fun x S => x = .ret ∧ R S.h) : MeetsD E f args u h R := by
  subst hN
  refine ⟨hasBody hf hb hnm, fun F G ok w vals um hM hg I hl hr hmode c₀ cs hu => ?_⟩
  let b : Frame := { (default : Frame) with fn := f, kind := .deferred }
  let F1 : Fr := ⟨fun b => ∃ id e p, (id, e) ∈ h.c ∧ G id = some p ∧ p.b = b, w, ok, G⟩
  have henter : Frame.enter E.P f vals .deferred = b.at { tmps := vals ++ Array.replicate (fn.ntmps - vals.size) undef, defers := [] } [.code (.seq (.region id (recOp d1 d2 t1 t2 p1 p2 a1 a2) false) rest)] := by
    simp [Frame.enter, Frame.at, hf, hb, b]
  have R0 := enter_rel (h := h) hl hn hr
  have key : ∀ (a : Act), RelT G ok w ⟨envOf 0 args, fn.ntmps, h⟩ a → a.defers = [] → (Code.region id (recOp d1 d2 t1 t2 p1 p2 a1 a2) false).wpS E.P (fun e a' cs' w' => e = .normal ∧ w' = w ∧ a'.defers = [] ∧ RelT G ok w (recS args fn.ntmps d1 d2 h (u.getD .ni)) a' ∧ ∃ u', cs' = { c₀ with mode := u' } :: cs ∧ settle u' = .returning) a (c₀ :: cs) w := by
    intro a RR ha
    refine wpS_region ?_
    have e1 : ∀ a : Act, (execOp a.eval ⟨some d1, .call ⟨.builtin .recover, #[], #[]⟩, t1, p1, a1, none⟩).run E.P w = .ok .recover w := fun a => rfl
    have e2 : ∀ a : Act, (execOp a.eval ⟨some d2, .assign (.tmp d1), t2, p2, a2, none⟩).run E.P w = .ok (.value (a.eval (.tmp d1))) w := fun a => rfl
    have fin : ∀ (v : Value) (cs' : List Frame), Rep ok w G v (u.getD .ni) → (∃ u', cs' = { c₀ with mode := u' } :: cs ∧ settle u' = .returning) →
        wpOpsS E.P (recOp d1 d2 t1 t2 p1 p2 a1 a2) (fun e a' cs' w' => e = .normal ∧ w' = w ∧ a'.defers = [] ∧ RelT G ok w (recS args fn.ntmps d1 d2 h (u.getD .ni)) a' ∧ ∃ u', cs' = { c₀ with mode := u' } :: cs ∧ settle u' = .returning) [1] (a.put (some d1) v) cs' w := by
      intro v cs' rv hcs
      have R1 := RR.put (some d1) rv
      unfold wpOpsS
      simp only [recOp, List.getElem?_toArray, List.getElem?_cons_succ, List.getElem?_cons_zero, Region.wanted, if_true, e2, Oper.upon_value]
      unfold wpOpsS
      refine ⟨rfl, rfl, ?_, ?_, hcs⟩
      · rw [put_defers, put_defers]; exact ha
      · exact R1.put (some d2) (R1.r d1)
    show wpOpsS E.P (recOp d1 d2 t1 t2 p1 p2 a1 a2) _ [0, 1] a (c₀ :: cs) w
    unfold wpOpsS
    simp only [recOp, List.getElem?_toArray, List.getElem?_cons_zero, Region.wanted, if_true, e1]
    cases u with
    | none =>
      have hm : c₀.mode = .returning := hu.trans hmode
      have hrec : recoverD (c₀ :: cs) = none := by simp [recoverD, hm]
      simp only [hrec]
      exact fin _ _ (.ni _) ⟨.returning, by rw [← hm], rfl⟩
    | some x =>
      obtain ⟨v, rfl, rv⟩ := hmode
      have hrec : recoverD (c₀ :: cs) = some (v, { c₀ with mode := .panicking [{ v, recovered := true }] } :: cs) := by simp [recoverD, hu]
      simp only [hrec]
      exact fin _ _ rv ⟨_, rfl, rfl⟩
  obtain ⟨e, a', cs', w', ⟨rfl, rfl, ha', R', u', rfl, hset⟩, harr⟩ := key _ R0 rfl b [.code rest] rfl rfl
  obtain ⟨w2, fr, hst, h1, h2, h3, S2, G2, ok2, I2, R2, hfin⟩ := hT F1 G ok w' a' b ({ c₀ with mode := u' } :: cs) hM rfl hg (by
    have : (recS args fn.ntmps d1 d2 h (u.getD .ni)).h = h := by simp only [recS, put_h]
    rw [this]; exact I.begin) R'
  rcases hfin with ⟨hm, -, hR⟩ | ⟨v, x, _, _, q, _⟩
  · obtain ⟨v, hv, rv⟩ := resA_ok (E := E) (fn := fn) (r := .tup []) I2 R2 (by rw [hrl]; rfl)
    refine ⟨.returned v, u', w2, fr, ⟨v, rfl, hset, G2, ok2, S2.h, hR, I2.adv, I.comp I2⟩, ?_, h2, hm, h3.trans ha', fn, by rw [h1]; exact hf, hv⟩
    rw [henter]
    exact Steps.trans (.head step_seq harr) hst
  · cases q
/-- A function that defers one closure. -/
theorem meetsH_defer {args : List AV} {h : Hp} {R : Out → Hp → Prop} {rest : Code} {id0 id1 d9 : Nat} {ops0 : Array Oper} {g : FuncId} {as bs : Array Operand} {t1 t2 : TypeId} {p1 p2 : String} {a1 a2 : Array Edge} {S1 : St} (n : Nat) (rl : List ResultVar) (hf : E.P.funcs[f]? = some fn)
    (hb : fn.body = some (.seq (.region id0 ops0 false) (.seq (.region id1 #[⟨some d9, .makeFunc (.func g) as bs, t1, p1, a1, none⟩, ⟨none, .defer ⟨.value (.tmp d9), #[], #[]⟩, t2, p2, a2, none⟩] false) rest))) (hnm : fn.name ≠ "runtime.NumGoroutine") (hrl : fn.results.toList = rl) (hN : fn.ntmps = n) (hn : args.length ≤ n) (hd : d9 < n) (hN1 : S1.N = n)
    (hrun : runA E ops0.toList ops0.toList ⟨envOf 0 args, n, h⟩ = .done S1)
    (hT : T E f [.code rest] (S1.put (some d9) (.fn g (as.toList.map (ev E S1)) (bs.toList.map (ev E S1)))) fun x S =>
      MeetsD E g (as.toList.map (ev E S1) ++ bs.toList.map (ev E S1)) (match x with | .ret => none | .pan x => some x) S.h fun h' => TR { S with h := h' } R (resA E { S with h := h' } rl)) : MeetsH E f args h R := by
  subst hN hrl
  refine ⟨hasBody hf hb hnm, fun F G ok w vals hM hg I hl hr cs => ?_⟩
  let b : Frame := { (default : Frame) with fn := f, kind := .normal }
  let F1 : Fr := ⟨fun b => ∃ id e p, (id, e) ∈ h.c ∧ G id = some p ∧ p.b = b, w, ok, G⟩
  have henter : Frame.enter E.P f vals .normal = b.at { tmps := vals ++ Array.replicate (fn.ntmps - vals.size) undef, defers := [] } [.code (.seq (.region id0 ops0 false) (.seq (.region id1 #[⟨some d9, .makeFunc (.func g) as bs, t1, p1, a1, none⟩, ⟨none, .defer ⟨.value (.tmp d9), #[], #[]⟩, t2, p2, a2, none⟩] false) rest))] := by
    simp [Frame.enter, Frame.at, hf, hb, b]
  have hw0 := run_wp (ops := ops0) (F := F1) (ds := []) hM hg ops0.toList.length ops0.toList 0 ⟨envOf 0 args, fn.ntmps, h⟩ G ok w _ rfl rfl hrun I.begin (enter_rel (h := h) hl hn hr) rfl
  have hr0 : List.range' 0 ops0.toList.length = List.range ops0.size := by rw [List.range_eq_range', Array.length_toList]
  rw [hr0] at hw0
  obtain ⟨e, a', w1, ⟨rfl, hd1, G1, ok1, I1, R1⟩, harr1⟩ := wp_ops _ _ w hw0 b [.code (.seq (.region id1 #[⟨some d9, .makeFunc (.func g) as bs, t1, p1, a1, none⟩, ⟨none, .defer ⟨.value (.tmp d9), #[], #[]⟩, t2, p2, a2, none⟩] false) rest)] cs
  generalize hcl : AV.fn g (as.toList.map (ev E S1)) (bs.toList.map (ev E S1)) = cl at hT
  have hw1 : wpOps E.P #[⟨some d9, .makeFunc (.func g) as bs, t1, p1, a1, none⟩, ⟨none, .defer ⟨.value (.tmp d9), #[], #[]⟩, t2, p2, a2, none⟩] (fun e a w => e = .normal ∧ ∃ G ok vs us, a.defers = [⟨.fn (.func g) us, vs⟩] ∧ Inv F1 G ok w S1.h ∧ RelT G ok w (S1.put (some d9) cl) a ∧
      vs.size = as.size ∧ us.size = bs.size ∧ (∀ (j : Nat) v b, vs[j]? = some v → (as.toList.map (ev E S1))[j]? = some b → Rep ok w G v b) ∧ ∀ (j : Nat) v b, us[j]? = some v → (bs.toList.map (ev E S1))[j]? = some b → Rep ok w G v b) [0, 1] a' w1 := by
    unfold wpOps
    simp only [List.getElem?_toArray, List.getElem?_cons_zero, Region.wanted, if_true]
    refine .inl (oper_wp (S := S1) (v := cl) (h' := S1.h) hM I1 R1 (glob_now (F := F1) hg I1) (by rw [← hcl]; rfl) (fun x w2 G2 ok2 A I2 rx => ?_))
    unfold wpOps
    simp only [List.getElem?_toArray, List.getElem?_cons_succ, List.getElem?_cons_zero, Region.wanted, if_true]
    have R2 : RelT G2 ok2 w2 (S1.put (some d9) cl) (a'.put (some d9) x) := (R1.adv A S1.h).put (some d9) rx
    have hv : ev E (S1.put (some d9) cl) (.tmp d9) = .fn g (as.toList.map (ev E S1)) (bs.toList.map (ev E S1)) := by
      rw [hcl]
      simp only [ev, St.put]
      rw [if_pos (by rw [hN1]; exact hd)]
      simp only [get, if_true]
    obtain ⟨vs, us, hx, l1, l2, q1, q2⟩ := callee_rep R2 (glob_now (F := F1) hg I2) hv
    refine .inl ?_
    unfold Oper.wp
    have hrun2 : (execOp (a'.put (some d9) x).eval ⟨none, .defer ⟨.value (.tmp d9), #[], #[]⟩, t2, p2, a2, none⟩).run E.P w2 = .ok (.defer ⟨.fn (.func g) us, vs⟩) w2 := by
      unfold execOp
      simp only [resolve, hx, Deferred.ofValue, pure_bind, Sem.run_bind, Sem.run_pure, Result.andThen_ok, Array.map_empty, Array.append_empty]
    rw [hrun2, Oper.upon_defer]
    unfold wpOps
    refine ⟨rfl, G2, ok2, vs, us, ?_, I2, ⟨R2.size, R2.r⟩, by simpa using l1, by simpa using l2, q1, q2⟩
    show _ :: (a'.put (some d9) x).defers = _
    rw [put_defers, hd1]
  obtain ⟨e, a3, w2, ⟨rfl, G2, ok2, vs, us, hd2, I2, R2, l1, l2, q1, q2⟩, harr2⟩ := wp_ops _ _ w1 hw1 b [.code rest] cs
  have I2' : Inv F1 G2 ok2 w2 (S1.put (some d9) cl).h := by rw [put_h]; exact I2
  obtain ⟨w3, fr, hst, h1, h2, h3, S3, G3, ok3, I3, R3, hfin⟩ := hT _ G2 ok2 w2 a3 b cs hM rfl (glob_now (F := F1) hg I2') I2'.begin R2
  have hg3 : Globs E.gl ok3 w3 := glob_now (F := F1) hg (I2'.comp I3)
  have fin : ∀ (u : Option AV) (um : FrameMode), um ≠ .run → fr.mode = um → Mode ok3 w3 G3 um u → MeetsD E g (as.toList.map (ev E S1) ++ bs.toList.map (ev E S1)) u S3.h (fun h' => TR { S3 with h := h' } R (resA E { S3 with h := h' } fn.results.toList)) →
      ∃ e w' fr', PostA F G ok w R e w' ∧ Comes E.P (lone (Frame.enter E.P f vals .normal) cs w) (lone fr' cs w') e ∧ fr'.fn = f ∧ fr'.leaving E.P w' e := by
    intro u um hrun' hmode hm hD
    obtain ⟨fg, hfg, hbg, hng⟩ := hD.1
    have hinv : (invoke (.fn (.func g) us) vs).run E.P w3 = .ok (.enter g (vs ++ us)) w3 := by
      have hn' : fg.body.isNone = false := by cases hq : fg.body <;> simp_all
      have hng' : (fg.name == "runtime.NumGoroutine") = false := by simpa using hng
      simp only [invoke, callFunc, Sem.run_bind, run_program, Result.andThen_ok, hfg, hng', hn', Bool.false_eq_true, if_false, Sem.run_pure]
    have hL : Leaves E.P fn fr.tmps (PostA F G ok w R) [⟨.fn (.func g) us, vs⟩] um w3 := by
      refine ⟨hrun', .func g, us, g, vs ++ us, rfl, hinv, ?_⟩
      refine (hD.2 _ G3 ok3 w3 (vs ++ us) um hM hg3 I3 (by simp [l1, l2]) (fun j v c e e' => ?_) hm).mono ?_
      · by_cases hj : j < as.size
        · rw [Array.getElem?_append_left (by omega)] at e
          rw [List.getElem?_append_left (by simpa using hj)] at e'
          exact (q1 j v c e e').adv I3.adv
        · rw [Array.getElem?_append_right (by omega), l1] at e
          rw [List.getElem?_append_right (by simpa using hj)] at e'
          simp only [List.length_map, Array.length_toList] at e'
          exact (q2 _ v c e e').adv I3.adv
      · rintro e u' w' ⟨vr, rfl, hset, G4, ok4, h4, hR, A4, I4⟩
        show Leaves E.P fn fr.tmps (PostA F G ok w R) [] (settle u') w'
        rw [hset]
        cases hres : resA E { S3 with h := h4 } fn.results.toList with
        | none => rw [hres] at hR; exact hR.elim
        | some r =>
          rw [hres] at hR
          obtain ⟨v, hv, rv⟩ := resA_ok (S := { S3 with h := h4 }) I4 (R3.adv A4 h4) hres
          exact ⟨v, hv, r, h4, G4, ok4, hR, (I2'.comp I4).adv, rv, I.comp (I2'.comp I4)⟩
    obtain ⟨e, w', fr', hp, hc, hfn', hlv⟩ := leaves_steps [⟨.fn (.func g) us, vs⟩] um w3 fr cs hmode (h3.trans hd2) rfl (by rw [h1]; exact hf) h2 hL
    refine ⟨e, w', fr', hp, ?_, hfn'.trans h1, hlv⟩
    rw [henter]
    exact .of_steps (.head step_seq (.head step_region (Steps.trans harr1 (.head step_seq (.head step_region (Steps.trans harr2 hst)))))) hc
  rcases hfin with ⟨hm, hx⟩ | ⟨v, x, hm, rv, hx⟩
  · exact fin none .returning (by simp) hm rfl hx
  · exact fin (some x) _ (by simp) hm ⟨v, rfl, rv⟩ hx
end
end Go.Proofs.YtkokongbnemkhaaGreatDoorA
/- Evaluation of a function that defers one closure; what the evaluator is handed. -/
set_option linter.unusedVariables false
set_option linter.unusedSimpArgs false
namespace Go.Proofs.YtkokongbnemkhaaGreatDoorA
open Go Go.RowKit
/-- The parts of a function that defers one closure. -/
structure DefP where
  (id0 id1 d9 : Nat)
  ops0 : Array Oper
  g : FuncId
  (as bs : Array Operand)
  (t1 t2 : TypeId)
  (p1 p2 : String)
  (a1 a2 : Array Edge)
  rest : Code
  (rp : Nat)
  (rt : TypeId)
def DefP.body (D : DefP) : Code := .seq (.region D.id0 D.ops0 false) (.seq (.region D.id1 #[⟨some D.d9, .makeFunc (.func D.g) D.as D.bs, D.t1, D.p1, D.a1, none⟩, ⟨none, .defer ⟨.value (.tmp D.d9), #[], #[]⟩, D.t2, D.p2, D.a2, none⟩] false) D.rest)
/-- The parts of a closure that recovers. -/
structure RecP where
  (id d1 d2 : Nat)
  (t1 t2 : TypeId)
  (p1 p2 : String)
  (a1 a2 : Array Edge)
  rest : Code
def RecP.body (D : RecP) : Code := .seq (.region D.id (recOp D.d1 D.d2 D.t1 D.t2 D.p1 D.p2 D.a1 D.a2) false) D.rest
/-- A function that defers a closure, at given arguments, without a panic. -/
noncomputable def evD (E : Env) (X : XT) (n N NC : Nat) (D : DefP) (C : RecP) (args : List AV) (h : Hp) : Option (Out × Hp) :=
  match runE E D.ops0.toList D.ops0.toList ⟨envOf 0 args, N, h⟩ with
  | .done S1 => (match evN E X n [.tmp D.rp] (.code [.code D.rest] (S1.put (some D.d9) (.fn D.g (D.as.toList.map (ev E S1)) (D.bs.toList.map (ev E S1))))) with
    | some (.ret p, h1) => (match evN E X n [] (.code [.code C.rest] (recS (D.as.toList.map (ev E S1) ++ D.bs.toList.map (ev E S1)) NC C.d1 C.d2 h1 .ni)) with
      | some (.ret _, h2) => (match loadA E.P D.rt h2 p with | some r => some (.ret r, h2) | none => none)
      | _ => none)
    | _ => none)
  | _ => none
section
variable {E : Env} {X : XT}
theorem runA_N : ∀ (all ops : List Oper) (S S' : St), runA E all ops S = .done S' → S'.N = S.N
  | all, [], S, S', h => by cases h; rfl
  | all, o :: os, S, S', h => by
    have pn : ∀ (S : St) (d : Option Nat) (v : AV), (S.put d v).N = S.N := fun S d v => by
      cases d with
      | none => rfl
      | some d => simp only [St.put]; split <;> rfl
    unfold runA at h
    split at h
    · unfold stepA at h
      split at h
      · exact (runA_N all os _ S' h).trans (pn ..)
      · cases h
      · cases h
      · cases h
    · exact (runA_N all os _ S' h).trans (pn ..)
    · cases h
theorem evD_ok (hX : XOk E X) (hN : Named E.P) (hO : E.P.follows .mixedOrders = true) {n N NC : Nat} {D : DefP} {C : RecP} {f : FuncId} {fn fc : Func} (hf : E.P.funcs[f]? = some fn) (hb : fn.body = some D.body) (hn : fn.ntmps = N) (hr : fn.results.toList = [.cell D.rp D.rt]) (hd : D.d9 < N)
    (hfc : E.P.funcs[D.g]? = some fc) (hbc : fc.body = some C.body) (hnc : fc.ntmps = NC) (hrc : fc.results.toList = []) (hlc : D.as.size + D.bs.size ≤ NC) {args : List AV} (hl : args.length ≤ N) {h h' : Hp} {o : Out} (e : evD E X n N NC D C args h = some (o, h')) : MeetsH E f args h (Is o h') := by
  unfold evD at e
  rw [runE_eq] at e
  split at e
  · rename_i S1 hrun
    split at e
    · rename_i p h1 he1
      split at e
      · rename_i r0 h2 he2
        split at e
        · rename_i r hload
          cases e
          rw [evN_eq] at he1 he2
          have hT := evK_ok hX hN hO n _ _ _ _ he1 f
          have hC := evK_ok hX hN hO n _ _ _ _ he2 D.g
          refine meetsH_defer (d9 := D.d9) N _ hf hb (hN f fn hf) rfl hn hl hd (runA_N _ _ _ _ hrun) hrun (hT.mono ?_)
          rintro x S hx
          cases x with
          | pan x => obtain ⟨q, _⟩ := hx; cases q
          | ret =>
            simp only [XQ, resA, resL, Option.map_some] at hx
            obtain ⟨q1, q2⟩ := hx
            cases q1
            refine meetsD NC hfc hbc (hN _ fc hfc) hrc hnc (by simpa using hlc) ?_
            rw [q2]
            refine hC.mono ?_
            rintro x S' hx'
            cases x with
            | pan x => obtain ⟨q, _⟩ := hx'; cases q
            | ret =>
              simp only [XQ, resA, resL] at hx'
              obtain ⟨q3, q4⟩ := hx'
              refine ⟨rfl, ?_⟩
              rw [hr, q4]
              simp only [resA, resL, hload]
              exact ⟨rfl, rfl⟩
        · cases e
      · cases e
    · cases e
  · cases e
end
end Go.Proofs.YtkokongbnemkhaaGreatDoorA
