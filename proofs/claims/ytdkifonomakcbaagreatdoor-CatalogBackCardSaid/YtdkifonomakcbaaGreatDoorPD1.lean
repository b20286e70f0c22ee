/- Walks over any tables of variables: the environments, regions that draw. -/
import Derived.Test.YtdkifonomakcbaaGreatDoorPW8
set_option linter.unusedVariables false
set_option linter.unusedSimpArgs false
namespace Go.Proofs.YtdkifonomakcbaaGreatDoorA
open Go Go.RowKit Go.Proofs.YtdkifonomakcbaaGreatDoorFx Go.Proofs
variable {gl : Nat → Option (List AV)}
/-- The program with the tables gl; every call by contract. -/
noncomputable def EG (gl : Nat → Option (List AV)) : Env := ⟨Tryz.prog, gl, fun _ _ => none⟩
@[go_sem] theorem egP (gl : Nat → Option (List AV)) : (EG gl).P = Tryz.prog := rfl
@[go_sem] theorem egM (gl : Nat → Option (List AV)) (f : FuncId) (args : List AV) : (EG gl).M f args = none := rfl
@[go_sem] theorem egG (gl : Nat → Option (List AV)) : (EG gl).gl = gl := rfl
@[go_sem] theorem egC (gl : Nat → Option (List AV)) (h : Hp) (f : FuncId) (args : List AV) : callA (EG gl) h f args = .call f args := by
  unfold callA
  split
  · rfl
  · split <;> rfl
theorem eg (gl : Nat → Option (List AV)) : ModOk (EG gl) := fun f args r e => by cases e
open Classical in
noncomputable def ELG (gl : Nat → Option (List AV)) (L : List (FuncId × List AV × AV)) : Env := ⟨Tryz.prog, gl, fun f args => (L.find? fun e => decide (e.1 = f ∧ e.2.1 = args)).map (·.2.2)⟩
@[go_sem] theorem elgP (L : List (FuncId × List AV × AV)) : (ELG gl L).P = Tryz.prog := rfl
@[go_sem] theorem elgG (L : List (FuncId × List AV × AV)) : (ELG gl L).gl = gl := rfl
theorem elg_ok {L : List (FuncId × List AV × AV)} (h : ∀ e ∈ L, MeetsP Tryz.prog gl e.1 e.2.1 e.2.2) : ModOk (ELG gl L) := by
  intro f args r e
  simp only [ELG, Option.map_eq_some_iff] at e
  obtain ⟨x, hx, rfl⟩ := e
  have h1 := List.find?_some hx
  simp only [decide_eq_true_eq] at h1
  have := h x (List.mem_of_find?_eq_some hx)
  rw [h1.1, h1.2] at this
  exact this
@[go_sem] theorem elg_hit (L : List (FuncId × List AV × AV)) (h : Hp) (f : FuncId) (args : List AV) (r : AV) : callA (ELG gl ((f, args, r) :: L)) h f args = if args.all (noid 12) = true then .val r h else callZ (ELG gl ((f, args, r) :: L)) h f args := by
  split
  · rename_i hn
    unfold callA
    rw [if_pos hn]
    simp [ELG]
  · rfl
@[go_sem] theorem elg_nil (h : Hp) (f : FuncId) (args : List AV) : callA (ELG gl []) h f args = .call f args := by
  unfold callA
  split
  · rfl
  · split <;> rfl
@[go_sem low] theorem elg_miss (L : List (FuncId × List AV × AV)) (h : Hp) (f f0 : FuncId) (args a0 : List AV) (r : AV) : callA (ELG gl ((f0, a0, r) :: L)) h f args = if f0 = f then callZ (ELG gl ((f0, a0, r) :: L)) h f args else callA (ELG gl L) h f args := by
  split
  · rfl
  · rename_i hf
    unfold callA
    simp [ELG, hf]
theorem t_withG {f : FuncId} {K : List Item} {S : St} {X : Ex → St → Prop} (L : List (FuncId × List AV × AV)) (h : ∀ e ∈ L, MeetsP Tryz.prog gl e.1 e.2.1 e.2.2) (hT : T (ELG gl L) f K S X) : T (EG gl) f K S X :=
  fun F G ok w a b cs _ q3 q5 q6 q7 => hT F G ok w a b cs (elg_ok h) q3 q5 q6 q7
theorem t_backG {f : FuncId} {K : List Item} {S : St} {X : Ex → St → Prop} {L : List (FuncId × List AV × AV)} (hT : T (EG gl) f K S X) : T (ELG gl L) f K S X :=
  fun F G ok w a b cs _ q3 q5 q6 q7 => hT F G ok w a b cs (eg gl) q3 q5 q6 q7
inductive WDG (gl : Nat → Option (List AV)) (L : List (FuncId × List AV × AV)) (f : FuncId) (K : List Item) (X : Ex → St → Prop) (r : RR) : Prop
  | done (S : St) (h : T (EG gl) f K S X) (e : r = .done S) : WDG gl L f K X r
theorem wdg_done {L : List (FuncId × List AV × AV)} {f : FuncId} {K : List Item} {X : Ex → St → Prop} {S : St} (h : T (EG gl) f K S X) : WDG gl L f K X (.done S) := .done S h rfl
theorem t_drawGL {f : FuncId} {K : List Item} {S : St} {X : Ex → St → Prop} {id : Nat} {ops : Array Oper} (L : List (FuncId × List AV × AV)) (h : ∀ e ∈ L, MeetsP Tryz.prog gl e.1 e.2.1 e.2.2) (hO : orderB ops = true) (hT : WDG gl L f K X (runA (ELG gl L) ops.toList ops.toList S)) : T (EG gl) f (.code (.region id ops true) :: K) S X := by
  refine t_withG L h (t_draw (E := ELG gl L) (by kernel_rfl) hO ?_)
  cases hT with
  | done S' hT e => rw [e]; exact .done S' (t_backG hT)
theorem t_drawg1 {f : FuncId} {K : List Item} {S : St} {X : Ex → St → Prop} {id : Nat} {ops : Array Oper} {g : FuncId} {args : List AV} {r : AV} (hp : MeetsP Tryz.prog gl g args r) (hO : orderB ops = true) (hT : WDG gl [(g, args, r)] f K X (runA (ELG gl [(g, args, r)]) ops.toList ops.toList S)) : T (EG gl) f (.code (.region id ops true) :: K) S X :=
  t_drawGL _ (fun e he => by simp only [List.mem_cons, List.not_mem_nil, or_false] at he; subst he; exact hp) hO hT
theorem t_drawg2 {f : FuncId} {K : List Item} {S : St} {X : Ex → St → Prop} {id : Nat} {ops : Array Oper} {g g2 : FuncId} {args args2 : List AV} {r r2 : AV} (hp : MeetsP Tryz.prog gl g args r) (hp2 : MeetsP Tryz.prog gl g2 args2 r2) (hO : orderB ops = true) (hT : WDG gl [(g, args, r), (g2, args2, r2)] f K X (runA (ELG gl [(g, args, r), (g2, args2, r2)]) ops.toList ops.toList S)) : T (EG gl) f (.code (.region id ops true) :: K) S X :=
  t_drawGL _ (fun e he => by simp only [List.mem_cons, List.not_mem_nil, or_false] at he; rcases he with rfl | rfl; exact hp; exact hp2) hO hT
theorem t_drawg3 {f : FuncId} {K : List Item} {S : St} {X : Ex → St → Prop} {id : Nat} {ops : Array Oper} {g g2 g3 : FuncId} {args args2 args3 : List AV} {r r2 r3 : AV} (hp : MeetsP Tryz.prog gl g args r) (hp2 : MeetsP Tryz.prog gl g2 args2 r2) (hp3 : MeetsP Tryz.prog gl g3 args3 r3) (hO : orderB ops = true) (hT : WDG gl [(g, args, r), (g2, args2, r2), (g3, args3, r3)] f K X (runA (ELG gl [(g, args, r), (g2, args2, r2), (g3, args3, r3)]) ops.toList ops.toList S)) : T (EG gl) f (.code (.region id ops true) :: K) S X :=
  t_drawGL _ (fun e he => by simp only [List.mem_cons, List.not_mem_nil, or_false] at he; rcases he with rfl | rfl | rfl; exact hp; exact hp2; exact hp3) hO hT
end Go.Proofs.YtdkifonomakcbaaGreatDoorA
