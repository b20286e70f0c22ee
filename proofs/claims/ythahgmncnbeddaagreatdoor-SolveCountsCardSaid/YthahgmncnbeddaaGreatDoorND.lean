/- Own blocks that last from now on, in the other own blocks, too. -/
import Derived.Test.YthahgmncnbeddaaGreatDoorNC
set_option linter.unusedVariables false
set_option linter.unusedSimpArgs false
namespace Go.Proofs.YthahgmncnbeddaaGreatDoorA
open Go Go.RowKit Go.Proofs.YthahgmncnbeddaaGreatDoorFx Go.Proofs
def frzR (id k : Nat) (l : List (List AV)) (rows : List (List AV)) : List (List AV) := rows.map fun row => row.map (frz id k l 12)
def frzE (id k : Nat) (l : List (List AV)) : Ent → Ent
  | .rows k' l' => .rows k' (frzR id k l l')
  | .tr t k' l' => .tr t k' (frzR id k l l')
  | .iter s n => .iter s n
def frzC (id k : Nat) (l : List (List AV)) (c : List (Nat × Ent)) : List (Nat × Ent) := c.map fun q => (q.1, frzE id k l q.2)
theorem frzE_holds {ok ok' : Okc} {w : World} {G : Gh} {id k : Nat} {l : List (List AV)} {p : Pl} (hp : G id = some p) (hh : HoldsR ok w G p k l) (hno : l.all (fun row => row.all (noid 12)) = true) (h1 : ∀ b i, ok b i → ok' b i) (h2 : ∀ o, p.base ≤ o → ok' p.b o)
    {q : Pl} {e : Ent} (H : Holds ok w G q e) : Holds ok' w G q (frzE id k l e) := by
  have key : ∀ {k' l'}, HoldsR ok w G q k' l' → HoldsR ok' w G q k' (frzR id k l l') := fun {k' l'} H => by
    obtain ⟨hk, cs, t, fz, e1, e2, e3, e4, e5, e6⟩ := H
    refine ⟨hk, cs, t, fz, e1, e2, by simpa [frzR] using e3, e4, fun row hr => ?_, fun i row hi j a ha => ?_⟩
    · obtain ⟨row0, h0, rfl⟩ := List.mem_map.1 hr
      simpa using e5 row0 h0
    · unfold frzR at hi
      rw [List.getElem?_map] at hi
      obtain ⟨row0, h0, rfl⟩ := Option.map_eq_some_iff.1 hi
      rw [List.getElem?_map] at ha
      obtain ⟨a0, ha0, rfl⟩ := Option.map_eq_some_iff.1 ha
      obtain ⟨v, hv, rv, ov⟩ := e6 i row0 h0 j a0 ha0
      exact ⟨v, hv, frz_rep hp hh hno h1 h2 12 v a0 rv, ov⟩
  cases e with
  | rows k' l' => exact key H
  | tr t k' l' => exact ⟨key H.1, H.2⟩
  | iter s n => exact H
section
variable {E : Env} {f : FuncId} {K : List Item} {S : St} {X : Ex → St → Prop}
end
@[go_sem] theorem frzT_nil (id k : Nat) (l : List (List AV)) : frzT id k l [] = [] := rfl
@[go_sem] theorem frzT_cons (id k : Nat) (l : List (List AV)) (i : Nat) (v : AV) (r : List (Nat × AV)) : frzT id k l ((i, v) :: r) = (i, frz id k l 12 v) :: frzT id k l r := rfl
@[go_sem] theorem frzC_nil (id k : Nat) (l : List (List AV)) : frzC id k l [] = [] := rfl
@[go_sem] theorem frzC_rows (id k : Nat) (l : List (List AV)) (i k' : Nat) (l' : List (List AV)) (r : List (Nat × Ent)) : frzC id k l ((i, .rows k' l') :: r) = (i, .rows k' (frzR id k l l')) :: frzC id k l r := rfl
@[go_sem] theorem frzC_tr (id k : Nat) (l : List (List AV)) (i k' : Nat) (t : TypeId) (l' : List (List AV)) (r : List (Nat × Ent)) : frzC id k l ((i, .tr t k' l') :: r) = (i, .tr t k' (frzR id k l l')) :: frzC id k l r := rfl
@[go_sem] theorem frzR_nil (id k : Nat) (l : List (List AV)) : frzR id k l [] = [] := rfl
@[go_sem] theorem frzR_cons (id k : Nat) (l : List (List AV)) (row : List AV) (r : List (List AV)) : frzR id k l (row :: r) = row.map (frz id k l 12) :: frzR id k l r := rfl
@[go_sem] theorem rmv_cons (c : List (Nat × Ent)) (i id : Nat) (e : Ent) : rmv ((i, e) :: c) id = if i = id then c else (i, e) :: rmv c id := rfl
@[go_sem] theorem rmv_nil (id : Nat) : rmv [] id = [] := rfl
section
variable (id k : Nat) (l : List (List AV)) (d : Nat)
@[go_sem] theorem frz_b (x : Bool) : frz id k l (d + 1) (.b x) = .b x := rfl
@[go_sem] theorem frz_i (q : IntKind) (x : Int) : frz id k l (d + 1) (.i q x) = .i q x := rfl
@[go_sem] theorem frz_s (x : List UInt8) : frz id k l (d + 1) (.s x) = .s x := rfl
@[go_sem] theorem frz_np : frz id k l (d + 1) .np = .np := rfl
@[go_sem] theorem frz_nf : frz id k l (d + 1) .nf = .nf := rfl
@[go_sem] theorem frz_ni : frz id k l (d + 1) .ni = .ni := rfl
@[go_sem] theorem frz_nils : frz id k l (d + 1) .nils = .nils := rfl
@[go_sem] theorem frz_un : frz id k l (d + 1) .un = .un := rfl
@[go_sem] theorem frz_ip (r : List AV) (c : Nat) : frz id k l (d + 1) (.ip r c) = .ip r c := rfl
@[go_sem] theorem frz_isl (nn : Bool) (q : Nat) (r : List (List AV)) : frz id k l (d + 1) (.isl nn q r) = .isl nn q r := rfl
@[go_sem] theorem frz_fn (f : FuncId) (a b : List AV) : frz id k l (d + 1) (.fn f a b) = .fn f a b := rfl
@[go_sem] theorem frz_ifc (t : TypeId) (v : AV) : frz id k l (d + 1) (.ifc t v) = .ifc t v := rfl
@[go_sem] theorem frz_agg (cs : List AV) : frz id k l (d + 1) (.agg cs) = .agg (cs.map (frz id k l d)) := rfl
@[go_sem] theorem frz_tup (cs : List AV) : frz id k l (d + 1) (.tup cs) = .tup (cs.map (frz id k l d)) := rfl
@[go_sem] theorem frz_osl (i off n : Nat) : frz id k l (d + 1) (.osl i off n) = if i = id ∧ off + n ≤ l.length then .isl true k ((l.drop off).take n) else .osl i off n := rfl
@[go_sem] theorem frz_ptr0 {i r c : Nat} (h : ¬ i = id) : frz id k l (d + 1) (.ptr i r c) = .ptr i r c := if_neg h
end
end Go.Proofs.YthahgmncnbeddaaGreatDoorA
/- Own slices lent to a pure function that answers no memory. -/
set_option linter.unusedVariables false
set_option linter.unusedSimpArgs false
namespace Go.Proofs.YthahgmncnbeddaaGreatDoorA
open Go Go.RowKit Go.Proofs.YthahgmncnbeddaaGreatDoorFx Go.Proofs
section
open Classical
variable {E : Env} {f : FuncId} {fn : Func} {K : List Item} {S : St} {X : Ex → St → Prop}
end
end Go.Proofs.YthahgmncnbeddaaGreatDoorA
