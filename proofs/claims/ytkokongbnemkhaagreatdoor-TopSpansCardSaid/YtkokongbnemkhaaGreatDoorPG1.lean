/- What the told variables read as is what the walks ask of them. -/
import Derived.Test.YtkokongbnemkhaaGreatDoorPK1
import Derived.Test.YtkokongbnemkhaaGreatDoorRows
import Derived.ChangeArms
import Derived.OpenShut
import Derived.Shelf.Vars
import Derived.MakeChecks
set_option linter.unusedVariables false
set_option linter.unusedSimpArgs false
namespace Go.Proofs.YtkokongbnemkhaaGreatDoorA
open Go Go.RowKit Go.Proofs
def avL : DataW Unit → AV
  | .lit (.int k n) => .i k n
  | .lit (.string bs) => .s bs
  | _ => .un
/-- A datum as a plain value: whole numbers, strings, slices of those. -/
def avD : DataW Unit → AV
  | .nil => .nils
  | .slice (e :: es) _ => .isl true 1 ((e :: es).map fun d => [avL d])
  | d => avL d
/-- Whole numbers and strings. -/
def ScalT (P : Program) (e : TypeId) : Prop := (∃ k, P.underlying e = some (.int k)) ∨ P.underlying e = some .string
def ElemT (P : Program) (t : TypeId) : Prop := ScalT P t ∨ ∃ e, P.underlying t = some (.slice e) ∧ ScalT P e ∧ P.cellsOf e = 1
variable {P : Program} {w : World}
/-- Every cell of the world. -/
def okW (w : World) : Okc := fun b _ => b < w.heap.size
theorem okW_of {b i : Nat} {v : Value} {s : Option Nat} (h : w.cell? ⟨b, i, s⟩ = some v) : okW w b i := by
  unfold World.cell? at h
  split at h
  · rename_i q
    exact (Array.getElem?_eq_some_iff.1 q).1
  · cases h
theorem spot_none {a : Addr} {v : Value} (h : w.cell? a = some v) : a.spot = none := by
  unfold World.cell? at h
  split at h
  · split at h
    · cases h
    · rename_i q; simpa using q
  · cases h
theorem lit_rep {e : TypeId} (hs : ScalT P e) {base fuel : Nat} {spare : Nat → Bool} {held : Bool} {cs : List Value} {x : DataW Unit × List MemPlace} (h : DataW.trod (fun _ => ()) P w base spare held fuel e cs = some x) :
    ∃ v, cs = [v] ∧ Rep (okW w) w G0 v (avL x.1) ∧ v.oneCell' = true ∧ avD x.1 = avL x.1 := by
  rcases hs with ⟨k, hk⟩ | hs
  · obtain ⟨n, rfl, rfl, _⟩ := DataW.trod_int hk h
    exact ⟨_, rfl, .i _ _ _, rfl, rfl⟩
  · obtain ⟨s, rfl, rfl, _⟩ := DataW.trod_string hs h
    exact ⟨_, rfl, .s _ _, rfl, rfl⟩
theorem elem_rep {t : TypeId} (hs : ElemT P t) {base fuel : Nat} {spare : Nat → Bool} {held : Bool} {cs : List Value} {x : DataW Unit × List MemPlace} (h : DataW.trod (fun _ => ()) P w base spare held fuel t cs = some x) :
    ∃ v, cs = [v] ∧ Rep (okW w) w G0 v (avD x.1) ∧ v.oneCell' = true := by
  rcases hs with hs | ⟨e, ht, he, hc⟩
  · obtain ⟨v, h1, h2, h3, h4⟩ := lit_rep hs h
    exact ⟨v, h1, by rw [h4]; exact h2, h3⟩
  · rcases DataW.trod_slice ht h with ⟨rfl, rfl⟩ | ⟨ad, len, cap, elems, rest, n, hfu, rfl, rfl, hb, hlc, hm, hlen, hel, _, _⟩
    · exact ⟨_, rfl, .nils _, rfl⟩
    · refine ⟨_, rfl, ?_, rfl⟩
      match elems, hlen, hel with
      | [], _, _ => exact .un _ _
      | y :: ys, hlen, hel =>
        have each : ∀ i, i < len → ∃ v, w.cell? (ad.add i) = some v ∧ (∀ z, (y :: ys)[i]? = some z → Rep (okW w) w G0 v (avL z.1)) ∧ v.oneCell' = true := fun i hi => by
          have h1 := hel i hi
          have hi2 : i < (y :: ys).length := by omega
          rw [List.getElem?_eq_getElem hi2, Option.bind_eq_some_iff, hc, Nat.mul_one] at h1
          obtain ⟨cs', hcs, hy⟩ := h1
          obtain ⟨v, rfl, hr, ho, _⟩ := lit_rep he hy
          have hcell := (World.cells?_some hcs).2.2 0 (by omega)
          refine ⟨v, ?_, fun z hz => ?_, ho⟩
          · simpa [Addr.add] using hcell
          · rw [List.getElem?_eq_getElem hi2] at hz
            cases hz
            exact hr
        have hsp : ad.spot = none := by
          obtain ⟨v, hv, _⟩ := each 0 (by simp at hlen; omega)
          have := spot_none hv
          simpa [Addr.add] using this
        obtain ⟨bb, o, sp⟩ := ad
        simp only at hsp
        subst hsp
        have hvs : ∃ vs : Nat → Value, ∀ i, i < len → w.cell? ⟨bb, o + i, none⟩ = some (vs i) ∧ (∀ z, (y :: ys)[i]? = some z → Rep (okW w) w G0 (vs i) (avL z.1)) ∧ (vs i).oneCell' = true :=
          ⟨fun i => (w.cell? ⟨bb, o + i, none⟩).getD default, fun i hi => by
            obtain ⟨v, h1, h2, h3⟩ := each i hi
            have ea : Addr.add ⟨bb, o, none⟩ i = ⟨bb, o + i, none⟩ := by unfold Addr.add; split <;> simp_all
            have h1' : w.cell? ⟨bb, o + i, none⟩ = some v := by rw [← ea]; exact h1
            have e : (w.cell? ⟨bb, o + i, none⟩).getD default = v := by rw [h1']; rfl
            dsimp only
            rw [e]
            exact ⟨h1', h2, h3⟩⟩
        obtain ⟨vs, hv⟩ := hvs
        have hrow : ∀ (i : Nat) row, ((y :: ys).map fun z => [avL z.1])[i]? = some row → ∃ z, (y :: ys)[i]? = some z ∧ row = [avL z.1] := fun i row hr => by
          rw [List.getElem?_map] at hr
          obtain ⟨z, hz, rfl⟩ := Option.map_eq_some_iff.1 hr
          exact ⟨z, hz, rfl⟩
        have hgoal : Rep (okW w) w G0 (.slice (some ⟨bb, o, none⟩) len cap) (.isl true 1 ((y :: ys).map fun z => [avL z.1])) := by
          refine .isl _ true 1 _ len bb o cap (fun i _ => vs i) (by simp at hlen ⊢; omega) (by simp at hlen ⊢; omega) (fun row hr => ?_) (fun i row hr j hj => ?_) (fun i row hr j a ha => ?_)
          · obtain ⟨z, _, rfl⟩ := List.mem_map.1 hr; rfl
          · obtain ⟨z, hz, rfl⟩ := hrow i row hr
            have hi := (List.getElem?_eq_some_iff.1 hz).1
            have hj0 : j = 0 := by simp at hj; omega
            subst hj0
            have h1 := hv i (by omega)
            rw [Nat.mul_one, Nat.add_zero]
            exact ⟨h1.1, okW_of h1.1, h1.2.2⟩
          · obtain ⟨z, hz, rfl⟩ := hrow i row hr
            have hi := (List.getElem?_eq_some_iff.1 hz).1
            cases j with
            | zero => cases ha; exact (hv i (by omega)).2.1 z hz
            | succ j => simp at ha
        have hq : avD (.slice ((y :: ys).map (·.1)) (rest.map (·.1))) = .isl true 1 ((y :: ys).map fun z => [avL z.1]) := by
          simp only [List.map_cons, avD, List.map_map]
          rfl
        rw [hq]
        exact hgoal
theorem glob_rep {n : String} {g : Nat} {t e : TypeId} {m : Nat} {cs : Array Value} {fuel : Nat} {ds : List (DataW Unit)} {p : List MemPlace} (hg : P.globalNamed n = some g) (hv : w.var? P n = some cs) (ht : P.underlying t = some (.array m e)) (he : ElemT P e) (hc : P.cellsOf e = 1) (hct : P.cellsOf t = m)
    (h : DataW.trod (fun _ => ()) P w 0 (fun _ => true) false fuel t cs.toList = some (.agg ds, p)) : Rep (okW w) w G0 (.pointer (some ⟨g, 0, none⟩)) (.ip (ds.map avD) 0) ∧ ∃ t, w.shape? g = some (t, (ds.map avD).length) := by
  obtain ⟨xs, k, _, hx, hl, hxl, hall⟩ := DataW.trod_array ht h
  obtain ⟨rfl, -⟩ := Prod.mk.inj hx |>.imp_left (fun q => DataW.agg.inj q)
  unfold World.var? at hv
  rw [hg] at hv
  simp only [Option.bind_some] at hv
  split at hv
  · rename_i c t' fr hh
    cases hv
    have hsz : cs.size = m := by rw [hct] at hl; simpa using hl
    refine ⟨?_, t', ?_⟩
    · have each : ∀ i, i < m → ∃ v, cs[i]? = some v ∧ (∀ z, xs[i]? = some z → Rep (okW w) w G0 v (avD z.1)) ∧ v.oneCell' = true := fun i hi => by
        have h1 := hall i hi
        have hi2 : i < xs.length := by omega
        rw [List.getElem?_eq_getElem hi2, hc, Nat.mul_one] at h1
        obtain ⟨v, hv, hr, ho⟩ := elem_rep he h1
        refine ⟨v, ?_, fun z hz => ?_, ho⟩
        · have hlt : i < cs.size := by omega
          have h2 : ((cs.toList.drop i).take 1)[0]? = some v := by rw [hv]; rfl
          simpa [List.getElem?_take, List.getElem?_drop] using h2
        · rw [List.getElem?_eq_getElem hi2] at hz
          cases hz
          exact hr
      refine Rep.ip _ _ 0 g 0 (fun j => (cs[j]?).getD default) (fun j hj => ?_) (fun j a ha => ?_)
      · simp only [List.length_map] at hj
        obtain ⟨v, h1, _, h3⟩ := each j (by omega)
        have hcell : w.cell? ⟨g, j, none⟩ = some v := by simp [World.cell?, hh, h1]
        rw [h1, Nat.zero_add]
        exact ⟨hcell, okW_of hcell, h3⟩
      · rw [List.getElem?_map, List.getElem?_map] at ha
        obtain ⟨d, hd, rfl⟩ := Option.map_eq_some_iff.1 ha
        obtain ⟨z, hz, rfl⟩ := Option.map_eq_some_iff.1 hd
        have hj := (List.getElem?_eq_some_iff.1 hz).1
        obtain ⟨v, h1, h2, _⟩ := each j (by omega)
        rw [h1]
        exact h2 z hz
    · simp [World.shape?, hh, hsz, hxl]
  · cases hv
theorem laid_mem {n : String} {d : DataW Unit} : ∀ {laid : List (String × DataW Unit)} {ps : List MemPlace}, DataW.LaidVars P w laid ps → (n, d) ∈ laid → ∃ g t cs fuel p, P.globalNamed n = some g ∧ (P.globals[g]?).map (·.type) = some t ∧ w.var? P n = some cs ∧ DataW.trod (fun _ => ()) P w 0 (fun _ => true) false fuel t cs.toList = some (d, p)
  | [], _, _, h => by cases h
  | (n', d') :: r, ps, hl, h => by
    obtain ⟨g, t, cs, fuel, p, q, h1, h2, h3, h4, h5, h6⟩ := hl
    rcases List.mem_cons.1 h with h | h
    · cases h
      exact ⟨g, t, cs, fuel, p, h1, h2, h3, h4⟩
    · exact laid_mem h5 h
theorem glob_of {laid : List (String × DataW Unit)} (h : laidMet P laid w) {n : String} {ds : List (DataW Unit)} (hm : (n, .agg ds) ∈ laid) {g m : Nat} {t e : TypeId} (hg : P.globalNamed n = some g) (hty : (P.globals[g]?).map (·.type) = some t) (ht : P.underlying t = some (.array m e)) (he : ElemT P e) (hc : P.cellsOf e = 1) (hct : P.cellsOf t = m) :
    Rep (okW w) w G0 (.pointer (some ⟨g, 0, none⟩)) (.ip (ds.map avD) 0) ∧ ∃ t, w.shape? g = some (t, (ds.map avD).length) := by
  obtain ⟨ps, hl, _⟩ := h
  obtain ⟨g', t', cs, fuel, p, h1, h2, h3, h4⟩ := laid_mem hl hm
  obtain rfl := Option.some.inj (hg.symm.trans h1)
  obtain rfl := Option.some.inj (hty.symm.trans h2)
  exact glob_rep hg h3 ht he hc hct h4
end Go.Proofs.YtkokongbnemkhaaGreatDoorA
