/- What the told variables read as is what the walks ask of them. -/
import Derived.Test.YthahgmncnbeddaaGreatDoorKA
import Derived.Test.YthahgmncnbeddaaGreatDoorRows
import Derived.ChangeArms
import Derived.OpenShut
import Derived.Shelf.Vars
import Derived.MakeChecks
import Derived.ChangeSlices
import Derived.SizedLaws
import Derived.DataElems
import Derived.HandedShaped
import Derived.WideShapes
import Derived.Carry
import Derived.Test.YthahgmncnbeddaaGreatDoorNA
set_option linter.unusedVariables false
set_option linter.unusedSimpArgs false
namespace Go.Proofs.YthahgmncnbeddaaGreatDoorA
open Go Go.RowKit Go.Proofs
def avL : DataW Unit → AV
  | .lit (.int k n) => .i k n
  | .lit (.string bs) => .s bs
  | _ => .un
/-- A datum as a plain value: whole numbers, strings, slices of those. -/
def avD : DataW Unit → AV
  | .nil => .nils
  | .slice (e :: es) _ => .isl true 1 ((e :: es).map fun d => [avL d])
  | d => avL d
/-- Whole numbers and strings. -/
def ScalT (P : Program) (e : TypeId) : Prop := (∃ k, P.underlying e = some (.int k)) ∨ P.underlying e = some .string
def ElemT (P : Program) (t : TypeId) : Prop := ScalT P t ∨ ∃ e, P.underlying t = some (.slice e) ∧ ScalT P e ∧ P.cellsOf e = 1
variable {P : Program} {w : World}
/-- Every cell of the world. -/
def okW (w : World) : Okc := fun b _ => b < w.heap.size
theorem okW_of {b i : Nat} {v : Value} {s : Option Nat} (h : w.cell? ⟨b, i, s⟩ = some v) : okW w b i := by
  unfold World.cell? at h
  split at h
  · rename_i q
    exact (Array.getElem?_eq_some_iff.1 q).1
  · cases h
theorem spot_none {a : Addr} {v : Value} (h : w.cell? a = some v) : a.spot = none := by
  unfold World.cell? at h
  split at h
  · split at h
    · cases h
    · rename_i q; simpa using q
  · cases h
theorem lit_rep {e : TypeId} (hs : ScalT P e) {base fuel : Nat} {spare : Nat → Bool} {held : Bool} {cs : List Value} {x : DataW Unit × List MemPlace} (h : DataW.trod (fun _ => ()) P w base spare held fuel e cs = some x) :
    ∃ v, cs = [v] ∧ Rep (okW w) w G0 v (avL x.1) ∧ v.oneCell' = true ∧ avD x.1 = avL x.1 := by
  rcases hs with ⟨k, hk⟩ | hs
  · obtain ⟨n, rfl, rfl, _⟩ := DataW.trod_int hk h
    exact ⟨_, rfl, .i _ _ _, rfl, rfl⟩
  · obtain ⟨s, rfl, rfl, _⟩ := DataW.trod_string hs h
    exact ⟨_, rfl, .s _ _, rfl, rfl⟩
theorem elem_rep {t : TypeId} (hs : ElemT P t) {base fuel : Nat} {spare : Nat → Bool} {held : Bool} {cs : List Value} {x : DataW Unit × List MemPlace} (h : DataW.trod (fun _ => ()) P w base spare held fuel t cs = some x) :
    ∃ v, cs = [v] ∧ Rep (okW w) w G0 v (avD x.1) ∧ v.oneCell' = true := by
  rcases hs with hs | ⟨e, ht, he, hc⟩
  · obtain ⟨v, h1, h2, h3, h4⟩ := lit_rep hs h
    exact ⟨v, h1, by rw [h4]; exact h2, h3⟩
  · rcases DataW.trod_slice ht h with ⟨rfl, rfl⟩ | ⟨ad, len, cap, elems, rest, n, hfu, rfl, rfl, hb, hlc, hm, hlen, hel, _, _⟩
    · exact ⟨_, rfl, .nils _, rfl⟩
    · refine ⟨_, rfl, ?_, rfl⟩
      match elems, hlen, hel with
      | [], _, _ => exact .un _ _
      | y :: ys, hlen, hel =>
        have each : ∀ i, i < len → ∃ v, w.cell? (ad.add i) = some v ∧ (∀ z, (y :: ys)[i]? = some z → Rep (okW w) w G0 v (avL z.1)) ∧ v.oneCell' = true := fun i hi => by
          have h1 := hel i hi
          have hi2 : i < (y :: ys).length := by omega
          rw [List.getElem?_eq_getElem hi2, Option.bind_eq_some_iff, hc, Nat.mul_one] at h1
          obtain ⟨cs', hcs, hy⟩ := h1
          obtain ⟨v, rfl, hr, ho, _⟩ := lit_rep he hy
          have hcell := (World.cells?_some hcs).2.2 0 (by omega)
          refine ⟨v, ?_, fun z hz => ?_, ho⟩
          · simpa [Addr.add] using hcell
          · rw [List.getElem?_eq_getElem hi2] at hz
            cases hz
            exact hr
        have hsp : ad.spot = none := by
          obtain ⟨v, hv, _⟩ := each 0 (by simp at hlen; omega)
          have := spot_none hv
          simpa [Addr.add] using this
        obtain ⟨bb, o, sp⟩ := ad
        simp only at hsp
        subst hsp
        have hvs : ∃ vs : Nat → Value, ∀ i, i < len → w.cell? ⟨bb, o + i, none⟩ = some (vs i) ∧ (∀ z, (y :: ys)[i]? = some z → Rep (okW w) w G0 (vs i) (avL z.1)) ∧ (vs i).oneCell' = true :=
          ⟨fun i => (w.cell? ⟨bb, o + i, none⟩).getD default, fun i hi => by
            obtain ⟨v, h1, h2, h3⟩ := each i hi
            have ea : Addr.add ⟨bb, o, none⟩ i = ⟨bb, o + i, none⟩ := by unfold Addr.add; split <;> simp_all
            have h1' : w.cell? ⟨bb, o + i, none⟩ = some v := by rw [← ea]; exact h1
            have e : (w.cell? ⟨bb, o + i, none⟩).getD default = v := by rw [h1']; rfl
            dsimp only
            rw [e]
            exact ⟨h1', h2, h3⟩⟩
        obtain ⟨vs, hv⟩ := hvs
        have hrow : ∀ (i : Nat) row, ((y :: ys).map fun z => [avL z.1])[i]? = some row → ∃ z, (y :: ys)[i]? = some z ∧ row = [avL z.1] := fun i row hr => by
          rw [List.getElem?_map] at hr
          obtain ⟨z, hz, rfl⟩ := Option.map_eq_some_iff.1 hr
          exact ⟨z, hz, rfl⟩
        have hgoal : Rep (okW w) w G0 (.slice (some ⟨bb, o, none⟩) len cap) (.isl true 1 ((y :: ys).map fun z => [avL z.1])) := by
          refine .isl _ true 1 _ len bb o cap (fun i _ => vs i) (by simp at hlen ⊢; omega) (by simp at hlen ⊢; omega) (fun row hr => ?_) (fun i row hr j hj => ?_) (fun i row hr j a ha => ?_)
          · obtain ⟨z, _, rfl⟩ := List.mem_map.1 hr; rfl
          · obtain ⟨z, hz, rfl⟩ := hrow i row hr
            have hi := (List.getElem?_eq_some_iff.1 hz).1
            have hj0 : j = 0 := by simp at hj; omega
            subst hj0
            have h1 := hv i (by omega)
            rw [Nat.mul_one, Nat.add_zero]
            exact ⟨h1.1, okW_of h1.1, h1.2.2⟩
          · obtain ⟨z, hz, rfl⟩ := hrow i row hr
            have hi := (List.getElem?_eq_some_iff.1 hz).1
            cases j with
            | zero => cases ha; exact (hv i (by omega)).2.1 z hz
            | succ j => simp at ha
        have hq : avD (.slice ((y :: ys).map (·.1)) (rest.map (·.1))) = .isl true 1 ((y :: ys).map fun z => [avL z.1]) := by
          simp only [List.map_cons, avD, List.map_map]
          rfl
        rw [hq]
        exact hgoal
theorem glob_rep {n : String} {g : Nat} {t e : TypeId} {m : Nat} {cs : Array Value} {fuel : Nat} {ds : List (DataW Unit)} {p : List MemPlace} (hg : P.globalNamed n = some g) (hv : w.var? P n = some cs) (ht : P.underlying t = some (.array m e)) (he : ElemT P e) (hc : P.cellsOf e = 1) (hct : P.cellsOf t = m)
    (h : DataW.trod (fun _ => ()) P w 0 (fun _ => true) false fuel t cs.toList = some (.agg ds, p)) : Rep (okW w) w G0 (.pointer (some ⟨g, 0, none⟩)) (.ip (ds.map avD) 0) ∧ ∃ t, w.shape? g = some (t, (ds.map avD).length) := by
  obtain ⟨xs, k, _, hx, hl, hxl, hall⟩ := DataW.trod_array ht h
  obtain ⟨rfl, -⟩ := Prod.mk.inj hx |>.imp_left (fun q => DataW.agg.inj q)
  unfold World.var? at hv
  rw [hg] at hv
  simp only [Option.bind_some] at hv
  split at hv
  · rename_i c t' fr hh
    cases hv
    have hsz : cs.size = m := by rw [hct] at hl; simpa using hl
    refine ⟨?_, t', ?_⟩
    · have each : ∀ i, i < m → ∃ v, cs[i]? = some v ∧ (∀ z, xs[i]? = some z → Rep (okW w) w G0 v (avD z.1)) ∧ v.oneCell' = true := fun i hi => by
        have h1 := hall i hi
        have hi2 : i < xs.length := by omega
        rw [List.getElem?_eq_getElem hi2, hc, Nat.mul_one] at h1
        obtain ⟨v, hv, hr, ho⟩ := elem_rep he h1
        refine ⟨v, ?_, fun z hz => ?_, ho⟩
        · have hlt : i < cs.size := by omega
          have h2 : ((cs.toList.drop i).take 1)[0]? = some v := by rw [hv]; rfl
          simpa [List.getElem?_take, List.getElem?_drop] using h2
        · rw [List.getElem?_eq_getElem hi2] at hz
          cases hz
          exact hr
      refine Rep.ip _ _ 0 g 0 (fun j => (cs[j]?).getD default) (fun j hj => ?_) (fun j a ha => ?_)
      · simp only [List.length_map] at hj
        obtain ⟨v, h1, _, h3⟩ := each j (by omega)
        have hcell : w.cell? ⟨g, j, none⟩ = some v := by simp [World.cell?, hh, h1]
        rw [h1, Nat.zero_add]
        exact ⟨hcell, okW_of hcell, h3⟩
      · rw [List.getElem?_map, List.getElem?_map] at ha
        obtain ⟨d, hd, rfl⟩ := Option.map_eq_some_iff.1 ha
        obtain ⟨z, hz, rfl⟩ := Option.map_eq_some_iff.1 hd
        have hj := (List.getElem?_eq_some_iff.1 hz).1
        obtain ⟨v, h1, h2, _⟩ := each j (by omega)
        rw [h1]
        exact h2 z hz
    · simp [World.shape?, hh, hsz, hxl]
  · cases hv
theorem laid_mem {n : String} {d : DataW Unit} : ∀ {laid : List (String × DataW Unit)} {ps : List MemPlace}, DataW.LaidVars P w laid ps → (n, d) ∈ laid → ∃ g t cs fuel p, P.globalNamed n = some g ∧ (P.globals[g]?).map (·.type) = some t ∧ w.var? P n = some cs ∧ DataW.trod (fun _ => ()) P w 0 (fun _ => true) false fuel t cs.toList = some (d, p)
  | [], _, _, h => by cases h
  | (n', d') :: r, ps, hl, h => by
    obtain ⟨g, t, cs, fuel, p, q, h1, h2, h3, h4, h5, h6⟩ := hl
    rcases List.mem_cons.1 h with h | h
    · cases h
      exact ⟨g, t, cs, fuel, p, h1, h2, h3, h4⟩
    · exact laid_mem h5 h
theorem glob_of {laid : List (String × DataW Unit)} (h : laidMet P laid w) {n : String} {ds : List (DataW Unit)} (hm : (n, .agg ds) ∈ laid) {g m : Nat} {t e : TypeId} (hg : P.globalNamed n = some g) (hty : (P.globals[g]?).map (·.type) = some t) (ht : P.underlying t = some (.array m e)) (he : ElemT P e) (hc : P.cellsOf e = 1) (hct : P.cellsOf t = m) :
    Rep (okW w) w G0 (.pointer (some ⟨g, 0, none⟩)) (.ip (ds.map avD) 0) ∧ ∃ t, w.shape? g = some (t, (ds.map avD).length) := by
  obtain ⟨ps, hl, _⟩ := h
  obtain ⟨g', t', cs, fuel, p, h1, h2, h3, h4⟩ := laid_mem hl hm
  obtain rfl := Option.some.inj (hg.symm.trans h1)
  obtain rfl := Option.some.inj (hty.symm.trans h2)
  exact glob_rep hg h3 ht he hc hct h4
end Go.Proofs.YthahgmncnbeddaaGreatDoorA
/- What an argument of a law reads zs, in plain values. -/
set_option linter.unusedVariables false
set_option linter.unusedSimpArgs false
namespace Go.Proofs.YthahgmncnbeddaaGreatDoorA
open Go Go.RowKit Go.Proofs
def LightA {H : Type} (P : Program) (t : TypeId) (d : DataW H) : Prop := ∀ n ∈ DataW.weights P t d, n ≤ reachBytes
/-- Cells read zs plain values of one cell each. -/
def CellsA (w : World) (cs : List Value) (zs : List AV) : Prop := cs.length = zs.length ∧ ∀ (j : Nat) v a, cs[j]? = some v → zs[j]? = some a → Rep (okW w) w G0 v a ∧ v.oneCell' = true
/-- Whatever is read at type t reads zs n plain values of the kind W. -/
def OA (P : Program) (w : World) (t : TypeId) (n : Nat) (W : List AV → Prop) : Prop :=
  ∀ (H : Type) (enc : TypeId × Value → H) (base : Nat) (spare : Nat → Bool) (held : Bool) (fuel : Nat) (cs : List Value) (x : DataW H × List MemPlace),
    DataW.trod enc P w base spare held fuel t cs = some x → LightA P t x.1 → ∃ zs, zs.length = n ∧ CellsA w cs zs ∧ W zs
variable {P : Program} {w : World}
theorem cellsA_one {v : Value} {a : AV} (r : Rep (okW w) w G0 v a) (o : v.oneCell' = true) : CellsA w [v] [a] :=
  ⟨rfl, fun j u b hu hb => by
    cases j with
    | zero => cases hu; cases hb; exact ⟨r, o⟩
    | succ j => simp at hu⟩
theorem oa_int {t : TypeId} {k : IntKind} (ht : P.underlying t = some (.int k)) : OA P w t 1 (fun zs => ∃ n, zs = [.i k n] ∧ (Lit.int k n).wf = true) := by
  intro H enc base spare held fuel cs x h _
  obtain ⟨n, rfl, rfl, hw⟩ := DataW.trod_int ht h
  exact ⟨[.i k n], rfl, cellsA_one (.i _ _ _) rfl, n, rfl, hw⟩
theorem oa_string {t : TypeId} (ht : P.underlying t = some .string) : OA P w t 1 (fun zs => ∃ s, zs = [.s s] ∧ s.length ≤ 140737488351232) := by
  intro H enc base spare held fuel cs x h hl
  obtain ⟨s, rfl, rfl, _⟩ := DataW.trod_string ht h
  refine ⟨[.s s.data.toList], rfl, cellsA_one (.s _ _) rfl, _, rfl, ?_⟩
  have := hl s.data.toList.length (by simp [DataW.weights])
  have e : reachBytes = 140737488351232 := by decide
  omega
theorem lightA_all {H : Type} {e : TypeId} {l : List (DataW H)} (h : ∀ n ∈ DataW.weightsAll P e l, n ≤ reachBytes) : ∀ d ∈ l, LightA P e d := by
  induction l with
  | nil => intro d hd; cases hd
  | cons a r ih =>
    intro d hd
    have h1 : ∀ n ∈ DataW.weights P e a ++ DataW.weightsAll P e r, n ≤ reachBytes := by simpa [DataW.weightsAll] using h
    rcases List.mem_cons.1 hd with rfl | hd
    · exact fun n hn => h1 n (List.mem_append_left _ hn)
    · exact ih (fun n hn => h1 n (List.mem_append_right _ hn)) d hd
theorem each_listA {α : Type} (n : Nat) (R : Nat → α → Prop) (h : ∀ i, i < n → ∃ a, R i a) : ∃ l : List α, l.length = n ∧ ∀ j a, l[j]? = some a → R j a := by
  induction n with
  | zero => exact ⟨[], rfl, fun j a hj => by simp at hj⟩
  | succ n ih =>
    obtain ⟨l, hl, hr⟩ := ih (fun i hi => h i (by omega))
    obtain ⟨a, ha⟩ := h n (by omega)
    refine ⟨l ++ [a], by simp [hl], fun j b hj => ?_⟩
    by_cases c : j < n
    · rw [List.getElem?_append_left (by omega)] at hj
      exact hr j b hj
    · have hj2 := (List.getElem?_eq_some_iff.1 hj).1
      simp only [List.length_append, List.length_singleton, hl] at hj2
      obtain rfl : j = n := by omega
      rw [List.getElem?_append_right (by omega), hl, Nat.sub_self] at hj
      simp at hj
      subst hj
      exact ha
/-- What a slice reads zs. -/
def SlA (k B : Nat) (W : List AV → Prop) (zs : List AV) : Prop := ∃ rows, zs = [.isl false k rows] ∧ (∀ row ∈ rows, row.length = k ∧ W row) ∧ rows.length ≤ maxLen ∧ rows.length * B ≤ 140737488351232
theorem slice_coreA {t e : TypeId} {k B : Nat} {W : List AV → Prop} (ht : P.underlying t = some (.slice e)) (hB : P.bytesOf e = B) (hc : P.cellsOf e = k) (hk : 0 < k)
    {H : Type} {enc : TypeId × Value → H} {base : Nat} {spare : Nat → Bool} {held : Bool} {fuel : Nat} {cs : List Value} {x : DataW H × List MemPlace}
    (h : DataW.trod enc P w base spare held fuel t cs = some x) (hl : LightA P t x.1)
    (hel : ∀ n cs' y, n < fuel → DataW.trod enc P w base spare held n e cs' = some y → LightA P e y.1 → ∃ zs, zs.length = k ∧ CellsA w cs' zs ∧ W zs) :
    ∃ zs, zs.length = 1 ∧ CellsA w cs zs ∧ SlA k B W zs := by
  rcases DataW.trod_slice ht h with ⟨rfl, rfl⟩ | ⟨ad, len, cap, elems, rest, n, hfu, rfl, rfl, hb, hlc, hm, hlen, hel', _, _⟩
  · exact ⟨[.isl false k []], rfl, cellsA_one (.isln _ _) rfl, [], rfl, by simp, by simp, by simp⟩
  · have hl0 : ∀ n ∈ ((elems.map (·.1)).length + (rest.map (·.1)).length) * P.bytesOf e :: (DataW.weightsAll P e (elems.map (·.1)) ++ DataW.weightsAll P e (rest.map (·.1))), n ≤ reachBytes := by
      intro n hn
      exact hl n (by simpa [DataW.weights, ht] using hn)
    have hsz := hl0 _ List.mem_cons_self
    have hle := lightA_all (P := P) (e := e) (l := elems.map (·.1)) (fun n hn => hl0 n (List.mem_cons_of_mem _ (List.mem_append_left _ hn)))
    have each : ∀ i, i < len → ∃ zs : List AV, (∃ c, CellsA w c zs ∧ zs.length = k ∧ ∀ j u, c[j]? = some u → w.cell? (ad.add (i * k + j)) = some u) ∧ W zs := by
      intro i hi
      have h1 := hel' i hi
      have hi2 : i < elems.length := by omega
      rw [List.getElem?_eq_getElem hi2, Option.bind_eq_some_iff] at h1
      obtain ⟨cs', hcs, hy⟩ := h1
      obtain ⟨zs, hk1, hk2, hW⟩ := hel n cs' _ (by omega) hy (hle _ (List.mem_map_of_mem (List.getElem_mem hi2)))
      refine ⟨zs, ⟨cs', hk2, hk1, fun j u hu => ?_⟩, hW⟩
      have hcell := World.cells?_some hcs
      have hj : j < P.cellsOf e := by
        have := (List.getElem?_eq_some_iff.1 hu).1
        rw [hk2.1, hk1, ← hc] at this
        exact this
      have h3 := hcell.2.2 j hj
      rw [hu] at h3
      rw [hc] at h3
      rw [← h3]
      congr 1
      exact (Addr.add_add ad (i * k) j).symm
    obtain ⟨l, hll, hR⟩ := each_listA len _ each
    have hb2 : l.length * B ≤ 140737488351232 := by
      simp only [List.length_map] at hsz
      rw [hB] at hsz
      have h2 : reachBytes = 140737488351232 := by decide
      rw [h2] at hsz
      exact Nat.le_trans (Nat.mul_le_mul_right _ (by omega)) hsz
    refine ⟨[.isl false k l], rfl, ?_, l, rfl, fun row hrow => ?_, by omega, hb2⟩
    · match l, hll, hR with
      | [], hll, hR =>
        have h0 : len = 0 := by simpa using hll.symm
        subst h0
        exact cellsA_one (.isle _ _ _ _) rfl
      | y :: ys, hll, hR =>
        have hsp : ad.spot = none := by
          obtain ⟨⟨c, hcA, hcl, hcc⟩, _⟩ := hR 0 y rfl
          have h0 : 0 < c.length := by rw [hcA.1, hcl]; exact hk
          have := spot_none (hcc 0 c[0] (by simp [h0]))
          simpa [Addr.add] using this
        obtain ⟨bb, o, sp⟩ := ad
        simp only at hsp
        subst hsp
        have ea : ∀ i, Addr.add ⟨bb, o, none⟩ i = ⟨bb, o + i, none⟩ := fun i => by unfold Addr.add; split <;> simp_all
        have hcell : ∀ (i : Nat) row, (y :: ys)[i]? = some row → ∀ (j : Nat) a, row[j]? = some a → ∃ v, w.cell? ⟨bb, o + i * k + j, none⟩ = some v ∧ Rep (okW w) w G0 v a ∧ v.oneCell' = true := fun i row hi j a ha => by
          obtain ⟨⟨c, hcA, hcl, hcc⟩, _⟩ := hR i row hi
          have hj := (List.getElem?_eq_some_iff.1 ha).1
          have hj' : j < c.length := by rw [hcA.1]; exact hj
          have h1 := hcc j c[j] (by simp [hj'])
          rw [ea, ← Nat.add_assoc] at h1
          exact ⟨c[j], h1, hcA.2 j c[j] a (by simp [hj']) ha⟩
        refine cellsA_one (.isl _ false k _ len bb o cap (fun i j => (w.cell? ⟨bb, o + i * k + j, none⟩).getD default) (by omega) (by omega) (fun row hrow => ?_) (fun i row hi j hj => ?_) (fun i row hi j a ha => ?_)) rfl
        · obtain ⟨i, hi⟩ := List.getElem?_of_mem hrow
          obtain ⟨⟨c, hcA, hcl, hcc⟩, _⟩ := hR i row hi
          exact hcl
        · obtain ⟨v, h1, h2, h3⟩ := hcell i row hi j row[j] (by simp [hj])
          rw [h1]
          exact ⟨rfl, okW_of h1, h3⟩
        · obtain ⟨v, h1, h2, h3⟩ := hcell i row hi j a ha
          rw [h1]
          exact h2
    · obtain ⟨i, hi⟩ := List.getElem?_of_mem hrow
      obtain ⟨⟨c, hcA, hcl, hcc⟩, hW⟩ := hR i row hi
      exact ⟨hcl, hW⟩
theorem CellsA.append {cs cs' : List Value} {zs bs : List AV} (h : CellsA w cs zs) (h' : CellsA w cs' bs) : CellsA w (cs ++ cs') (zs ++ bs) := by
  refine ⟨by simp [h.1, h'.1], fun j v a hv ha => ?_⟩
  by_cases c : j < cs.length
  · rw [List.getElem?_append_left c] at hv
    rw [List.getElem?_append_left (by rw [← h.1]; exact c)] at ha
    exact h.2 j v a hv ha
  · rw [List.getElem?_append_right (by omega)] at hv
    rw [List.getElem?_append_right (by rw [← h.1]; omega), ← h.1] at ha
    exact h'.2 _ v a hv ha
end Go.Proofs.YthahgmncnbeddaaGreatDoorA
/- The told variables and the world's shape give what the walks ask. -/
set_option linter.unusedVariables false
set_option linter.unusedSimpArgs false
namespace Go.Proofs.YthahgmncnbeddaaGreatDoorA
open Go Go.RowKit Go.Proofs Go.Proofs.YthahgmncnbeddaaGreatDoor
theorem el_int : ElemT Tryz.prog 3 := .inl (.inl ⟨.i64, by kernel_rfl⟩)
theorem el_u8 : ElemT Tryz.prog 5 := .inl (.inl ⟨.u8, by kernel_rfl⟩)
theorem el_u64 : ElemT Tryz.prog 158 := .inl (.inl ⟨.u64, by kernel_rfl⟩)
theorem el_strs : ElemT Tryz.prog 59 := .inr ⟨9, by kernel_rfl, .inr (by kernel_rfl), by kernel_rfl⟩
theorem el_ints : ElemT Tryz.prog 47 := .inr ⟨3, by kernel_rfl, .inl ⟨.i64, by kernel_rfl⟩, by kernel_rfl⟩
def listD : DataW Unit → List (DataW Unit)
  | .agg ds => ds
  | _ => []
/-- The tables that the walks read. -/
structure ToldT (laid : List (String × DataW Unit)) : Prop where
  sym : ("ephemeris/rule.symbols", .agg (listD Rows.laid_ephemeris_rule_symbols)) ∈ laid
  fnd : ("ephemeris/rule.found", .agg (listD Rows.laid_ephemeris_rule_found)) ∈ laid
  kid : ("ephemeris/rule.kids", .agg (listD Rows.laid_ephemeris_rule_kids)) ∈ laid
  spc : ("strings.asciiSpace", .agg (listD Rows.laid_strings_asciiSpace)) ∈ laid
  pow : ("internal/strconv.uint64pow10", .agg (listD Rows.laid_internal_strconv_uint64pow10)) ∈ laid
theorem rowSym : (listD Rows.laid_ephemeris_rule_symbols).map avD = symT := by kernel_rfl
theorem rowFnd : (listD Rows.laid_ephemeris_rule_found).map avD = fndT := by kernel_rfl
theorem rowKid : (listD Rows.laid_ephemeris_rule_kids).map avD = kidT := by kernel_rfl
theorem rowSpc : (listD Rows.laid_strings_asciiSpace).map avD = Lib.asciiSpaceTab.map fun z => AV.i .u8 z := by kernel_rfl
theorem rowPow : (listD Rows.laid_internal_strconv_uint64pow10).map avD = Lib.pow10Tab.map fun z => AV.i .u64 z := by kernel_rfl
theorem max_of {W : World} (h : W.ShapedOpen Tryz.prog) : ∃ m, W.cell? ⟨6, 0, none⟩ = some (.int .i64 m) ∧ ∃ t, W.shape? 6 = some (t, 1) := by
  have h0 : ((begin Tryz.prog (fun _ _ => 0) default).world.heap[6]?).bind Obj.row? = some (#[.int .i64 0], 3) := by kernel_rfl
  obtain ⟨m, hm⟩ := cell_of_shapedOpen_int (k := .i64) h (of_decide_eq_true (by kernel_rfl)) h0 rfl (by kernel_rfl) (by kernel_rfl) (by kernel_rfl)
  obtain ⟨cs, hh, hs, _⟩ := h.1 _ _ _ (of_decide_eq_true (by kernel_rfl)) h0
  refine ⟨m, hm, 3, ?_⟩
  have hs1 : cs.size = 1 := hs
  simp [World.shape?, hh, hs1]
theorem globs_of {W : World} {laid : List (String × DataW Unit)} (hL : laidMet Tryz.prog laid W) (hT : ToldT laid) (hS : W.ShapedOpen Tryz.prog) : ∃ m, Globs (glT m) (okW W) W := by
  obtain ⟨m, hm, hsh⟩ := max_of hS
  refine ⟨m, fun g row hg => ?_⟩
  unfold glT at hg
  split at hg
  · rename_i q
    obtain rfl := Nat.eq_of_beq_eq_true q
    cases hg
    have := glob_of hL hT.sym (g := 3) (t := 175) (m := 8) (by kernel_rfl) (by kernel_rfl) (by kernel_rfl) el_strs (by kernel_rfl) (by kernel_rfl)
    rw [rowSym] at this
    exact this
  split at hg
  · rename_i q
    obtain rfl := Nat.eq_of_beq_eq_true q
    cases hg
    have := glob_of hL hT.fnd (g := 4) (t := 176) (m := 8) (by kernel_rfl) (by kernel_rfl) (by kernel_rfl) el_ints (by kernel_rfl) (by kernel_rfl)
    rw [rowFnd] at this
    exact this
  split at hg
  · rename_i q
    obtain rfl := Nat.eq_of_beq_eq_true q
    cases hg
    have := glob_of hL hT.kid (g := 5) (t := 177) (m := 14) (by kernel_rfl) (by kernel_rfl) (by kernel_rfl) el_int (by kernel_rfl) (by kernel_rfl)
    rw [rowKid] at this
    exact this
  split at hg
  · rename_i q
    obtain rfl := Nat.eq_of_beq_eq_true q
    cases hg
    refine ⟨Rep.ip _ [.i .i64 m] 0 _ 0 (fun _ => .int .i64 m) (fun j hj => ?_) (fun j a ha => ?_), hsh⟩
    · have : j = 0 := by simp at hj; omega
      subst this
      exact ⟨hm, okW_of hm, rfl⟩
    · cases j with
      | zero => cases ha; exact .i _ _ _
      | succ j => simp at ha
  split at hg
  · rename_i q
    obtain rfl := Nat.eq_of_beq_eq_true q
    cases hg
    have := glob_of hL hT.spc (g := 1) (t := 139) (m := 256) (by kernel_rfl) (by kernel_rfl) (by kernel_rfl) el_u8 (by kernel_rfl) (by kernel_rfl)
    rw [rowSpc] at this
    exact this
  split at hg
  · rename_i q
    obtain rfl := Nat.eq_of_beq_eq_true q
    cases hg
    have := glob_of hL hT.pow (g := 7) (t := 203) (m := 20) (by kernel_rfl) (by kernel_rfl) (by kernel_rfl) el_u64 (by kernel_rfl) (by kernel_rfl)
    rw [rowPow] at this
    exact this
  · cases hg
variable {H : Type} {enc : TypeId × Value → H}
/-- A row of the door, with the world's shape. -/
theorem handed {a : Assume} {C : Checked} {os : Os} {f : FuncId} {fn : Func} {s : ChangeSpec} {conds : List PathCond} {apart fresh handsOn again : Bool} {X : World → Array Value → Prop}
    (hX : ∀ (w w' : World) (args : Array Value), w.heap = w'.heap → X w args → X w' args)
    (own : ownKnob C.prog.godebug = none) (started : os.Started) (noInit : C.prog.inits.idxOf? f = none) (hfn : C.prog.funcs[f]? = some fn)
    (witness : ∃ (w : World) (tape : Tape) (i : Input), w.os = os ∧ (w.forCall tape i).Shaped C.prog ∧ i.vars = [] ∧ Input.okWide C.prog (w.forCall tape i) .any w.heap.size f i ∧
      ((s.pre enc C.prog fn conds apart (w.forCall tape i).memory i.args ∧ X (w.forCall tape i).memory i.args) ∧ sizedMet enc C.prog fn (OpenSpec.ofChange s) apart (w.forCall tape i).memory i.args) ∧ a.holds C.prog (lone (Frame.enter C.prog f i.args .normal) [] (w.forCall tape i)))
    (contract : ∀ (W : World) (base : Nat) (args : Array Value) (ds gs : List (DataW H)) (before : List MemPlace),
      (∀ (j : Nat) t v, fn.params[j]? = some t → args[j]? = some v → Value.okWide C.prog W .any base t v) →
      DataW.Whole enc C.prog fn.params.toList s.vars apart W args.toList ds gs before → X W args → W.ShapedOpen C.prog →
      Calls C.prog f args W fun e W' => ∃ v, e = .returned v ∧ s.post enc C.prog fn apart fresh handsOn again W args v W') :
    ReturnsInHanded a C os f .any (fun w args => (s.pre enc C.prog fn conds apart w args ∧ X w args) ∧ sizedMet enc C.prog fn (OpenSpec.ofChange s) apart w args) (s.post enc C.prog fn apart fresh handsOn again) := by
  refine returnsInHanded_of_calls own started noInit witness ?_
  intro w tape i _ hsh _ hok hpre hholds
  obtain ⟨_, _, _, fn', hfn', _, _, _, _, hval⟩ := hok
  have e : fn' = fn := Option.some.inj (hfn'.symm.trans hfn)
  subst e
  obtain ⟨⟨⟨ds, gs, before, hw, hc⟩, hx⟩, hz⟩ := hpre
  have hw' := DataW.Whole.of_heap (w' := w.forCall tape i) (by rfl) hw
  refine (contract (w.forCall tape i) w.heap.size i.args ds gs before hval hw' (hX _ _ _ (by rfl) hx) hsh).mono fun e W' ⟨v, he, hp⟩ => ?_
  subst he
  exact ChangeSpec.post_blind hp
end Go.Proofs.YthahgmncnbeddaaGreatDoorA
/- Arguments of a law that are structs or slices; a row of the door with the world's shape and the sizes. -/
set_option linter.unusedVariables false
set_option linter.unusedSimpArgs false
namespace Go.Proofs.YthahgmncnbeddaaGreatDoorA
open Go Go.RowKit Go.Proofs Go.WideShapes
section
variable {P : Program} {w : World} {H : Type} {enc : TypeId × Value → H} {base : Nat} {spare : Nat → Bool} {held : Bool} {t : TypeId} {v : Value} {x : DataW H} {ps : List MemPlace} {r : Reach} {b0 : Nat} {n : Nat} {W : List AV → Prop}
theorem light_of_rowA {ts : List TypeId} {ds : List (DataW H)} {t : TypeId} {d : DataW H} {j : Nat} (hsz : (DataW.weightsEach P ts ds).all (· ≤ reachBytes) = true) (ht : ts[j]? = some t) (hd : ds[j]? = some d) : LightA P t d := by
  intro n hn
  simpa using List.all_eq_true.1 hsz _ (DataW.weights_mem_each ht hd n hn)
theorem arg_struct {fs : Array Field} (ht : P.underlying t = some (.struct fs)) (h : OA P w t n W) (hok : Value.okWide P w r b0 t v) (hx : DataW.Trod enc P w base spare held t v x ps) (hl : LightA P t x) : ∃ zs, Rep (okW w) w G0 v (.agg zs) ∧ zs.length = n ∧ W zs := by
  obtain ⟨C, rfl, _⟩ := okWide_struct ht hok
  obtain ⟨fuel, hf⟩ := hx
  obtain ⟨zs, h1, h2, h3⟩ := h H enc base spare held fuel _ _ hf hl
  refine ⟨zs, .agg _ C zs (by simpa [Value.cells] using h2.1) (fun j u a hu ha => (h2.2 j u a (by simpa [Value.cells] using hu) ha).1), h1, h3⟩
theorem arg_slice {e : TypeId} {k B : Nat} (ht : P.underlying t = some (.slice e)) (h : OA P w t 1 (SlA k B W)) (hok : Value.okWide P w r b0 t v) (hx : DataW.Trod enc P w base spare held t v x ps) (hl : LightA P t x) :
    ∃ rows, Rep (okW w) w G0 v (.isl false k rows) ∧ (∀ row ∈ rows, row.length = k ∧ W row) ∧ rows.length ≤ maxLen ∧ rows.length * B ≤ 140737488351232 := by
  obtain ⟨A, len, cap, rfl⟩ := okWide_slice ht hok
  obtain ⟨fuel, hf⟩ := hx
  obtain ⟨zs, h1, h2, rows, rfl, h4, h5, h6⟩ := h H enc base spare held fuel _ _ hf hl
  exact ⟨rows, (h2.2 0 _ _ (by simp [Value.cells]) rfl).1, h4, h5, h6⟩
end
variable {H : Type} {enc : TypeId × Value → H}
/-- A row of the door, with the world's shape and the sizes. -/
theorem handed2 {a : Assume} {C : Checked} {os : Os} {f : FuncId} {fn : Func} {s : ChangeSpec} {conds : List PathCond} {apart fresh handsOn again : Bool} {X : World → Array Value → Prop}
    (hX : ∀ (w w' : World) (args : Array Value), w.heap = w'.heap → X w args → X w' args)
    (own : ownKnob C.prog.godebug = none) (started : os.Started) (noInit : C.prog.inits.idxOf? f = none) (hfn : C.prog.funcs[f]? = some fn)
    (witness : ∃ (w : World) (tape : Tape) (i : Input), w.os = os ∧ (w.forCall tape i).Shaped C.prog ∧ i.vars = [] ∧ Input.okWide C.prog (w.forCall tape i) .any w.heap.size f i ∧
      ((s.pre enc C.prog fn conds apart (w.forCall tape i).memory i.args ∧ X (w.forCall tape i).memory i.args) ∧ sizedMet enc C.prog fn (OpenSpec.ofChange s) apart (w.forCall tape i).memory i.args) ∧ a.holds C.prog (lone (Frame.enter C.prog f i.args .normal) [] (w.forCall tape i)))
    (contract : ∀ (W : World) (base : Nat) (args : Array Value) (ds gs : List (DataW H)) (before : List MemPlace),
      (∀ (j : Nat) t v, fn.params[j]? = some t → args[j]? = some v → Value.okWide C.prog W .any base t v) →
      DataW.Whole enc C.prog fn.params.toList s.vars apart W args.toList ds gs before → (DataW.weightsEach C.prog (fn.params.toList ++ s.plain.varTypes C.prog) (ds ++ gs)).all (· ≤ reachBytes) = true → X W args → W.ShapedOpen C.prog →
      Calls C.prog f args W fun e W' => ∃ v, e = .returned v ∧ s.post enc C.prog fn apart fresh handsOn again W args v W') :
    ReturnsInHanded a C os f .any (fun w args => (s.pre enc C.prog fn conds apart w args ∧ X w args) ∧ sizedMet enc C.prog fn (OpenSpec.ofChange s) apart w args) (s.post enc C.prog fn apart fresh handsOn again) := by
  refine returnsInHanded_of_calls own started noInit witness ?_
  intro w tape i _ hsh _ hok hpre hholds
  obtain ⟨_, _, _, fn', hfn', _, _, _, _, hval⟩ := hok
  have e : fn' = fn := Option.some.inj (hfn'.symm.trans hfn)
  subst e
  obtain ⟨⟨⟨ds, gs, before, hw, hc⟩, hx⟩, hz⟩ := hpre
  have hw' := DataW.Whole.of_heap (w' := w.forCall tape i) (by rfl) hw
  refine (contract (w.forCall tape i) w.heap.size i.args ds gs before hval hw' (hz.weights hw) (hX _ _ _ (by rfl) hx) hsh).mono fun e W' ⟨v, he, hp⟩ => ?_
  subst he
  exact ChangeSpec.post_blind hp
end Go.Proofs.YthahgmncnbeddaaGreatDoorA
/- The told variables with the table of package feast. -/
set_option linter.unusedVariables false
set_option linter.unusedSimpArgs false
namespace Go.Proofs.YthahgmncnbeddaaGreatDoorA
open Go Go.RowKit Go.Proofs Go.Proofs.YthahgmncnbeddaaGreatDoor
structure ToldF (laid : List (String × DataW Unit)) : Prop where
  t : ToldT laid
  kd : ("ephemeris/feast.kids", .agg (listD Rows.laid_ephemeris_feast_kids)) ∈ laid
theorem rowFkd : (listD Rows.laid_ephemeris_feast_kids).map avD = fkT := by kernel_rfl
theorem globs_ofF {W : World} {laid : List (String × DataW Unit)} (hL : laidMet Tryz.prog laid W) (hT : ToldF laid) (hS : W.ShapedOpen Tryz.prog) : ∃ m, Globs (glF m) (okW W) W := by
  obtain ⟨m, hm⟩ := globs_of hL hT.t hS
  refine ⟨m, fun g row hg => ?_⟩
  unfold glF at hg
  split at hg
  · rename_i q
    obtain rfl := Nat.eq_of_beq_eq_true q
    cases hg
    have := glob_of hL hT.kd (g := 0) (t := 85) (m := 13) (by kernel_rfl) (by kernel_rfl) (by kernel_rfl) el_int (by kernel_rfl) (by kernel_rfl)
    rw [rowFkd] at this
    exact this
  · exact hm g row hg
end Go.Proofs.YthahgmncnbeddaaGreatDoorA
