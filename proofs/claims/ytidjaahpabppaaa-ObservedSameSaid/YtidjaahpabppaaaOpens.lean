import Derived.Test.YtidjaahpabppaaaWWords
import Derived.ChangeArms
import Derived.ChangeSlices
import Derived.SizedLaws
import Derived.OpenShut
import Derived.DataElems
set_option linter.unusedVariables false
set_option linter.unusedSimpArgs false
/- What an argument of a law reads as, kind by kind: whole numbers, bools, strings, slices, structs of those, and structs that hold slices of themselves. -/
namespace Go.Proofs.YtidjaahpabppaaaOpens
open Go.ChangeShapes Go.WideShapes Go.RowKit Go.Proofs.YtidjaahpabppaaaW.PrintWords
def Light {H : Type} (P : Program) (t : TypeId) (d : DataW H) : Prop := ∀ n ∈ DataW.weights P t d, n ≤ reachBytes
/-- Whatever is read at type t is a value of the kind d, within the bounds W. -/
def Opens {α : Type} (P : Program) (w : World) (t : TypeId) (d : Kd α) (W : α → Prop) : Prop :=
  ∀ (H : Type) (enc : TypeId × Value → H) (base : Nat) (spare : Nat → Bool) (held : Bool) (fuel : Nat) (cs : List Value) (x : DataW H × List MemPlace),
    DataW.trod enc P w base spare held fuel t cs = some x → Light P t x.1 → ∃ a : α, d.K w a cs ∧ W a
theorem opens_int {P : Program} {w : World} {t : TypeId} {k : IntKind} (ht : P.underlying t = some (.int k)) : Opens P w t (Kd.int k) (fun n => (Lit.int k n).wf = true) := by
  intro H enc base spare held fuel cs x h _
  obtain ⟨n, rfl, rfl, hw⟩ := DataW.trod_int ht h
  exact ⟨n, rfl, hw⟩
theorem opens_bool {P : Program} {w : World} {t : TypeId} (ht : P.underlying t = some .bool) : Opens P w t Kd.bool (fun _ => True) := by
  intro H enc base spare held fuel cs x h _
  obtain ⟨n, rfl, rfl⟩ := DataW.trod_bool ht h
  exact ⟨n, rfl, trivial⟩
theorem opens_string {P : Program} {w : World} {t : TypeId} (ht : P.underlying t = some .string) : Opens P w t Kd.string (fun s => s.size ≤ 140737488351232) := by
  intro H enc base spare held fuel cs x h hl
  obtain ⟨s, rfl, rfl, _⟩ := DataW.trod_string ht h
  refine ⟨s, rfl, ?_⟩
  have := hl s.data.toList.length (by simp [DataW.weights])
  rw [Array.length_toList] at this
  exact this
theorem light_all {H : Type} {P : Program} {e : TypeId} {l : List (DataW H)} (h : ∀ n ∈ DataW.weightsAll P e l, n ≤ reachBytes) : ∀ d ∈ l, Light P e d := by
  induction l with
  | nil => intro d hd; cases hd
  | cons a r ih =>
    intro d hd
    have h1 : ∀ n ∈ DataW.weights P e a ++ DataW.weightsAll P e r, n ≤ reachBytes := by simpa [DataW.weightsAll] using h
    rcases List.mem_cons.1 hd with rfl | hd
    · exact fun n hn => h1 n (List.mem_append_left _ hn)
    · exact ih (fun n hn => h1 n (List.mem_append_right _ hn)) d hd
/-- A list of what each of n places holds. -/
theorem each_list {α : Type} (n : Nat) (R : Nat → α → Prop) (h : ∀ i, i < n → ∃ a, R i a) : ∃ l : List α, l.length = n ∧ ∀ j a, l[j]? = some a → R j a := by
  induction n with
  | zero => exact ⟨[], rfl, fun j a hj => by simp at hj⟩
  | succ n ih =>
    obtain ⟨l, hl, hr⟩ := ih (fun i hi => h i (by omega))
    obtain ⟨a, ha⟩ := h n (by omega)
    refine ⟨l ++ [a], by simp [hl], fun j b hj => ?_⟩
    by_cases c : j < n
    · rw [List.getElem?_append_left (by omega)] at hj
      exact hr j b hj
    · have hj2 := (List.getElem?_eq_some_iff.1 hj).1
      simp only [List.length_append, List.length_singleton, hl] at hj2
      obtain rfl : j = n := by omega
      rw [List.getElem?_append_right (by omega), hl, Nat.sub_self] at hj
      simp at hj
      subst hj
      exact ha
theorem slice_core {α : Type} {P : Program} {w : World} {t e : TypeId} {d : Kd α} {W : α → Prop} {B : Nat} (ht : P.underlying t = some (.slice e)) (hB : P.bytesOf e = B) (hc : P.cellsOf e = d.sz)
    {H : Type} {enc : TypeId × Value → H} {base : Nat} {spare : Nat → Bool} {held : Bool} {fuel : Nat} {cs : List Value} {x : DataW H × List MemPlace}
    (h : DataW.trod enc P w base spare held fuel t cs = some x) (hl : Light P t x.1)
    (hel : ∀ n cs' y, n < fuel → DataW.trod enc P w base spare held n e cs' = some y → Light P e y.1 → ∃ a : α, d.K w a cs' ∧ W a) :
    ∃ a : List α, (Kd.slice e d).K w a cs ∧ ((∀ x ∈ a, W x) ∧ a.length ≤ maxLen ∧ a.length * B ≤ 140737488351232) := by
  rcases DataW.trod_slice ht h with ⟨rfl, rfl⟩ | ⟨ad, len, cap, elems, rest, n, hfu, rfl, rfl, hb, hlc, hm, hlen, hel', _, _⟩
  · exact ⟨[], ⟨none, 0, rfl, Nat.le_refl _, rfl, by simp, fun h => absurd h (by simp)⟩, by simp, by simp, by simp⟩
  · have hw : (elems.map (·.1)).length + (rest.map (·.1)).length ≤ (elems.map (·.1)).length + (rest.map (·.1)).length := Nat.le_refl _
    have hl0 : ∀ n ∈ ((elems.map (·.1)).length + (rest.map (·.1)).length) * P.bytesOf e :: (DataW.weightsAll P e (elems.map (·.1)) ++ DataW.weightsAll P e (rest.map (·.1))), n ≤ reachBytes := by
      intro n hn
      exact hl n (by simpa [DataW.weights, ht] using hn)
    have hsz := hl0 _ List.mem_cons_self
    have hle := light_all (P := P) (e := e) (l := elems.map (·.1)) (fun n hn => hl0 n (List.mem_cons_of_mem _ (List.mem_append_left _ hn)))
    have each : ∀ i, i < len → ∃ a : α, (∃ c, c.length = d.sz ∧ d.K w a c ∧ ∀ j u, c[j]? = some u → w.cell? (ad.add (i * d.sz + j)) = some u) ∧ W a := by
      intro i hi
      have h1 := hel' i hi
      have hi2 : i < elems.length := by omega
      rw [List.getElem?_eq_getElem hi2, Option.bind_eq_some_iff] at h1
      obtain ⟨cs', hcs, hy⟩ := h1
      obtain ⟨a, hk, hW⟩ := hel n cs' _ (by omega) hy (hle _ (List.mem_map_of_mem (List.getElem_mem hi2)))
      refine ⟨a, ⟨cs', d.K_len hk, hk, fun j u hu => ?_⟩, hW⟩
      have hcell := World.cells?_some hcs
      have hj : j < P.cellsOf e := by
        have := (List.getElem?_eq_some_iff.1 hu).1
        rw [d.K_len hk, ← hc] at this
        exact this
      have h3 := hcell.2.2 j hj
      rw [hu] at h3
      rw [hc] at h3
      rw [← h3]
      congr 1
      exact (Addr.add_add ad (i * d.sz) j).symm
    obtain ⟨l, hll, hR⟩ := each_list len _ each
    refine ⟨l, ⟨some ad, cap, by rw [hll], by omega, rfl, ?_, fun _ => ⟨ad, rfl, fun j p hj => (hR j p hj).1⟩⟩, fun x hx => ?_, by omega, ?_⟩
    · unfold maxLen at hm; omega
    · obtain ⟨j, hj⟩ := List.getElem?_of_mem hx
      exact (hR j x hj).2
    · simp only [List.length_map] at hsz
      rw [hB] at hsz
      have h2 : reachBytes = 140737488351232 := by decide
      rw [h2] at hsz
      refine Nat.le_trans (Nat.mul_le_mul_right _ ?_) hsz
      omega
theorem opens_slice {α : Type} {P : Program} {w : World} {t e : TypeId} {d : Kd α} {W : α → Prop} {B : Nat} (ht : P.underlying t = some (.slice e)) (hB : P.bytesOf e = B) (hc : P.cellsOf e = d.sz) (he : Opens P w e d W) :
    Opens P w t (Kd.slice e d) (fun l => (∀ x ∈ l, W x) ∧ l.length ≤ maxLen ∧ l.length * B ≤ 140737488351232) := by
  intro H enc base spare held fuel cs x h hl
  exact slice_core ht hB hc h hl (fun n cs' y _ hy hly => he H enc base spare held n cs' y hy hly)
/-- A struct's fields from a place on. -/
def OpensF {α : Type} (P : Program) (w : World) (fs : List Field) (off : Nat) (d : Kd α) (W : α → Prop) : Prop :=
  ∀ (H : Type) (enc : TypeId × Value → H) (base : Nat) (spare : Nat → Bool) (held : Bool) (fuel : Nat) (cs : List Value) (xs : List (DataW H × List MemPlace)), off + d.sz ≤ cs.length →
    xs.length = fs.length → (∀ (i : Nat) (f : Field), fs[i]? = some f → DataW.trod enc P w base spare held fuel f.type ((cs.drop f.offset).take (P.cellsOf f.type)) = xs[i]?) →
    (∀ n ∈ DataW.weightsEach P (fs.map (·.type)) (xs.map (·.1)), n ≤ reachBytes) → ∃ a : α, d.K w a ((cs.drop off).take d.sz) ∧ W a
theorem opensF_one {α : Type} {P : Program} {w : World} {f : Field} {off : Nat} {d : Kd α} {W : α → Prop} (ho : f.offset = off) (hc : P.cellsOf f.type = d.sz) (h : Opens P w f.type d W) : OpensF P w [f] off d W := by
  intro H enc base spare held fuel cs xs hlen hl ht hw
  match xs, hl with
  | [x], _ =>
    have h1 := ht 0 f rfl
    simp only [List.getElem?_cons_zero] at h1
    rw [ho, hc] at h1
    exact h H enc base spare held fuel _ x h1 (fun n hn => hw n (by simpa [DataW.weightsEach] using hn))
/-- Both. -/
def And2 {α β : Type} (W : α → Prop) (W' : β → Prop) : α × β → Prop := fun p => W p.1 ∧ W' p.2
theorem opensF_cons {α β : Type} {P : Program} {w : World} {f : Field} {fs : List Field} {off off' : Nat} {d : Kd α} {d' : Kd β} {W : α → Prop} {W' : β → Prop} (ho : f.offset = off) (hc : P.cellsOf f.type = d.sz) (ho' : off' = off + d.sz)
    (h : Opens P w f.type d W) (h' : OpensF P w fs off' d' W') : OpensF P w (f :: fs) off (Kd.pair d d') (And2 W W') := by
  intro H enc base spare held fuel cs xs hlen hl ht hw
  have hlen2 : off + (d.sz + d'.sz) ≤ cs.length := hlen
  match xs, hl with
  | x :: xs, hl =>
    have h1 := ht 0 f rfl
    simp only [List.getElem?_cons_zero] at h1
    rw [ho, hc] at h1
    have hw' : ∀ n ∈ DataW.weights P f.type x.1 ++ DataW.weightsEach P (fs.map (·.type)) (xs.map (·.1)), n ≤ reachBytes := fun n hn => hw n (by simpa [DataW.weightsEach] using hn)
    obtain ⟨a, ka, wa⟩ := h H enc base spare held fuel _ x h1 (fun n hn => hw' n (List.mem_append_left _ hn))
    obtain ⟨b, kb, wb⟩ := h' H enc base spare held fuel cs xs (by omega) (by simpa using hl) (fun i g hg => by have := ht (i + 1) g (by simpa using hg); simpa using this) (fun n hn => hw' n (List.mem_append_right _ hn))
    refine ⟨(a, b), ⟨_, _, ?_, ka, kb⟩, wa, wb⟩
    show (cs.drop off).take (d.sz + d'.sz) = _
    rw [List.take_add, List.drop_drop, ho']
theorem opens_struct {α β : Type} {P : Program} {w : World} {t : TypeId} {fs : Array Field} {d : Kd α} {W : α → Prop} {f : β → α} (g : α → β) (hfg : ∀ a, f (g a) = a) (ht : P.underlying t = some (.struct fs)) (hc : P.cellsOf t = d.sz) (h : OpensF P w fs.toList 0 d W) :
    Opens P w t (Kd.iso d f) (fun b => W (f b)) := by
  intro H enc base spare held fuel cs x hx hl
  obtain ⟨xs, n, _, rfl, hlen, hlx, hf⟩ := DataW.trod_struct ht hx
  obtain ⟨a, ka, wa⟩ := h H enc base spare held n cs xs (by omega) (by simpa using hlx) (fun i f hi => hf i f (by simpa using hi)) (fun n hn => hl n (by simpa [DataW.weights, ht] using hn))
  refine ⟨g a, ?_, by show W (f (g a)); rw [hfg]; exact wa⟩
  show d.K w (f (g a)) cs
  rw [hfg]
  rw [List.drop_zero, ← hc, ← hlen, List.take_length] at ka
  exact ka
/-- An argument of a law: its datum is light, since the row says so. -/
theorem light_of_row {H : Type} {P : Program} {ts : List TypeId} {ds : List (DataW H)} {t : TypeId} {d : DataW H} {j : Nat} (hsz : (DataW.weightsEach P ts ds).all (· ≤ reachBytes) = true) (ht : ts[j]? = some t) (hd : ds[j]? = some d) : Light P t d := by
  intro n hn
  simpa using List.all_eq_true.1 hsz _ (DataW.weights_mem_each ht hd n hn)
theorem opens_arg {α : Type} {P : Program} {w : World} {t : TypeId} {d : Kd α} {W : α → Prop} (h : Opens P w t d W) {H : Type} {enc : TypeId × Value → H} {base : Nat} {spare : Nat → Bool} {held : Bool} {v : Value} {x : DataW H} {ps : List MemPlace}
    (hx : DataW.Trod enc P w base spare held t v x ps) (hl : Light P t x) : ∃ a : α, d.K w a v.cells.toList ∧ W a := by
  obtain ⟨fuel, hf⟩ := hx
  exact h H enc base spare held fuel _ _ hf hl
end Go.Proofs.YtidjaahpabppaaaOpens
