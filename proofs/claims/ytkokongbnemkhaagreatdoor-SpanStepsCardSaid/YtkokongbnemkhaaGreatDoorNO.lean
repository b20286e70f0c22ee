/- What an argument of a law reads zs, in plain values. -/
import Derived.Test.YtkokongbnemkhaaGreatDoorPG1
import Derived.ChangeSlices
import Derived.SizedLaws
import Derived.DataElems
import Derived.Test.YtkokongbnemkhaaGreatDoorPG2
import Derived.WideShapes
import Derived.Carry
import Derived.Test.YtkokongbnemkhaaGreatDoorNA
set_option linter.unusedVariables false
set_option linter.unusedSimpArgs false
namespace Go.Proofs.YtkokongbnemkhaaGreatDoorA
open Go Go.RowKit Go.Proofs
def LightA {H : Type} (P : Program) (t : TypeId) (d : DataW H) : Prop := ∀ n ∈ DataW.weights P t d, n ≤ reachBytes
/-- Cells read zs plain values of one cell each. -/
def CellsA (w : World) (cs : List Value) (zs : List AV) : Prop := cs.length = zs.length ∧ ∀ (j : Nat) v a, cs[j]? = some v → zs[j]? = some a → Rep (okW w) w G0 v a ∧ v.oneCell' = true
/-- Whatever is read at type t reads zs n plain values of the kind W. -/
def OA (P : Program) (w : World) (t : TypeId) (n : Nat) (W : List AV → Prop) : Prop :=
  ∀ (H : Type) (enc : TypeId × Value → H) (base : Nat) (spare : Nat → Bool) (held : Bool) (fuel : Nat) (cs : List Value) (x : DataW H × List MemPlace),
    DataW.trod enc P w base spare held fuel t cs = some x → LightA P t x.1 → ∃ zs, zs.length = n ∧ CellsA w cs zs ∧ W zs
variable {P : Program} {w : World}
theorem cellsA_one {v : Value} {a : AV} (r : Rep (okW w) w G0 v a) (o : v.oneCell' = true) : CellsA w [v] [a] :=
  ⟨rfl, fun j u b hu hb => by
    cases j with
    | zero => cases hu; cases hb; exact ⟨r, o⟩
    | succ j => simp at hu⟩
theorem oa_int {t : TypeId} {k : IntKind} (ht : P.underlying t = some (.int k)) : OA P w t 1 (fun zs => ∃ n, zs = [.i k n] ∧ (Lit.int k n).wf = true) := by
  intro H enc base spare held fuel cs x h _
  obtain ⟨n, rfl, rfl, hw⟩ := DataW.trod_int ht h
  exact ⟨[.i k n], rfl, cellsA_one (.i _ _ _) rfl, n, rfl, hw⟩
theorem oa_bool {t : TypeId} (ht : P.underlying t = some .bool) : OA P w t 1 (fun zs => ∃ b, zs = [.b b]) := by
  intro H enc base spare held fuel cs x h _
  obtain ⟨n, rfl, rfl⟩ := DataW.trod_bool ht h
  exact ⟨[.b n], rfl, cellsA_one (.b _ _) rfl, n, rfl⟩
theorem oa_string {t : TypeId} (ht : P.underlying t = some .string) : OA P w t 1 (fun zs => ∃ s, zs = [.s s] ∧ s.length ≤ 140737488351232) := by
  intro H enc base spare held fuel cs x h hl
  obtain ⟨s, rfl, rfl, _⟩ := DataW.trod_string ht h
  refine ⟨[.s s.data.toList], rfl, cellsA_one (.s _ _) rfl, _, rfl, ?_⟩
  have := hl s.data.toList.length (by simp [DataW.weights])
  have e : reachBytes = 140737488351232 := by decide
  omega
theorem lightA_all {H : Type} {e : TypeId} {l : List (DataW H)} (h : ∀ n ∈ DataW.weightsAll P e l, n ≤ reachBytes) : ∀ d ∈ l, LightA P e d := by
  induction l with
  | nil => intro d hd; cases hd
  | cons a r ih =>
    intro d hd
    have h1 : ∀ n ∈ DataW.weights P e a ++ DataW.weightsAll P e r, n ≤ reachBytes := by simpa [DataW.weightsAll] using h
    rcases List.mem_cons.1 hd with rfl | hd
    · exact fun n hn => h1 n (List.mem_append_left _ hn)
    · exact ih (fun n hn => h1 n (List.mem_append_right _ hn)) d hd
theorem each_listA {α : Type} (n : Nat) (R : Nat → α → Prop) (h : ∀ i, i < n → ∃ a, R i a) : ∃ l : List α, l.length = n ∧ ∀ j a, l[j]? = some a → R j a := by
  induction n with
  | zero => exact ⟨[], rfl, fun j a hj => by simp at hj⟩
  | succ n ih =>
    obtain ⟨l, hl, hr⟩ := ih (fun i hi => h i (by omega))
    obtain ⟨a, ha⟩ := h n (by omega)
    refine ⟨l ++ [a], by simp [hl], fun j b hj => ?_⟩
    by_cases c : j < n
    · rw [List.getElem?_append_left (by omega)] at hj
      exact hr j b hj
    · have hj2 := (List.getElem?_eq_some_iff.1 hj).1
      simp only [List.length_append, List.length_singleton, hl] at hj2
      obtain rfl : j = n := by omega
      rw [List.getElem?_append_right (by omega), hl, Nat.sub_self] at hj
      simp at hj
      subst hj
      exact ha
/-- What a slice reads zs. -/
def SlA (k B : Nat) (W : List AV → Prop) (zs : List AV) : Prop := ∃ rows, zs = [.isl false k rows] ∧ (∀ row ∈ rows, row.length = k ∧ W row) ∧ rows.length ≤ maxLen ∧ rows.length * B ≤ 140737488351232
theorem slice_coreA {t e : TypeId} {k B : Nat} {W : List AV → Prop} (ht : P.underlying t = some (.slice e)) (hB : P.bytesOf e = B) (hc : P.cellsOf e = k) (hk : 0 < k)
    {H : Type} {enc : TypeId × Value → H} {base : Nat} {spare : Nat → Bool} {held : Bool} {fuel : Nat} {cs : List Value} {x : DataW H × List MemPlace}
    (h : DataW.trod enc P w base spare held fuel t cs = some x) (hl : LightA P t x.1)
    (hel : ∀ n cs' y, n < fuel → DataW.trod enc P w base spare held n e cs' = some y → LightA P e y.1 → ∃ zs, zs.length = k ∧ CellsA w cs' zs ∧ W zs) :
    ∃ zs, zs.length = 1 ∧ CellsA w cs zs ∧ SlA k B W zs := by
  rcases DataW.trod_slice ht h with ⟨rfl, rfl⟩ | ⟨ad, len, cap, elems, rest, n, hfu, rfl, rfl, hb, hlc, hm, hlen, hel', _, _⟩
  · exact ⟨[.isl false k []], rfl, cellsA_one (.isln _ _) rfl, [], rfl, by simp, by simp, by simp⟩
  · have hl0 : ∀ n ∈ ((elems.map (·.1)).length + (rest.map (·.1)).length) * P.bytesOf e :: (DataW.weightsAll P e (elems.map (·.1)) ++ DataW.weightsAll P e (rest.map (·.1))), n ≤ reachBytes := by
      intro n hn
      exact hl n (by simpa [DataW.weights, ht] using hn)
    have hsz := hl0 _ List.mem_cons_self
    have hle := lightA_all (P := P) (e := e) (l := elems.map (·.1)) (fun n hn => hl0 n (List.mem_cons_of_mem _ (List.mem_append_left _ hn)))
    have each : ∀ i, i < len → ∃ zs : List AV, (∃ c, CellsA w c zs ∧ zs.length = k ∧ ∀ j u, c[j]? = some u → w.cell? (ad.add (i * k + j)) = some u) ∧ W zs := by
      intro i hi
      have h1 := hel' i hi
      have hi2 : i < elems.length := by omega
      rw [List.getElem?_eq_getElem hi2, Option.bind_eq_some_iff] at h1
      obtain ⟨cs', hcs, hy⟩ := h1
      obtain ⟨zs, hk1, hk2, hW⟩ := hel n cs' _ (by omega) hy (hle _ (List.mem_map_of_mem (List.getElem_mem hi2)))
      refine ⟨zs, ⟨cs', hk2, hk1, fun j u hu => ?_⟩, hW⟩
      have hcell := World.cells?_some hcs
      have hj : j < P.cellsOf e := by
        have := (List.getElem?_eq_some_iff.1 hu).1
        rw [hk2.1, hk1, ← hc] at this
        exact this
      have h3 := hcell.2.2 j hj
      rw [hu] at h3
      rw [hc] at h3
      rw [← h3]
      congr 1
      exact (Addr.add_add ad (i * k) j).symm
    obtain ⟨l, hll, hR⟩ := each_listA len _ each
    have hb2 : l.length * B ≤ 140737488351232 := by
      simp only [List.length_map] at hsz
      rw [hB] at hsz
      have h2 : reachBytes = 140737488351232 := by decide
      rw [h2] at hsz
      exact Nat.le_trans (Nat.mul_le_mul_right _ (by omega)) hsz
    refine ⟨[.isl false k l], rfl, ?_, l, rfl, fun row hrow => ?_, by omega, hb2⟩
    · match l, hll, hR with
      | [], hll, hR =>
        have h0 : len = 0 := by simpa using hll.symm
        subst h0
        exact cellsA_one (.isle _ _ _ _) rfl
      | y :: ys, hll, hR =>
        have hsp : ad.spot = none := by
          obtain ⟨⟨c, hcA, hcl, hcc⟩, _⟩ := hR 0 y rfl
          have h0 : 0 < c.length := by rw [hcA.1, hcl]; exact hk
          have := spot_none (hcc 0 c[0] (by simp [h0]))
          simpa [Addr.add] using this
        obtain ⟨bb, o, sp⟩ := ad
        simp only at hsp
        subst hsp
        have ea : ∀ i, Addr.add ⟨bb, o, none⟩ i = ⟨bb, o + i, none⟩ := fun i => by unfold Addr.add; split <;> simp_all
        have hcell : ∀ (i : Nat) row, (y :: ys)[i]? = some row → ∀ (j : Nat) a, row[j]? = some a → ∃ v, w.cell? ⟨bb, o + i * k + j, none⟩ = some v ∧ Rep (okW w) w G0 v a ∧ v.oneCell' = true := fun i row hi j a ha => by
          obtain ⟨⟨c, hcA, hcl, hcc⟩, _⟩ := hR i row hi
          have hj := (List.getElem?_eq_some_iff.1 ha).1
          have hj' : j < c.length := by rw [hcA.1]; exact hj
          have h1 := hcc j c[j] (by simp [hj'])
          rw [ea, ← Nat.add_assoc] at h1
          exact ⟨c[j], h1, hcA.2 j c[j] a (by simp [hj']) ha⟩
        refine cellsA_one (.isl _ false k _ len bb o cap (fun i j => (w.cell? ⟨bb, o + i * k + j, none⟩).getD default) (by omega) (by omega) (fun row hrow => ?_) (fun i row hi j hj => ?_) (fun i row hi j a ha => ?_)) rfl
        · obtain ⟨i, hi⟩ := List.getElem?_of_mem hrow
          obtain ⟨⟨c, hcA, hcl, hcc⟩, _⟩ := hR i row hi
          exact hcl
        · obtain ⟨v, h1, h2, h3⟩ := hcell i row hi j row[j] (by simp [hj])
          rw [h1]
          exact ⟨rfl, okW_of h1, h3⟩
        · obtain ⟨v, h1, h2, h3⟩ := hcell i row hi j a ha
          rw [h1]
          exact h2
    · obtain ⟨i, hi⟩ := List.getElem?_of_mem hrow
      obtain ⟨⟨c, hcA, hcl, hcc⟩, hW⟩ := hR i row hi
      exact ⟨hcl, hW⟩
theorem oa_slice {t e : TypeId} {k B : Nat} {W : List AV → Prop} (ht : P.underlying t = some (.slice e)) (hB : P.bytesOf e = B) (hc : P.cellsOf e = k) (hk : 0 < k) (he : OA P w e k W) : OA P w t 1 (SlA k B W) := by
  intro H enc base spare held fuel cs x h hl
  exact slice_coreA ht hB hc hk h hl (fun n cs' y _ hy hly => he H enc base spare held n cs' y hy hly)
/-- A struct's fields from a place on. -/
def OAF (P : Program) (w : World) (fs : List Field) (off n : Nat) (W : List AV → Prop) : Prop :=
  ∀ (H : Type) (enc : TypeId × Value → H) (base : Nat) (spare : Nat → Bool) (held : Bool) (fuel : Nat) (cs : List Value) (xs : List (DataW H × List MemPlace)), off + n ≤ cs.length →
    xs.length = fs.length → (∀ (i : Nat) (f : Field), fs[i]? = some f → DataW.trod enc P w base spare held fuel f.type ((cs.drop f.offset).take (P.cellsOf f.type)) = xs[i]?) →
    (∀ n ∈ DataW.weightsEach P (fs.map (·.type)) (xs.map (·.1)), n ≤ reachBytes) → ∃ zs, zs.length = n ∧ CellsA w ((cs.drop off).take n) zs ∧ W zs
theorem oaF_one {f : Field} {off n : Nat} {W : List AV → Prop} (ho : f.offset = off) (hc : P.cellsOf f.type = n) (h : OA P w f.type n W) : OAF P w [f] off n W := by
  intro H enc base spare held fuel cs xs hlen hl ht hw
  match xs, hl with
  | [x], _ =>
    have h1 := ht 0 f rfl
    simp only [List.getElem?_cons_zero] at h1
    rw [ho, hc] at h1
    exact h H enc base spare held fuel _ x h1 (fun n hn => hw n (by simpa [DataW.weightsEach] using hn))
/-- Both, one behind the other. -/
def Cat (n : Nat) (W W' : List AV → Prop) (zs : List AV) : Prop := ∃ a b, zs = a ++ b ∧ a.length = n ∧ W a ∧ W' b
theorem CellsA.append {cs cs' : List Value} {zs bs : List AV} (h : CellsA w cs zs) (h' : CellsA w cs' bs) : CellsA w (cs ++ cs') (zs ++ bs) := by
  refine ⟨by simp [h.1, h'.1], fun j v a hv ha => ?_⟩
  by_cases c : j < cs.length
  · rw [List.getElem?_append_left c] at hv
    rw [List.getElem?_append_left (by rw [← h.1]; exact c)] at ha
    exact h.2 j v a hv ha
  · rw [List.getElem?_append_right (by omega)] at hv
    rw [List.getElem?_append_right (by rw [← h.1]; omega), ← h.1] at ha
    exact h'.2 _ v a hv ha
theorem oaF_cons {f : Field} {fs : List Field} {off off' n n' : Nat} {W W' : List AV → Prop} (ho : f.offset = off) (hc : P.cellsOf f.type = n) (ho' : off' = off + n)
    (h : OA P w f.type n W) (h' : OAF P w fs off' n' W') : OAF P w (f :: fs) off (n + n') (Cat n W W') := by
  intro H enc base spare held fuel cs xs hlen hl ht hw
  match xs, hl with
  | x :: xs, hl =>
    have h1 := ht 0 f rfl
    simp only [List.getElem?_cons_zero] at h1
    rw [ho, hc] at h1
    have hw' : ∀ n ∈ DataW.weights P f.type x.1 ++ DataW.weightsEach P (fs.map (·.type)) (xs.map (·.1)), n ≤ reachBytes := fun n hn => hw n (by simpa [DataW.weightsEach] using hn)
    obtain ⟨a, la, ka, wa⟩ := h H enc base spare held fuel _ x h1 (fun n hn => hw' n (List.mem_append_left _ hn))
    obtain ⟨b, lb, kb, wb⟩ := h' H enc base spare held fuel cs xs (by omega) (by simpa using hl) (fun i g hg => by have := ht (i + 1) g (by simpa using hg); simpa using this) (fun n hn => hw' n (List.mem_append_right _ hn))
    refine ⟨a ++ b, by simp [la, lb], ?_, a, b, rfl, la, wa, wb⟩
    rw [List.take_add, List.drop_drop, ← ho']
    exact ka.append kb
theorem oa_struct {t : TypeId} {fs : Array Field} {n : Nat} {W : List AV → Prop} (ht : P.underlying t = some (.struct fs)) (hc : P.cellsOf t = n) (h : OAF P w fs.toList 0 n W) : OA P w t n W := by
  intro H enc base spare held fuel cs x hx hl
  obtain ⟨xs, k, _, rfl, hlen, hlx, hf⟩ := DataW.trod_struct ht hx
  obtain ⟨zs, la, ka, wa⟩ := h H enc base spare held k cs xs (by omega) (by simpa using hlx) (fun i f hi => hf i f (by simpa using hi)) (fun n hn => hl n (by simpa [DataW.weights, ht] using hn))
  refine ⟨zs, la, ?_, wa⟩
  rw [List.drop_zero, ← hc, ← hlen, List.take_length] at ka
  exact ka
end Go.Proofs.YtkokongbnemkhaaGreatDoorA
/- Arguments of a law that are structs or slices; a row of the door with the world's shape and the sizes. -/
set_option linter.unusedVariables false
set_option linter.unusedSimpArgs false
namespace Go.Proofs.YtkokongbnemkhaaGreatDoorA
open Go Go.RowKit Go.Proofs Go.WideShapes
section
variable {P : Program} {w : World} {H : Type} {enc : TypeId × Value → H} {base : Nat} {spare : Nat → Bool} {held : Bool} {t : TypeId} {v : Value} {x : DataW H} {ps : List MemPlace} {r : Reach} {b0 : Nat} {n : Nat} {W : List AV → Prop}
theorem light_of_rowA {ts : List TypeId} {ds : List (DataW H)} {t : TypeId} {d : DataW H} {j : Nat} (hsz : (DataW.weightsEach P ts ds).all (· ≤ reachBytes) = true) (ht : ts[j]? = some t) (hd : ds[j]? = some d) : LightA P t d := by
  intro n hn
  simpa using List.all_eq_true.1 hsz _ (DataW.weights_mem_each ht hd n hn)
theorem arg_struct {fs : Array Field} (ht : P.underlying t = some (.struct fs)) (h : OA P w t n W) (hok : Value.okWide P w r b0 t v) (hx : DataW.Trod enc P w base spare held t v x ps) (hl : LightA P t x) : ∃ zs, Rep (okW w) w G0 v (.agg zs) ∧ zs.length = n ∧ W zs := by
  obtain ⟨C, rfl, _⟩ := okWide_struct ht hok
  obtain ⟨fuel, hf⟩ := hx
  obtain ⟨zs, h1, h2, h3⟩ := h H enc base spare held fuel _ _ hf hl
  refine ⟨zs, .agg _ C zs (by simpa [Value.cells] using h2.1) (fun j u a hu ha => (h2.2 j u a (by simpa [Value.cells] using hu) ha).1), h1, h3⟩
theorem arg_slice {e : TypeId} {k B : Nat} (ht : P.underlying t = some (.slice e)) (h : OA P w t 1 (SlA k B W)) (hok : Value.okWide P w r b0 t v) (hx : DataW.Trod enc P w base spare held t v x ps) (hl : LightA P t x) :
    ∃ rows, Rep (okW w) w G0 v (.isl false k rows) ∧ (∀ row ∈ rows, row.length = k ∧ W row) ∧ rows.length ≤ maxLen ∧ rows.length * B ≤ 140737488351232 := by
  obtain ⟨A, len, cap, rfl⟩ := okWide_slice ht hok
  obtain ⟨fuel, hf⟩ := hx
  obtain ⟨zs, h1, h2, rows, rfl, h4, h5, h6⟩ := h H enc base spare held fuel _ _ hf hl
  exact ⟨rows, (h2.2 0 _ _ (by simp [Value.cells]) rfl).1, h4, h5, h6⟩
theorem arg_string (ht : P.underlying t = some .string) (hok : Value.okWide P w r b0 t v) (hx : DataW.Trod enc P w base spare held t v x ps) (hl : LightA P t x) : ∃ s, Rep (okW w) w G0 v (.s s) ∧ s.length ≤ 140737488351232 := by
  obtain ⟨s, rfl⟩ := okWide_string ht hok
  obtain ⟨fuel, hf⟩ := hx
  obtain ⟨zs, h1, h2, s', rfl, h4⟩ := oa_string (w := w) ht H enc base spare held fuel _ _ hf hl
  exact ⟨s', (h2.2 0 _ _ (by simp [Value.cells]) rfl).1, h4⟩
end
variable {H : Type} {enc : TypeId × Value → H}
/-- A row of the door, with the world's shape and the sizes. -/
theorem handed2 {a : Assume} {C : Checked} {os : Os} {f : FuncId} {fn : Func} {s : ChangeSpec} {conds : List PathCond} {apart fresh handsOn again : Bool} {X : World → Array Value → Prop}
    (hX : ∀ (w w' : World) (args : Array Value), w.heap = w'.heap → X w args → X w' args)
    (own : ownKnob C.prog.godebug = none) (started : os.Started) (noInit : C.prog.inits.idxOf? f = none) (hfn : C.prog.funcs[f]? = some fn)
    (witness : ∃ (w : World) (tape : Tape) (i : Input), w.os = os ∧ (w.forCall tape i).Shaped C.prog ∧ i.vars = [] ∧ Input.okWide C.prog (w.forCall tape i) .any w.heap.size f i ∧
      ((s.pre enc C.prog fn conds apart (w.forCall tape i).memory i.args ∧ X (w.forCall tape i).memory i.args) ∧ sizedMet enc C.prog fn (OpenSpec.ofChange s) apart (w.forCall tape i).memory i.args) ∧ a.holds C.prog (lone (Frame.enter C.prog f i.args .normal) [] (w.forCall tape i)))
    (contract : ∀ (W : World) (base : Nat) (args : Array Value) (ds gs : List (DataW H)) (before : List MemPlace),
      (∀ (j : Nat) t v, fn.params[j]? = some t → args[j]? = some v → Value.okWide C.prog W .any base t v) →
      DataW.Whole enc C.prog fn.params.toList s.vars apart W args.toList ds gs before → (DataW.weightsEach C.prog (fn.params.toList ++ s.plain.varTypes C.prog) (ds ++ gs)).all (· ≤ reachBytes) = true → X W args → W.ShapedOpen C.prog →
      Calls C.prog f args W fun e W' => ∃ v, e = .returned v ∧ s.post enc C.prog fn apart fresh handsOn again W args v W') :
    ReturnsInHanded a C os f .any (fun w args => (s.pre enc C.prog fn conds apart w args ∧ X w args) ∧ sizedMet enc C.prog fn (OpenSpec.ofChange s) apart w args) (s.post enc C.prog fn apart fresh handsOn again) := by
  refine returnsInHanded_of_calls own started noInit witness ?_
  intro w tape i _ hsh _ hok hpre hholds
  obtain ⟨_, _, _, fn', hfn', _, _, _, _, hval⟩ := hok
  have e : fn' = fn := Option.some.inj (hfn'.symm.trans hfn)
  subst e
  obtain ⟨⟨⟨ds, gs, before, hw, hc⟩, hx⟩, hz⟩ := hpre
  have hw' := DataW.Whole.of_heap (w' := w.forCall tape i) (by rfl) hw
  refine (contract (w.forCall tape i) w.heap.size i.args ds gs before hval hw' (hz.weights hw) (hX _ _ _ (by rfl) hx) hsh).mono fun e W' ⟨v, he, hp⟩ => ?_
  subst he
  exact ChangeSpec.post_blind hp
end Go.Proofs.YtkokongbnemkhaaGreatDoorA
/- Reforms, reigns and durations as arguments. -/
set_option linter.unusedVariables false
set_option linter.unusedSimpArgs false
namespace Go.Proofs.YtkokongbnemkhaaGreatDoorA
open Go Go.RowKit Go.Proofs
variable {w : World}
theorem rows_map {α : Type} {g : α → List AV} {Q : α → Prop} : ∀ {rows : List (List AV)}, (∀ row ∈ rows, ∃ a, row = g a ∧ Q a) → ∃ l : List α, rows = l.map g ∧ ∀ a ∈ l, Q a
  | [], _ => ⟨[], rfl, by simp⟩
  | row :: rows, h => by
    obtain ⟨a, rfl, ha⟩ := h row (List.mem_cons_self ..)
    obtain ⟨l, rfl, hl⟩ := rows_map (fun r hr => h r (List.mem_cons_of_mem _ hr))
    exact ⟨a :: l, rfl, fun b hb => by rcases List.mem_cons.1 hb with rfl | hb; exact ha; exact hl b hb⟩
def IntW (zs : List AV) : Prop := ∃ n, zs = [.i .i64 n] ∧ (Lit.int .i64 n).wf = true
def StrW (zs : List AV) : Prop := ∃ s, zs = [.s s] ∧ s.length ≤ 140737488351232
theorem oaInt : OA Tryz.prog w 3 1 IntW := oa_int (by kernel_rfl)
theorem oaStr : OA Tryz.prog w 9 1 StrW := oa_string (by kernel_rfl)
theorem oaPart : OA Tryz.prog w 26 2 (Cat 1 IntW StrW) :=
  oa_struct Tryz.underlying26 (by kernel_rfl) (oaF_cons (n := 1) (n' := 1) (off' := 1) rfl (by kernel_rfl) rfl oaInt (oaF_one rfl (by kernel_rfl) oaStr))
theorem oaReform : OA Tryz.prog w 24 2 (Cat 1 StrW (SlA 2 24 (Cat 1 IntW StrW))) :=
  oa_struct Tryz.underlying24 (by kernel_rfl) (oaF_cons (n := 1) (n' := 1) (off' := 1) rfl (by kernel_rfl) rfl oaStr (oaF_one rfl (by kernel_rfl) (oa_slice (e := 26) (by kernel_rfl) (by kernel_rfl) (by kernel_rfl) (by decide) oaPart)))
theorem ref_of {zs : List AV} (h : Cat 1 StrW (SlA 2 24 (Cat 1 IntW StrW)) zs) : ∃ r : Ref, AV.agg zs = r.A ∧ r.nm.length ≤ 140737488351232 ∧ (∀ p ∈ r.ps, p.2.length ≤ 140737488351232) ∧ r.ps.length * 24 ≤ 140737488351232 := by
  obtain ⟨a, b, rfl, _, ⟨s, rfl, hs⟩, rows, rfl, hr, _, hl⟩ := h
  obtain ⟨ps, rfl, hp⟩ := rows_map (α := Int × List UInt8) (g := fun p => [.i .i64 p.1, .s p.2]) (Q := fun p => p.2.length ≤ 140737488351232) (rows := rows) (fun row hrow => by
    obtain ⟨_, a, b, rfl, _, ⟨n, rfl, _⟩, s, rfl, hs⟩ := hr row hrow
    exact ⟨(n, s), rfl, hs⟩)
  exact ⟨⟨s, ps⟩, rfl, hs, hp, by simpa using hl⟩
theorem oaReign : OA Tryz.prog w 45 2 (Cat 1 StrW IntW) :=
  oa_struct Tryz.underlying45 (by kernel_rfl) (oaF_cons (n := 1) (n' := 1) (off' := 1) rfl (by kernel_rfl) rfl oaStr (oaF_one rfl (by kernel_rfl) oaInt))
theorem oaReigns : OA Tryz.prog w 43 1 (SlA 2 24 (Cat 1 StrW IntW)) := oa_slice (e := 45) (by kernel_rfl) (by kernel_rfl) (by kernel_rfl) (by decide) oaReign
theorem reigns_of {rows : List (List AV)} (hr : ∀ row ∈ rows, row.length = 2 ∧ Cat 1 StrW IntW row) (hl : rows.length * 24 ≤ 140737488351232) : ∃ l : Reigns, AV.isl false 2 rows = rgA l ∧ (∀ p ∈ l, p.1.length ≤ 140737488351232) ∧ l.length * 24 ≤ 140737488351232 := by
  obtain ⟨ps, rfl, hp⟩ := rows_map (α := List UInt8 × Int) (g := fun p => [.s p.1, .i .i64 p.2]) (Q := fun p => p.1.length ≤ 140737488351232) (rows := rows) (fun row hrow => by
    obtain ⟨_, a, b, rfl, _, ⟨s, rfl, hs⟩, n, rfl, _⟩ := hr row hrow
    exact ⟨(s, n), rfl, hs⟩)
  exact ⟨ps, rfl, hp, by simpa using hl⟩
theorem oaLength : OA Tryz.prog w 51 4 (Cat 1 IntW (Cat 1 IntW (Cat 1 IntW IntW))) :=
  oa_struct Tryz.underlying51 (by kernel_rfl) (oaF_cons (n := 1) (n' := 3) (off' := 1) rfl (by kernel_rfl) rfl oaInt (oaF_cons (n := 1) (n' := 2) (off' := 2) rfl (by kernel_rfl) rfl oaInt (oaF_cons (n := 1) (n' := 1) (off' := 3) rfl (by kernel_rfl) rfl oaInt (oaF_one rfl (by kernel_rfl) oaInt))))
def lenA4 (a b c d : Int) : AV := .agg [.i .i64 a, .i .i64 b, .i .i64 c, .i .i64 d]
theorem length_of {zs : List AV} (h : Cat 1 IntW (Cat 1 IntW (Cat 1 IntW IntW)) zs) : ∃ a b c d, AV.agg zs = lenA4 a b c d := by
  obtain ⟨_, _, rfl, _, ⟨a, rfl, _⟩, _, _, rfl, _, ⟨b, rfl, _⟩, _, _, rfl, _, ⟨c, rfl, _⟩, d, rfl, _⟩ := h
  exact ⟨a, b, c, d, rfl⟩
end Go.Proofs.YtkokongbnemkhaaGreatDoorA
