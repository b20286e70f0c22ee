/- The told variables and the world's shape give what the walks ask. -/
import Derived.Test.YtkokongbnemkhaaGreatDoorPG1
import Derived.HandedShaped
set_option linter.unusedVariables false
set_option linter.unusedSimpArgs false
namespace Go.Proofs.YtkokongbnemkhaaGreatDoorA
open Go Go.RowKit Go.Proofs Go.Proofs.YtkokongbnemkhaaGreatDoor
theorem el_int : ElemT Tryz.prog 3 := .inl (.inl ⟨.i64, by kernel_rfl⟩)
theorem el_u8 : ElemT Tryz.prog 5 := .inl (.inl ⟨.u8, by kernel_rfl⟩)
theorem el_u64 : ElemT Tryz.prog 166 := .inl (.inl ⟨.u64, by kernel_rfl⟩)
theorem el_strs : ElemT Tryz.prog 72 := .inr ⟨9, by kernel_rfl, .inr (by kernel_rfl), by kernel_rfl⟩
theorem el_ints : ElemT Tryz.prog 27 := .inr ⟨3, by kernel_rfl, .inl ⟨.i64, by kernel_rfl⟩, by kernel_rfl⟩
def listD : DataW Unit → List (DataW Unit)
  | .agg ds => ds
  | _ => []
/-- The tables that the walks read. -/
structure ToldT (laid : List (String × DataW Unit)) : Prop where
  sym : ("ephemeris/rule.symbols", .agg (listD Rows.laid_ephemeris_rule_symbols)) ∈ laid
  fnd : ("ephemeris/rule.found", .agg (listD Rows.laid_ephemeris_rule_found)) ∈ laid
  kid : ("ephemeris/rule.kids", .agg (listD Rows.laid_ephemeris_rule_kids)) ∈ laid
  spc : ("strings.asciiSpace", .agg (listD Rows.laid_strings_asciiSpace)) ∈ laid
  pow : ("internal/strconv.uint64pow10", .agg (listD Rows.laid_internal_strconv_uint64pow10)) ∈ laid
theorem rowSym : (listD Rows.laid_ephemeris_rule_symbols).map avD = symT := by kernel_rfl
theorem rowFnd : (listD Rows.laid_ephemeris_rule_found).map avD = fndT := by kernel_rfl
theorem rowKid : (listD Rows.laid_ephemeris_rule_kids).map avD = kidT := by kernel_rfl
theorem rowSpc : (listD Rows.laid_strings_asciiSpace).map avD = Lib.asciiSpaceTab.map fun z => AV.i .u8 z := by kernel_rfl
theorem rowPow : (listD Rows.laid_internal_strconv_uint64pow10).map avD = Lib.pow10Tab.map fun z => AV.i .u64 z := by kernel_rfl
theorem max_of {W : World} (h : W.ShapedOpen Tryz.prog) : ∃ m, W.cell? ⟨8, 0, none⟩ = some (.int .i64 m) ∧ ∃ t, W.shape? 8 = some (t, 1) := by
  have h0 : ((begin Tryz.prog (fun _ _ => 0) default).world.heap[8]?).bind Obj.row? = some (#[.int .i64 0], 3) := by kernel_rfl
  obtain ⟨m, hm⟩ := cell_of_shapedOpen_int (k := .i64) h (of_decide_eq_true (by kernel_rfl)) h0 rfl (by kernel_rfl) (by kernel_rfl) (by kernel_rfl)
  obtain ⟨cs, hh, hs, _⟩ := h.1 _ _ _ (of_decide_eq_true (by kernel_rfl)) h0
  refine ⟨m, hm, 3, ?_⟩
  have hs1 : cs.size = 1 := hs
  simp [World.shape?, hh, hs1]
theorem globs_of {W : World} {laid : List (String × DataW Unit)} (hL : laidMet Tryz.prog laid W) (hT : ToldT laid) (hS : W.ShapedOpen Tryz.prog) : ∃ m, Globs (glT m) (okW W) W := by
  obtain ⟨m, hm, hsh⟩ := max_of hS
  refine ⟨m, fun g row hg => ?_⟩
  unfold glT at hg
  split at hg
  · rename_i q
    obtain rfl := Nat.eq_of_beq_eq_true q
    cases hg
    have := glob_of hL hT.sym (g := 4) (t := 193) (m := 8) (by kernel_rfl) (by kernel_rfl) (by kernel_rfl) el_strs (by kernel_rfl) (by kernel_rfl)
    rw [rowSym] at this
    exact this
  split at hg
  · rename_i q
    obtain rfl := Nat.eq_of_beq_eq_true q
    cases hg
    have := glob_of hL hT.fnd (g := 5) (t := 194) (m := 8) (by kernel_rfl) (by kernel_rfl) (by kernel_rfl) el_ints (by kernel_rfl) (by kernel_rfl)
    rw [rowFnd] at this
    exact this
  split at hg
  · rename_i q
    obtain rfl := Nat.eq_of_beq_eq_true q
    cases hg
    have := glob_of hL hT.kid (g := 6) (t := 195) (m := 14) (by kernel_rfl) (by kernel_rfl) (by kernel_rfl) el_int (by kernel_rfl) (by kernel_rfl)
    rw [rowKid] at this
    exact this
  split at hg
  · rename_i q
    obtain rfl := Nat.eq_of_beq_eq_true q
    cases hg
    refine ⟨Rep.ip _ [.i .i64 m] 0 _ 0 (fun _ => .int .i64 m) (fun j hj => ?_) (fun j a ha => ?_), hsh⟩
    · have : j = 0 := by simp at hj; omega
      subst this
      exact ⟨hm, okW_of hm, rfl⟩
    · cases j with
      | zero => cases ha; exact .i _ _ _
      | succ j => simp at ha
  split at hg
  · rename_i q
    obtain rfl := Nat.eq_of_beq_eq_true q
    cases hg
    have := glob_of hL hT.spc (g := 0) (t := 146) (m := 256) (by kernel_rfl) (by kernel_rfl) (by kernel_rfl) el_u8 (by kernel_rfl) (by kernel_rfl)
    rw [rowSpc] at this
    exact this
  split at hg
  · rename_i q
    obtain rfl := Nat.eq_of_beq_eq_true q
    cases hg
    have := glob_of hL hT.pow (g := 7) (t := 199) (m := 20) (by kernel_rfl) (by kernel_rfl) (by kernel_rfl) el_u64 (by kernel_rfl) (by kernel_rfl)
    rw [rowPow] at this
    exact this
  · cases hg
variable {H : Type} {enc : TypeId × Value → H}
/-- A row of the door, with the world's shape. -/
theorem handed {a : Assume} {C : Checked} {os : Os} {f : FuncId} {fn : Func} {s : ChangeSpec} {conds : List PathCond} {apart fresh handsOn again : Bool} {X : World → Array Value → Prop}
    (hX : ∀ (w w' : World) (args : Array Value), w.heap = w'.heap → X w args → X w' args)
    (own : ownKnob C.prog.godebug = none) (started : os.Started) (noInit : C.prog.inits.idxOf? f = none) (hfn : C.prog.funcs[f]? = some fn)
    (witness : ∃ (w : World) (tape : Tape) (i : Input), w.os = os ∧ (w.forCall tape i).Shaped C.prog ∧ i.vars = [] ∧ Input.okWide C.prog (w.forCall tape i) .any w.heap.size f i ∧
      ((s.pre enc C.prog fn conds apart (w.forCall tape i).memory i.args ∧ X (w.forCall tape i).memory i.args) ∧ sizedMet enc C.prog fn (OpenSpec.ofChange s) apart (w.forCall tape i).memory i.args) ∧ a.holds C.prog (lone (Frame.enter C.prog f i.args .normal) [] (w.forCall tape i)))
    (contract : ∀ (W : World) (base : Nat) (args : Array Value) (ds gs : List (DataW H)) (before : List MemPlace),
      (∀ (j : Nat) t v, fn.params[j]? = some t → args[j]? = some v → Value.okWide C.prog W .any base t v) →
      DataW.Whole enc C.prog fn.params.toList s.vars apart W args.toList ds gs before → X W args → W.ShapedOpen C.prog →
      Calls C.prog f args W fun e W' => ∃ v, e = .returned v ∧ s.post enc C.prog fn apart fresh handsOn again W args v W') :
    ReturnsInHanded a C os f .any (fun w args => (s.pre enc C.prog fn conds apart w args ∧ X w args) ∧ sizedMet enc C.prog fn (OpenSpec.ofChange s) apart w args) (s.post enc C.prog fn apart fresh handsOn again) := by
  refine returnsInHanded_of_calls own started noInit witness ?_
  intro w tape i _ hsh _ hok hpre hholds
  obtain ⟨_, _, _, fn', hfn', _, _, _, _, hval⟩ := hok
  have e : fn' = fn := Option.some.inj (hfn'.symm.trans hfn)
  subst e
  obtain ⟨⟨⟨ds, gs, before, hw, hc⟩, hx⟩, hz⟩ := hpre
  have hw' := DataW.Whole.of_heap (w' := w.forCall tape i) (by rfl) hw
  refine (contract (w.forCall tape i) w.heap.size i.args ds gs before hval hw' (hX _ _ _ (by rfl) hx) hsh).mono fun e W' ⟨v, he, hp⟩ => ?_
  subst he
  exact ChangeSpec.post_blind hp
end Go.Proofs.YtkokongbnemkhaaGreatDoorA
