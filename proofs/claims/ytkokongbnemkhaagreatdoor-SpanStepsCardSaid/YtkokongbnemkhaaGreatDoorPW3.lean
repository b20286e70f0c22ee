import Derived.Test.YtkokongbnemkhaaGreatDoorMD
import Derived.Test.YtkokongbnemkhaaGreatDoorPShelf
import Derived.Lib.AppendIntMem
import Derived.Lib.SmallJoins
import Derived.Lib.AtoiErrMem
set_option linter.unusedVariables false
set_option linter.unusedSimpArgs false
namespace Go.Proofs.YtkokongbnemkhaaGreatDoorA
open Go Go.RowKit Go.Proofs
theorem glob_cell {ok : Okc} {w : World} {g j : Nat} {row : List AV} {a : AV} (h : Rep ok w G0 (.pointer (some ⟨g, 0, none⟩)) (.ip row 0)) (hj : row[j]? = some a) : ∃ v, w.cell? ⟨g, j, none⟩ = some v ∧ Rep ok w G0 v a := by
  generalize hp : Value.pointer (some ⟨g, 0, none⟩) = p at h
  cases h with
  | ip _ _ _ bb o vs h1 h2 =>
    cases hp
    have hlt : j < row.length := (List.getElem?_eq_some_iff.1 hj).1
    exact ⟨vs j, by have := (h1 j hlt).1; simpa using this, h2 j a hj⟩
theorem glob_int {gl : Nat → Option (List AV)} {ok : Okc} {w : World} {g : Nat} {k : IntKind} {m : Int} (hg : Globs gl ok w) (h : gl g = some [.i k m]) : w.cell? ⟨g, 0, none⟩ = some (.int k m) := by
  obtain ⟨v, h1, h2⟩ := glob_cell (j := 0) (hg g _ h).1 rfl
  cases h2
  exact h1
theorem tab_of {P : Program} {gl : Nat → Option (List AV)} {ok : Okc} {w : World} {g : Nat} {name : String} {k : IntKind} {zs : List Int} (hg : Globs gl ok w) (h : gl g = some (zs.map fun z => AV.i k z)) (hn : P.globalNamed name = some g) : Lib.TabIs P w name k zs := by
  obtain ⟨h1, t, h2⟩ := hg g _ h
  unfold Lib.TabIs World.var?
  rw [hn]
  unfold World.shape? at h2
  split at h2
  · rename_i cs t' fz hq
    simp only [Option.some.injEq, Prod.mk.injEq, List.length_map] at h2
    simp only [Option.bind_some, hq]
    congr 1
    apply Array.ext
    · simpa using h2.2
    · intro j hj hj2
      have hz : j < zs.length := by simpa using hj2
      obtain ⟨v, q1, q2⟩ := glob_cell (j := j) (a := .i k zs[j]) h1 (by simp [hz])
      rw [cell_of_row w g j cs t' fz hq, Array.getElem?_eq_getElem hj] at q1
      cases q1
      generalize cs[j] = v at q2
      cases q2
      simp
  · cases h2
/-- A function that answers what names no memory. -/
theorem pure_of {P : Program} {gl : Nat → Option (List AV)} {f : FuncId} {args : List AV} {r : AV} (hb : HasBody P f) (hs : scal 12 r = true)
    (h : ∀ (ok : Okc) (w : World) (vals : Array Value), Globs gl ok w → vals.size = args.length → (∀ (j : Nat) v a, vals[j]? = some v → args[j]? = some a → Rep ok w G0 v a) → ∃ v, Rep ok w G0 v r ∧ Calls P f vals w fun e w' => e = .returned v ∧ Below w.heap.size w w') : MeetsP P gl f args r := by
  refine ⟨hb, fun ok w vals hg hlt hl hr => ?_⟩
  obtain ⟨v, rv, hc⟩ := h ok w vals hg hl hr
  refine hc.mono ?_
  rintro e w' ⟨rfl, B⟩
  exact ⟨v, ok, rfl, B, fun _ _ _ q => q, fun _ _ q => q, fun b i q => Nat.lt_of_lt_of_le (hlt b i q) B.size, scal_rep 12 v r hs rv⟩
theorem args1 {ok : Okc} {w : World} {vals : Array Value} {a : AV} (hl : vals.size = 1) (hr : ∀ (j : Nat) v b, vals[j]? = some v → [a][j]? = some b → Rep ok w G0 v b) : ∃ x, vals = #[x] ∧ Rep ok w G0 x a := by
  obtain ⟨l⟩ := vals
  match l, hl with
  | [x], _ => exact ⟨x, rfl, hr 0 x a rfl rfl⟩
theorem args2 {ok : Okc} {w : World} {vals : Array Value} {a b : AV} (hl : vals.size = 2) (hr : ∀ (j : Nat) v c, vals[j]? = some v → [a, b][j]? = some c → Rep ok w G0 v c) : ∃ x y, vals = #[x, y] ∧ Rep ok w G0 x a ∧ Rep ok w G0 y b := by
  obtain ⟨l⟩ := vals
  match l, hl with
  | [x, y], _ => exact ⟨x, y, rfl, hr 0 x a rfl rfl, hr 1 y b rfl rfl⟩
theorem args3 {ok : Okc} {w : World} {vals : Array Value} {a b c : AV} (hl : vals.size = 3) (hr : ∀ (j : Nat) v d, vals[j]? = some v → [a, b, c][j]? = some d → Rep ok w G0 v d) : ∃ x y z, vals = #[x, y, z] ∧ Rep ok w G0 x a ∧ Rep ok w G0 y b ∧ Rep ok w G0 z c := by
  obtain ⟨l⟩ := vals
  match l, hl with
  | [x, y, z], _ => exact ⟨x, y, z, rfl, hr 0 x a rfl rfl, hr 1 y b rfl rfl, hr 2 z c rfl rfl⟩
theorem rep_s {ok : Okc} {w : World} {G : Gh} (l : List UInt8) : Rep ok w G (.string ⟨l.toArray⟩) (.s l) := .s G ⟨l.toArray⟩
variable {gl : Nat → Option (List AV)}
theorem cutP {m : Int} (hm : gl 8 = some [.i .i64 m]) {a b : List UInt8} (ha : a.length < 4294967281) : MeetsP Tryz.prog gl 71 [.s a, .s b] (.tup [.s (Lib.cut a b).1, .s (Lib.cut a b).2.1, .b (Lib.cut a b).2.2]) := by
  refine pure_of ⟨_, Tryz.func71, rfl, by decide⟩ rfl (fun ok w vals hg hl hr => ?_)
  obtain ⟨x, y, rfl, r0, r1⟩ := args2 hl hr
  cases r0 with
  | s _ s => cases r1 with
    | s _ t =>
      refine ⟨.tuple #[.string ⟨(Lib.cut s.data.toList t.data.toList).1.toArray⟩, .string ⟨(Lib.cut s.data.toList t.data.toList).2.1.toArray⟩, .bool (Lib.cut s.data.toList t.data.toList).2.2], ?_, (Tryz.strings_Cut s t m w (by rw [size_str]; omega) (glob_int hg hm)).mono ?_⟩
      · refine .tup _ _ _ (by simp) (fun j v c e e' => ?_)
        match j, e, e' with
        | 0, e, e' => cases e; cases e'; exact rep_s _
        | 1, e, e' => cases e; cases e'; exact rep_s _
        | 2, e, e' => cases e; cases e'; exact .b ..
        | n + 3, e, e' => simp at e
      · rintro e w' ⟨rfl, n, rfl⟩
        exact ⟨rfl, ⟨rfl, rfl, rfl, Nat.le_refl _, fun _ _ => rfl⟩⟩
theorem atoiP {a : List UInt8} {n : Int} (ha : a.length ≤ 18) (h : Lib.atoi a = some n) : MeetsP Tryz.prog gl 45 [.s a] (.tup [.i .i64 n, .ni]) := by
  refine pure_of ⟨_, Tryz.func45, rfl, by decide⟩ rfl (fun ok w vals hg hl hr => ?_)
  obtain ⟨x, rfl, r0⟩ := args1 hl hr
  cases r0 with
  | s _ s =>
    refine ⟨.tuple #[.int .i64 n, .nilIface], ?_, (Tryz.strconv_Atoi s n (by rw [size_str]; omega) h w).mono ?_⟩
    · refine .tup _ _ _ (by simp) (fun j v c e e' => ?_)
      match j, e, e' with
      | 0, e, e' => cases e; cases e'; exact .i ..
      | 1, e, e' => cases e; cases e'; exact .ni _
      | n + 2, e, e' => simp at e
    · rintro e w' ⟨rfl, t, rfl⟩
      exact ⟨rfl, Lib.bytesWorld_below _ _ _⟩
theorem itoaP (htab : gl 7 = some (Lib.pow10Tab.map fun z => AV.i .u64 z)) {n : Int} (h0 : -9223372036854775808 ≤ n) (h1 : n ≤ 9223372036854775807) : MeetsP Tryz.prog gl 42 [.i .i64 n] (.s (Lib.itoa n)) := by
  refine pure_of ⟨_, Tryz.func42, rfl, by decide⟩ rfl (fun ok w vals hg hl hr => ?_)
  obtain ⟨x, rfl, r0⟩ := args1 hl hr
  cases r0
  refine ⟨.string ⟨(Lib.itoa n).toArray⟩, rep_s _, (Tryz.strconv_Itoa n h0 h1 w (tab_of hg htab (by kernel_rfl))).mono ?_⟩
  rintro e w' ⟨rfl, k, os, rfl⟩
  exact ⟨rfl, Lib.below_grow _ _ (Nat.le_refl _) _ _⟩
theorem replaceP {m : Int} (hm : gl 8 = some [.i .i64 m]) {a b c : List UInt8} (ha : a.length < 4294967281) (hb : 1 ≤ b.length) (hc : a.length + Lib.countB ⟨a.toArray⟩ ⟨b.toArray⟩ * c.length ≤ 140737488355328) : MeetsP Tryz.prog gl 70 [.s a, .s b, .s c] (.s (Lib.replaceAll a b c)) := by
  refine pure_of ⟨_, Tryz.func70, rfl, by decide⟩ rfl (fun ok w vals hg hl hr => ?_)
  obtain ⟨x, y, z, rfl, r0, r1, r2⟩ := args3 hl hr
  cases r0 with
  | s _ s => cases r1 with
    | s _ t => cases r2 with
      | s _ u =>
        refine ⟨_, rep_s _, (Tryz.strings_ReplaceAll s t u m w (by rw [size_str]; omega) (glob_int hg hm) (by rw [size_str]; omega) (by rw [size_str s, size_str u]; exact hc)).mono ?_⟩
        rintro e w' ⟨rfl, B⟩
        exact ⟨rfl, B⟩
theorem fieldsP (htab : gl 0 = some (Lib.asciiSpaceTab.map fun z => AV.i .u8 z)) {a : List UInt8} (ha : a.length < 4294967281) (hascii : ∀ b ∈ a, b.toNat < 128) :
    MeetsP Tryz.prog gl 68 [.s a] (.isl true 1 ((Lib.fields a).map fun l => [AV.s l])) := by
  refine ⟨⟨_, Tryz.func68, rfl, by decide⟩, fun ok w vals hg hlt hl hr => ?_⟩
  obtain ⟨x, rfl, r0⟩ := args1 hl hr
  cases r0 with
  | s _ s =>
    refine (Tryz.strings_Fields s w (by rw [size_str]; omega) (fun j b hb => hascii b (List.mem_of_getElem? hb)) (tab_of hg htab (by kernel_rfl))).mono ?_
    rintro e w' ⟨rfl, rfl⟩
    generalize Lib.fields s.data.toList = L
    have hB : Below w.heap.size w (w.alloc (.cells (L.map fun l => Value.string ⟨l.toArray⟩).toArray 9)) := (Below.refl _ _).alloc (Nat.le_refl _) _
    have hheap : (w.alloc (.cells (L.map fun l => Value.string ⟨l.toArray⟩).toArray 9)).heap[w.heap.size]? = some (.cells (L.map fun l => Value.string ⟨l.toArray⟩).toArray 9 (0, 0)) := by
      rw [show (w.alloc (.cells (L.map fun l => Value.string ⟨l.toArray⟩).toArray 9)).heap = w.heap.push (.cells (L.map fun l => Value.string ⟨l.toArray⟩).toArray 9) from rfl]
      simp
    refine ⟨_, fun b i => ok b i ∨ b = w.heap.size, rfl, hB, fun b i q1 q2 => ?_, fun b i q => .inl q, fun b i q => ?_, ?_⟩
    · rcases q2 with q2 | q2
      · exact q2
      · omega
    · have := hB.size
      rcases q with q | q
      · have := hlt b i q; omega
      · subst q; simp
    · refine .isl _ true 1 _ _ w.heap.size 0 L.length (fun i _ => ((L.map fun l => Value.string ⟨l.toArray⟩)[i]?).getD undef) (by simp) (by simp) (fun row hrow => ?_) (fun i row hi j hj => ?_) (fun i row hi j b hb => ?_)
      · obtain ⟨l, _, rfl⟩ := List.mem_map.1 hrow; rfl
      · rw [List.getElem?_map] at hi
        cases hl' : L[i]? with
        | none => rw [hl'] at hi; cases hi
        | some l =>
          rw [hl'] at hi
          cases hi
          have : j = 0 := by simpa using hj
          subst this
          refine ⟨?_, .inr rfl, ?_⟩
          · rw [cell_of_row _ _ _ _ _ _ hheap]
            simp [hl']
          · simp [hl', Value.oneCell']
      · rw [List.getElem?_map] at hi
        cases hl' : L[i]? with
        | none => rw [hl'] at hi; cases hi
        | some l =>
          rw [hl'] at hi
          cases hi
          match j, hb with
          | 0, hb => cases hb; simp only [List.getElem?_map, hl', Option.map_some, Option.getD_some]; exact rep_s l
          | n + 1, hb => simp at hb
end Go.Proofs.YtkokongbnemkhaaGreatDoorA
