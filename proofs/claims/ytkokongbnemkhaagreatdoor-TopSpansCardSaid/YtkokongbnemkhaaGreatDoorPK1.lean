/- The environment of the catalog's laws: tables of variables, models of library functions, contracts for runs that are reckoned out. -/
import Derived.Test.YtkokongbnemkhaaGreatDoorPW2
import Derived.Test.YtkokongbnemkhaaGreatDoorPW3
import Derived.Test.YtkokongbnemkhaaGreatDoorPB2
import Derived.Test.YtkokongbnemkhaaGreatDoorMG
set_option linter.unusedVariables false
set_option linter.unusedSimpArgs false
namespace Go.Proofs.YtkokongbnemkhaaGreatDoorA
open Go Go.RowKit Go.Proofs
def symT : List AV := [.nils, .isl true 1 [[.s [111, 114]]], .isl true 1 [[.s [97, 110, 100]]], .nils, .isl true 1 [[.s [60]], [.s [61]]], .isl true 1 [[.s [43]], [.s [45]]], .isl true 1 [[.s [42]], [.s [47]], [.s [37]]], .nils]
def fndT : List AV := [.nils, .isl true 1 [[.i .i64 13]], .isl true 1 [[.i .i64 12]], .nils, .isl true 1 [[.i .i64 9], [.i .i64 10]], .isl true 1 [[.i .i64 4], [.i .i64 5]], .isl true 1 [[.i .i64 6], [.i .i64 7], [.i .i64 8]], .nils]
def kidT : List AV := [.i .i64 0, .i .i64 0, .i .i64 0, .i .i64 1, .i .i64 2, .i .i64 2, .i .i64 2, .i .i64 2, .i .i64 2, .i .i64 2, .i .i64 2, .i .i64 1, .i .i64 2, .i .i64 2]
/-- The tables that the program's variables hold; m: a bound that the machine chooses. -/
def glT (m : Int) (g : Nat) : Option (List AV) := match Nat.beq g 4 with
  | true => some symT
  | false => match Nat.beq g 5 with
    | true => some fndT
    | false => match Nat.beq g 6 with
      | true => some kidT
      | false => match Nat.beq g 8 with
        | true => some [.i .i64 m]
        | false => match Nat.beq g 0 with
          | true => some (Lib.asciiSpaceTab.map fun z => AV.i .u8 z)
          | false => match Nat.beq g 7 with
            | true => some (Lib.pow10Tab.map fun z => AV.i .u64 z)
            | false => none
def mItoa : List AV → Option AV
  | [.i .i64 n] => if -9223372036854775808 ≤ n ∧ n ≤ 9223372036854775807 then some (.s (Lib.itoa n)) else none
  | _ => none
def mFields : List AV → Option AV
  | [.s a] => if a.length < 4294967281 ∧ (a.all fun b => decide (b.toNat < 128)) = true then some (.isl true 1 ((Lib.fields a).map fun l => [AV.s l])) else none
  | _ => none
def mReplace : List AV → Option AV
  | [.s a, .s b, .s c] => if a.length < 4294967281 ∧ 1 ≤ b.length ∧ a.length + Lib.countB ⟨a.toArray⟩ ⟨b.toArray⟩ * c.length ≤ 140737488355328 then some (.s (Lib.replaceAll a b c)) else none
  | _ => none
def mCut : List AV → Option AV
  | [.s a, .s b] => if a.length < 4294967281 then some (.tup [.s (Lib.cut a b).1, .s (Lib.cut a b).2.1, .b (Lib.cut a b).2.2]) else none
  | _ => none
def mAtoi : List AV → Option AV
  | [.s a] => if a.length ≤ 18 then (match Lib.atoi a with | some n => some (.tup [.i .i64 n, .ni]) | none => none) else none
  | _ => none
def mLetter : List AV → Option AV
  | [.i .u8 n] => some (.b (letterB n))
  | _ => none
def mDigit : List AV → Option AV
  | [.i .u8 n] => some (.b (digitB n))
  | _ => none
def MK (f : FuncId) (args : List AV) : Option AV := match Nat.beq f 42 with
  | true => mItoa args
  | false => match Nat.beq f 68 with
    | true => mFields args
    | false => match Nat.beq f 70 with
      | true => mReplace args
      | false => match Nat.beq f 71 with
        | true => mCut args
        | false => match Nat.beq f 45 with
          | true => mAtoi args
          | false => match Nat.beq f 124 with
            | true => mLetter args
            | false => match Nat.beq f 127 with
              | true => mDigit args
              | false => none
theorem weakP {P : Program} {gl gl' : Nat → Option (List AV)} {f : FuncId} {args : List AV} {r : AV} (hg : ∀ g row, gl g = some row → gl' g = some row) (h : MeetsP P gl f args r) : MeetsP P gl' f args r :=
  ⟨h.1, fun ok w vals q => h.2 ok w vals (fun g row e => q g row (hg g row e))⟩
theorem mk (m : Int) : ∀ f args r, MK f args = some r → MeetsP Tryz.prog (glT m) f args r := by
  intro f args r h
  have hmax : glT m 8 = some [.i .i64 m] := rfl
  unfold MK at h
  split at h
  · rename_i hf; cases Nat.eq_of_beq_eq_true hf
    unfold mItoa at h
    split at h
    · split at h
      · rename_i q; cases h; exact itoaP (gl := glT m) rfl q.1 q.2
      · cases h
    · cases h
  split at h
  · rename_i hf; cases Nat.eq_of_beq_eq_true hf
    unfold mFields at h
    split at h
    · split at h
      · rename_i q; cases h; exact fieldsP (gl := glT m) rfl q.1 (fun b hb => by simpa using List.all_eq_true.1 q.2 b hb)
      · cases h
    · cases h
  split at h
  · rename_i hf; cases Nat.eq_of_beq_eq_true hf
    unfold mReplace at h
    split at h
    · split at h
      · rename_i q; cases h; exact replaceP hmax q.1 q.2.1 q.2.2
      · cases h
    · cases h
  split at h
  · rename_i hf; cases Nat.eq_of_beq_eq_true hf
    unfold mCut at h
    split at h
    · split at h
      · rename_i q; cases h; exact cutP hmax q
      · cases h
    · cases h
  split at h
  · rename_i hf; cases Nat.eq_of_beq_eq_true hf
    unfold mAtoi at h
    split at h
    · split at h
      · rename_i q
        split at h
        · rename_i n hn; cases h; exact atoiP q hn
        · cases h
      · cases h
    · cases h
  split at h
  · rename_i hf; cases Nat.eq_of_beq_eq_true hf
    unfold mLetter at h
    split at h
    · cases h; exact weakP (fun g row e => by cases e) (letter _)
    · cases h
  split at h
  · rename_i hf; cases Nat.eq_of_beq_eq_true hf
    unfold mDigit at h
    split at h
    · cases h; exact weakP (fun g row e => by cases e) (digit _)
    · cases h
  · cases h
noncomputable def EK (m : Int) : Env := ⟨Tryz.prog, glT m, MK⟩
theorem ek (m : Int) : ModOk (EK m) := mk m
theorem ekN (m : Int) : Named (EK m).P := by
  have h : (Tryz.prog.funcs.all fun fn => decide (fn.name ≠ "runtime.NumGoroutine")) = true := by kernel_rfl
  intro f fn hf
  have hf' : Tryz.prog.funcs[f]? = some fn := hf
  have := Array.all_eq_true.1 h f (Array.getElem?_eq_some_iff.1 hf').1
  rw [(Array.getElem?_eq_some_iff.1 hf').2] at this
  simpa using this
theorem ekO (m : Int) : (EK m).P.follows .mixedOrders = true := by show Tryz.prog.follows .mixedOrders = true; kernel_rfl
/-- The bytes of rows. -/
def bytesOf : List (List AV) → Option (List UInt8)
  | [] => some []
  | [.i .u8 (.ofNat n)] :: r => (match Nat.blt n 256 with | true => (match bytesOf r with | some l => some (UInt8.ofNat n :: l) | none => none) | false => none)
  | _ => none
theorem bytesOf_rows : ∀ {rows : List (List AV)} {l : List UInt8}, bytesOf rows = some l → rows = byteRows l
  | [], l, h => by cases h; rfl
  | row :: r, l, h => by
    unfold bytesOf at h
    split at h
    · rename_i q; cases q
    · rename_i n r' hq
      cases hq
      split at h
      · rename_i hn
        split at h
        · rename_i l' hl
          cases h
          have hn' : n < 256 := Nat.le_of_ble_eq_true hn
          rw [bytesOf_rows hl]
          simp only [byteRows, List.map_cons]
          congr 3
          rw [UInt8.toNat_ofNat']
          rw [Nat.mod_eq_of_lt hn']; rfl
        · cases h
      · cases h
    · cases h
def isPtr0 : AV → Nat → Bool
  | .np, _ => true
  | .ptr i 0 0, id => Nat.beq i id
  | _, _ => false
def xCheck (args : List AV) (h : Hp) : Option (Out × Hp) := match args with
  | [.ptr id 0 0] => (match tyOf h.c id with
    | some t => (match Nat.beq t 115 with
      | true => (match look h.c id with
        | some (.rows 2 [[a, b]]) => (match isPtr0 a id with | true => some (.ret (.tup []), ⟨upd h.c id (.rows 2 [[.ptr id 0 0, b]]), h.n⟩) | false => none)
        | _ => none)
      | false => none)
    | none => none)
  | _ => none
def xStr2 (h : Hp) (idb n : Nat) : Option (Out × Hp) := match tyOf h.c idb, look h.c idb with
  | some t, some (.rows 1 rows) => (match Nat.beq t 5, bytesOf rows with
    | true, some l => (match Nat.beq l.length n && (Nat.ble 1 n && Nat.ble n 9223372036854775807) with | true => some (.ret (.s l), ⟨rmv h.c idb, h.n⟩) | false => none)
    | _, _ => none)
  | _, _ => none
def xString (args : List AV) (h : Hp) : Option (Out × Hp) := match args with
  | [.ptr id 0 0] => (match tyOf h.c id with
    | some t => (match Nat.beq t 115 with
      | true => (match look h.c id with
        | some (.rows 2 [[a, .nils]]) => some (.ret (.s []), h)
        | some (.rows 2 [[a, .osl idb 0 n]]) => xStr2 h idb n
        | _ => none)
      | false => none)
    | none => none)
  | _ => none
noncomputable def xWord (args : List AV) (h : Hp) : Option (Out × Hp) := match args with
  | [.ptr id 0 0] => (match look h.c id with
    | some (.rows 3 [[.s s, .i .i64 (.ofNat n), .i .i64 o]]) => (match Nat.ble n s.length && Nat.ble s.length 140737488355328 with
      | true => some (.ret (.s (wordS s n)), ⟨upd h.c id (.rows 3 [[.s s, .i .i64 (.ofNat (skipN s n)), .i .i64 o]]), h.n⟩)
      | false => none)
    | _ => none)
  | _ => none
noncomputable def XK : XT := fun f args h => match Nat.beq f 102 with
  | true => xWord args h
  | false => match Nat.beq f 83 with
    | true => xCheck args h
    | false => match Nat.beq f 64 with
      | true => xString args h
      | false => none
theorem xk (m : Int) : XOk (EK m) XK := by
  intro f args h o h' e
  obtain ⟨c, n0⟩ := h
  unfold XK at e
  split at e
  · rename_i hf; cases Nat.eq_of_beq_eq_true hf
    unfold xWord at e
    split at e
    · rename_i id
      split at e
      · rename_i s n oo hl
        split at e
        · rename_i hb
          cases e
          simp only [Bool.and_eq_true] at hb
          have := (word (m := n0) (c := c) (id := id) (s := s) (n := n) (o := oo) hl (Nat.le_of_ble_eq_true hb.1) (Nat.le_of_ble_eq_true hb.2)).to (gl' := glT m) (M' := MK) e1 (fun g row q => by cases q)
          exact this
        · cases e
      · cases e
    · cases e
  split at e
  · rename_i hf; cases Nat.eq_of_beq_eq_true hf
    unfold xCheck at e
    split at e
    · rename_i id
      split at e
      · rename_i t ht
        split at e
        · rename_i hb; cases Nat.eq_of_beq_eq_true hb
          split at e
          · rename_i a b hl
            split at e
            · rename_i ha
              cases e
              refine copyCheckH rfl ht hl ?_
              unfold isPtr0 at ha
              split at ha
              · exact .inl rfl
              · cases Nat.eq_of_beq_eq_true ha; exact .inr rfl
              · cases ha
            · cases e
          · cases e
        · cases e
      · cases e
    · cases e
  split at e
  · rename_i hf; cases Nat.eq_of_beq_eq_true hf
    unfold xString at e
    split at e
    · rename_i id
      split at e
      · rename_i t ht
        split at e
        · rename_i hb; cases Nat.eq_of_beq_eq_true hb
          split at e
          · rename_i a hl; cases e; exact stringNilH rfl ht hl
          · rename_i a idb n hl
            unfold xStr2 at e
            split at e
            · rename_i t2 rows ht2 hl2
              split at e
              · rename_i l hb2 hl3
                split at e
                · rename_i hc
                  cases e
                  cases Nat.eq_of_beq_eq_true hb2
                  simp only [Bool.and_eq_true] at hc
                  have h1 := Nat.eq_of_beq_eq_true hc.1
                  have h2 := Nat.le_of_ble_eq_true hc.2.1
                  have h3 := Nat.le_of_ble_eq_true hc.2.2
                  subst h1
                  exact stringH rfl (fun q => by rw [q] at h2; simp at h2) h3 ht hl ht2 (by rw [← bytesOf_rows hl3]; exact hl2)
                · cases e
              · cases e
            · cases e
          · cases e
        · cases e
      · cases e
    · cases e
  · cases e
end Go.Proofs.YtkokongbnemkhaaGreatDoorA
