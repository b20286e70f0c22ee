/- The environment of the catalog's laws: tables of variables, models of library functions, contracts for runs that are reckoned out. -/
import Derived.Test.YthahgmncnbeddaaGreatDoorWA
import Derived.Test.YthahgmncnbeddaaGreatDoorME
set_option linter.unusedVariables false
set_option linter.unusedSimpArgs false
namespace Go.Proofs.YthahgmncnbeddaaGreatDoorA
open Go Go.RowKit Go.Proofs
def symT : List AV := [.nils, .isl true 1 [[.s [111, 114]]], .isl true 1 [[.s [97, 110, 100]]], .nils, .isl true 1 [[.s [60]], [.s [61]]], .isl true 1 [[.s [43]], [.s [45]]], .isl true 1 [[.s [42]], [.s [47]], [.s [37]]], .nils]
def fndT : List AV := [.nils, .isl true 1 [[.i .i64 13]], .isl true 1 [[.i .i64 12]], .nils, .isl true 1 [[.i .i64 9], [.i .i64 10]], .isl true 1 [[.i .i64 4], [.i .i64 5]], .isl true 1 [[.i .i64 6], [.i .i64 7], [.i .i64 8]], .nils]
def kidT : List AV := [.i .i64 0, .i .i64 0, .i .i64 0, .i .i64 1, .i .i64 2, .i .i64 2, .i .i64 2, .i .i64 2, .i .i64 2, .i .i64 2, .i .i64 2, .i .i64 1, .i .i64 2, .i .i64 2]
/-- The tables that the program's variables hold; m: a bound that the machine chooses. -/
def glT (m : Int) (g : Nat) : Option (List AV) := match Nat.beq g 3 with
  | true => some symT
  | false => match Nat.beq g 4 with
    | true => some fndT
    | false => match Nat.beq g 5 with
      | true => some kidT
      | false => match Nat.beq g 6 with
        | true => some [.i .i64 m]
        | false => match Nat.beq g 1 with
          | true => some (Lib.asciiSpaceTab.map fun z => AV.i .u8 z)
          | false => match Nat.beq g 7 with
            | true => some (Lib.pow10Tab.map fun z => AV.i .u64 z)
            | false => none
def mItoa : List AV → Option AV
  | [.i .i64 n] => if -9223372036854775808 ≤ n ∧ n ≤ 9223372036854775807 then some (.s (Lib.itoa n)) else none
  | _ => none
def mFields : List AV → Option AV
  | [.s a] => if a.length < 4294967281 ∧ (a.all fun b => decide (b.toNat < 128)) = true then some (.isl true 1 ((Lib.fields a).map fun l => [AV.s l])) else none
  | _ => none
def mReplace : List AV → Option AV
  | [.s a, .s b, .s c] => if a.length < 4294967281 ∧ 1 ≤ b.length ∧ a.length + Lib.countB ⟨a.toArray⟩ ⟨b.toArray⟩ * c.length ≤ 140737488355328 then some (.s (Lib.replaceAll a b c)) else none
  | _ => none
def mCut : List AV → Option AV
  | [.s a, .s b] => if a.length < 4294967281 then some (.tup [.s (Lib.cut a b).1, .s (Lib.cut a b).2.1, .b (Lib.cut a b).2.2]) else none
  | _ => none
def mAtoi : List AV → Option AV
  | [.s a] => if a.length ≤ 18 then (match Lib.atoi a with | some n => some (.tup [.i .i64 n, .ni]) | none => none) else none
  | _ => none
def mLetter : List AV → Option AV
  | [.i .u8 n] => some (.b (letterB n))
  | _ => none
def mDigit : List AV → Option AV
  | [.i .u8 n] => some (.b (digitB n))
  | _ => none
def MK (f : FuncId) (args : List AV) : Option AV := match Nat.beq f 72 with
  | true => mItoa args
  | false => match Nat.beq f 69 with
    | true => mFields args
    | false => match Nat.beq f 73 with
      | true => mReplace args
      | false => match Nat.beq f 75 with
        | true => mCut args
        | false => match Nat.beq f 135 with
          | true => mAtoi args
          | false => match Nat.beq f 116 with
            | true => mLetter args
            | false => match Nat.beq f 119 with
              | true => mDigit args
              | false => none
theorem weakP {P : Program} {gl gl' : Nat → Option (List AV)} {f : FuncId} {args : List AV} {r : AV} (hg : ∀ g row, gl g = some row → gl' g = some row) (h : MeetsP P gl f args r) : MeetsP P gl' f args r :=
  ⟨h.1, fun ok w vals q => h.2 ok w vals (fun g row e => q g row (hg g row e))⟩
theorem mk (m : Int) : ∀ f args r, MK f args = some r → MeetsP Tryz.prog (glT m) f args r := by
  intro f args r h
  have hmax : glT m 6 = some [.i .i64 m] := rfl
  unfold MK at h
  split at h
  · rename_i hf; cases Nat.eq_of_beq_eq_true hf
    unfold mItoa at h
    split at h
    · split at h
      · rename_i q; cases h; exact itoaP (gl := glT m) rfl q.1 q.2
      · cases h
    · cases h
  split at h
  · rename_i hf; cases Nat.eq_of_beq_eq_true hf
    unfold mFields at h
    split at h
    · split at h
      · rename_i q; cases h; exact fieldsP (gl := glT m) rfl q.1 (fun b hb => by simpa using List.all_eq_true.1 q.2 b hb)
      · cases h
    · cases h
  split at h
  · rename_i hf; cases Nat.eq_of_beq_eq_true hf
    unfold mReplace at h
    split at h
    · split at h
      · rename_i q; cases h; exact replaceP hmax q.1 q.2.1 q.2.2
      · cases h
    · cases h
  split at h
  · rename_i hf; cases Nat.eq_of_beq_eq_true hf
    unfold mCut at h
    split at h
    · split at h
      · rename_i q; cases h; exact cutP hmax q
      · cases h
    · cases h
  split at h
  · rename_i hf; cases Nat.eq_of_beq_eq_true hf
    unfold mAtoi at h
    split at h
    · split at h
      · rename_i q
        split at h
        · rename_i n hn; cases h; exact atoiP q hn
        · cases h
      · cases h
    · cases h
  split at h
  · rename_i hf; cases Nat.eq_of_beq_eq_true hf
    unfold mLetter at h
    split at h
    · cases h; exact weakP (fun g row e => by cases e) (letter _)
    · cases h
  split at h
  · rename_i hf; cases Nat.eq_of_beq_eq_true hf
    unfold mDigit at h
    split at h
    · cases h; exact weakP (fun g row e => by cases e) (digit _)
    · cases h
  · cases h
noncomputable def EK (m : Int) : Env := ⟨Tryz.prog, glT m, MK⟩
theorem ek (m : Int) : ModOk (EK m) := mk m
theorem ekN (m : Int) : Named (EK m).P := by
  have h : (Tryz.prog.funcs.all fun fn => decide (fn.name ≠ "runtime.NumGoroutine")) = true := by kernel_rfl
  intro f fn hf
  have hf' : Tryz.prog.funcs[f]? = some fn := hf
  have := Array.all_eq_true.1 h f (Array.getElem?_eq_some_iff.1 hf').1
  rw [(Array.getElem?_eq_some_iff.1 hf').2] at this
  simpa using this
theorem ekO (m : Int) : (EK m).P.follows .mixedOrders = true := by show Tryz.prog.follows .mixedOrders = true; kernel_rfl
/-- The bytes of rows. -/
def bytesOf : List (List AV) → Option (List UInt8)
  | [] => some []
  | [.i .u8 (.ofNat n)] :: r => (match Nat.blt n 256 with | true => (match bytesOf r with | some l => some (UInt8.ofNat n :: l) | none => none) | false => none)
  | _ => none
theorem bytesOf_rows : ∀ {rows : List (List AV)} {l : List UInt8}, bytesOf rows = some l → rows = byteRows l
  | [], l, h => by cases h; rfl
  | row :: r, l, h => by
    unfold bytesOf at h
    split at h
    · rename_i q; cases q
    · rename_i n r' hq
      cases hq
      split at h
      · rename_i hn
        split at h
        · rename_i l' hl
          cases h
          have hn' : n < 256 := Nat.le_of_ble_eq_true hn
          rw [bytesOf_rows hl]
          simp only [byteRows, List.map_cons]
          congr 3
          rw [UInt8.toNat_ofNat']
          rw [Nat.mod_eq_of_lt hn']; rfl
        · cases h
      · cases h
    · cases h
def isPtr0 : AV → Nat → Bool
  | .np, _ => true
  | .ptr i 0 0, id => Nat.beq i id
  | _, _ => false
def xCheck (args : List AV) (h : Hp) : Option (Out × Hp) := match args with
  | [.ptr id 0 0] => (match tyOf h.c id with
    | some t => (match Nat.beq t 114 with
      | true => (match look h.c id with
        | some (.rows 2 [[a, b]]) => (match isPtr0 a id with | true => some (.ret (.tup []), ⟨upd h.c id (.rows 2 [[.ptr id 0 0, b]]), h.n⟩) | false => none)
        | _ => none)
      | false => none)
    | none => none)
  | _ => none
def xStr2 (h : Hp) (idb n : Nat) : Option (Out × Hp) := match tyOf h.c idb, look h.c idb with
  | some t, some (.rows 1 rows) => (match Nat.beq t 5, bytesOf rows with
    | true, some l => (match Nat.beq l.length n && (Nat.ble 1 n && Nat.ble n 9223372036854775807) with | true => some (.ret (.s l), ⟨rmv h.c idb, h.n⟩) | false => none)
    | _, _ => none)
  | _, _ => none
def xString (args : List AV) (h : Hp) : Option (Out × Hp) := match args with
  | [.ptr id 0 0] => (match tyOf h.c id with
    | some t => (match Nat.beq t 114 with
      | true => (match look h.c id with
        | some (.rows 2 [[a, .nils]]) => some (.ret (.s []), h)
        | some (.rows 2 [[a, .osl idb 0 n]]) => xStr2 h idb n
        | _ => none)
      | false => none)
    | none => none)
  | _ => none
noncomputable def xWord (args : List AV) (h : Hp) : Option (Out × Hp) := match args with
  | [.ptr id 0 0] => (match look h.c id with
    | some (.rows 3 [[.s s, .i .i64 (.ofNat n), .i .i64 o]]) => (match Nat.ble n s.length && Nat.ble s.length 140737488355328 with
      | true => some (.ret (.s (wordS s n)), ⟨upd h.c id (.rows 3 [[.s s, .i .i64 (.ofNat (skipN s n)), .i .i64 o]]), h.n⟩)
      | false => none)
    | _ => none)
  | _ => none
noncomputable def XK : XT := fun f args h => match Nat.beq f 100 with
  | true => xWord args h
  | false => match Nat.beq f 91 with
    | true => xCheck args h
    | false => match Nat.beq f 74 with
      | true => xString args h
      | false => none
theorem xk (m : Int) : XOk (EK m) XK := by
  intro f args h o h' e
  obtain ⟨c, n0⟩ := h
  unfold XK at e
  split at e
  · rename_i hf; cases Nat.eq_of_beq_eq_true hf
    unfold xWord at e
    split at e
    · rename_i id
      split at e
      · rename_i s n oo hl
        split at e
        · rename_i hb
          cases e
          simp only [Bool.and_eq_true] at hb
          have := (word (m := n0) (c := c) (id := id) (s := s) (n := n) (o := oo) hl (Nat.le_of_ble_eq_true hb.1) (Nat.le_of_ble_eq_true hb.2)).to (gl' := glT m) (M' := MK) e1 (fun g row q => by cases q)
          exact this
        · cases e
      · cases e
    · cases e
  split at e
  · rename_i hf; cases Nat.eq_of_beq_eq_true hf
    unfold xCheck at e
    split at e
    · rename_i id
      split at e
      · rename_i t ht
        split at e
        · rename_i hb; cases Nat.eq_of_beq_eq_true hb
          split at e
          · rename_i a b hl
            split at e
            · rename_i ha
              cases e
              refine copyCheckH rfl ht hl ?_
              unfold isPtr0 at ha
              split at ha
              · exact .inl rfl
              · cases Nat.eq_of_beq_eq_true ha; exact .inr rfl
              · cases ha
            · cases e
          · cases e
        · cases e
      · cases e
    · cases e
  split at e
  · rename_i hf; cases Nat.eq_of_beq_eq_true hf
    unfold xString at e
    split at e
    · rename_i id
      split at e
      · rename_i t ht
        split at e
        · rename_i hb; cases Nat.eq_of_beq_eq_true hb
          split at e
          · rename_i a hl; cases e; exact stringNilH rfl ht hl
          · rename_i a idb n hl
            unfold xStr2 at e
            split at e
            · rename_i t2 rows ht2 hl2
              split at e
              · rename_i l hb2 hl3
                split at e
                · rename_i hc
                  cases e
                  cases Nat.eq_of_beq_eq_true hb2
                  simp only [Bool.and_eq_true] at hc
                  have h1 := Nat.eq_of_beq_eq_true hc.1
                  have h2 := Nat.le_of_ble_eq_true hc.2.1
                  have h3 := Nat.le_of_ble_eq_true hc.2.2
                  subst h1
                  exact stringH rfl (fun q => by rw [q] at h2; simp at h2) h3 ht hl ht2 (by rw [← bytesOf_rows hl3]; exact hl2)
                · cases e
              · cases e
            · cases e
          · cases e
        · cases e
      · cases e
    · cases e
  · cases e
end Go.Proofs.YthahgmncnbeddaaGreatDoorA
/- rule.one as a contract for runs that are reckoned out. -/
set_option linter.unusedVariables false
set_option linter.unusedSimpArgs false
namespace Go.Proofs.YthahgmncnbeddaaGreatDoorA
open Go Go.RowKit Go.Proofs
noncomputable def oneD : DefP := match Tryz.f76.body, Tryz.f76.results.toList with
  | some (.seq (.region id0 ops0 _) (.seq (.region id1 ops1 _) rest)), [.cell rp rt] => (match ops1 with
    | #[⟨some d9, .makeFunc (.func g) fs bs, t1, p1, a1, _⟩, ⟨_, _, t2, p2, a2, _⟩] => ⟨id0, id1, d9, ops0, g, fs, bs, t1, t2, p1, p2, a1, a2, rest, rp, rt⟩
    | _ => ⟨0, 0, 0, #[], 0, #[], #[], 0, 0, "", "", #[], #[], .skip, 0, 0⟩)
  | _, _ => ⟨0, 0, 0, #[], 0, #[], #[], 0, 0, "", "", #[], #[], .skip, 0, 0⟩
theorem oneD_body : Tryz.f76.body = some oneD.body := by kernel_rfl
noncomputable def oneC : RecP := match Tryz.f95.body with
  | some (.seq (.region id ops _) rest) => (match ops with
    | #[⟨some d1, _, t1, p1, a1, _⟩, ⟨some d2, _, t2, p2, a2, _⟩] => ⟨id, d1, d2, t1, t2, p1, p2, a1, a2, rest⟩
    | _ => ⟨0, 0, 0, 0, 0, "", "", #[], #[], .skip⟩)
  | _ => ⟨0, 0, 0, 0, 0, "", "", #[], #[], .skip⟩
theorem oneC_body : Tryz.f95.body = some oneC.body := by kernel_rfl
noncomputable def oneR (m : Int) (args : List AV) (h : Hp) : Option (Out × Hp) := match Nat.ble args.length 3 with
  | true => evDZ (EK m) XK 1000000 Tryz.f76.ntmps Tryz.f95.ntmps oneD oneC args h
  | false => none
noncomputable def XP (m : Int) : XT := fun f args h => match Nat.beq f 76 with
  | true => oneR m args h
  | false => XK f args h
theorem xp (m : Int) : XOk (EK m) (XP m) := by
  intro f args h o h' e
  unfold XP at e
  split at e
  · rename_i hf; cases Nat.eq_of_beq_eq_true hf
    unfold oneR at e
    split at e
    · rename_i hl
      have hl' := Nat.le_of_ble_eq_true hl
      have h64 : 3 ≤ Tryz.f76.ntmps := by decide +kernel
      exact evDZ_ok (D := oneD) (C := oneC) (fc := Tryz.f95) (xk m) (ekN m) (ekO m) Tryz.func76 oneD_body rfl (by kernel_rfl) (by decide +kernel) (by kernel_rfl) oneC_body rfl (by kernel_rfl) (by decide +kernel) (by omega) e
    · cases e
  · exact xk m f args h o h' e
end Go.Proofs.YthahgmncnbeddaaGreatDoorA
/- The catalog's tables as pure functions. -/
set_option linter.unusedVariables false
set_option linter.unusedSimpArgs false
namespace Go.Proofs.YthahgmncnbeddaaGreatDoorA
open Go Go.RowKit Go.Proofs
def monthsT : List (List UInt8) := [[106, 97, 110, 32, 51, 49, 32, 102, 101, 98, 32, 50, 56, 47, 50, 57, 32, 109, 97, 114, 32, 51, 49, 32, 97, 112, 114, 32, 51, 48, 32, 109, 97, 121, 32, 51, 49, 32, 106, 117, 110, 32, 51, 48, 32, 106, 117, 108, 32, 51, 49, 32, 97, 117, 103, 32, 51, 49, 32, 115, 101, 112, 32, 51, 48, 32, 111, 99, 116, 32, 51, 49, 32, 110, 111, 118, 32, 51, 48, 32, 100, 101, 99, 32, 51, 49],
  [109, 97, 32, 51, 48, 32, 109, 98, 32, 51, 48, 32, 109, 99, 32, 51, 48, 32, 109, 100, 32, 51, 48, 32, 109, 101, 32, 51, 48, 32, 109, 102, 32, 51, 48, 32, 109, 103, 32, 51, 48, 32, 109, 104, 32, 51, 48, 32, 109, 105, 32, 51, 48, 32, 109, 106, 32, 51, 48, 32, 109, 107, 32, 51, 48, 32, 109, 108, 32, 51, 48, 32, 101, 110, 100, 32, 53, 47, 54],
  [109, 97, 32, 51, 48, 32, 109, 98, 32, 50, 57, 32, 109, 99, 32, 51, 48, 32, 109, 100, 32, 50, 57, 32, 109, 101, 32, 51, 48, 32, 109, 102, 32, 50, 57, 32, 109, 103, 32, 51, 48, 32, 109, 104, 32, 50, 57, 32, 109, 105, 32, 51, 48, 32, 109, 106, 32, 50, 57, 32, 109, 107, 32, 51, 48, 32, 109, 108, 32, 50, 57, 47, 51, 48],
  [109, 97, 32, 51, 49, 32, 109, 98, 32, 51, 49, 32, 109, 99, 32, 51, 49, 32, 109, 100, 32, 51, 49, 32, 109, 101, 32, 51, 49, 32, 109, 102, 32, 51, 49, 32, 109, 103, 32, 51, 48, 32, 109, 104, 32, 51, 48, 32, 109, 105, 32, 51, 48, 32, 109, 106, 32, 51, 48, 32, 109, 107, 32, 51, 48, 32, 109, 108, 32, 50, 57, 47, 51, 48],
  [109, 97, 32, 51, 48, 47, 51, 49, 32, 109, 98, 32, 51, 49, 32, 109, 99, 32, 51, 49, 32, 109, 100, 32, 51, 49, 32, 109, 101, 32, 51, 49, 32, 109, 102, 32, 51, 49, 32, 109, 103, 32, 51, 48, 32, 109, 104, 32, 51, 48, 32, 109, 105, 32, 51, 48, 32, 109, 106, 32, 51, 48, 32, 109, 107, 32, 51, 48, 32, 109, 108, 32, 51, 48],
  [109, 97, 32, 49, 57, 32, 109, 98, 32, 49, 57, 32, 109, 99, 32, 49, 57, 32, 109, 100, 32, 49, 57, 32, 109, 101, 32, 49, 57, 32, 109, 102, 32, 49, 57, 32, 109, 103, 32, 49, 57, 32, 109, 104, 32, 49, 57, 32, 109, 105, 32, 49, 57, 32, 109, 106, 32, 49, 57, 32, 109, 107, 32, 49, 57, 32, 109, 108, 32, 49, 57, 32, 109, 109, 32, 49, 57, 32, 109, 110, 32, 49, 57, 32, 109, 111, 32, 49, 57, 32, 109, 112, 32, 49, 57, 32, 109, 113, 32, 49, 57, 32, 109, 114, 32, 49, 57, 32, 103, 97, 112, 32, 52, 47, 53, 32, 109, 115, 32, 49, 57],
  [109, 97, 32, 51, 48, 32, 109, 98, 32, 51, 48, 32, 109, 99, 32, 51, 49, 32, 109, 100, 32, 51, 48, 32, 109, 101, 32, 51, 48, 32, 109, 102, 32, 51, 49, 32, 109, 103, 32, 51, 48, 32, 109, 104, 32, 51, 48, 32, 109, 105, 32, 51, 49, 32, 109, 106, 32, 51, 48, 32, 109, 107, 32, 51, 48, 32, 109, 108, 32, 51, 49, 32, 119, 101, 101, 107, 32, 48, 47, 55],
  [109, 97, 32, 50, 56, 32, 109, 98, 32, 50, 56, 32, 109, 99, 32, 50, 56, 32, 109, 100, 32, 50, 56, 32, 109, 101, 32, 50, 56, 32, 109, 102, 32, 50, 56, 32, 109, 103, 32, 50, 56, 32, 109, 104, 32, 50, 56, 32, 109, 105, 32, 50, 56, 32, 109, 106, 32, 50, 56, 32, 109, 107, 32, 50, 56, 32, 109, 108, 32, 50, 56, 32, 109, 109, 32, 50, 56, 32, 114, 101, 115, 116, 32, 49, 47, 50],
  [109, 97, 32, 51, 48, 32, 109, 98, 32, 51, 48, 32, 109, 99, 32, 51, 48, 32, 109, 100, 32, 51, 48, 32, 109, 101, 32, 51, 48, 32, 109, 102, 32, 51, 48, 32, 109, 103, 32, 51, 48, 32, 109, 104, 32, 51, 48, 32, 109, 105, 32, 51, 48, 32, 109, 106, 32, 51, 48, 32, 109, 107, 32, 51, 48, 32, 109, 108, 32, 51, 48, 32, 101, 110, 100, 32, 53],
  [109, 97, 32, 50, 48, 32, 109, 98, 32, 50, 48, 32, 109, 99, 32, 50, 48, 32, 109, 100, 32, 50, 48, 32, 109, 101, 32, 50, 48, 32, 109, 102, 32, 50, 48, 32, 109, 103, 32, 50, 48, 32, 109, 104, 32, 50, 48, 32, 109, 105, 32, 50, 48, 32, 109, 106, 32, 50, 48, 32, 109, 107, 32, 50, 48, 32, 109, 108, 32, 50, 48, 32, 109, 109, 32, 50, 48, 32, 109, 110, 32, 50, 48, 32, 109, 111, 32, 50, 48, 32, 109, 112, 32, 50, 48, 32, 109, 113, 32, 50, 48, 32, 109, 114, 32, 50, 48, 32, 101, 110, 100, 32, 53],
  [109, 97, 32, 50, 48, 32, 109, 98, 32, 50, 48, 32, 109, 99, 32, 50, 48, 32, 109, 100, 32, 50, 48, 32, 109, 101, 32, 50, 48, 32, 109, 102, 32, 50, 48, 32, 109, 103, 32, 50, 48, 32, 109, 104, 32, 50, 48, 32, 109, 105, 32, 50, 48, 32, 109, 106, 32, 50, 48, 32, 109, 107, 32, 50, 48, 32, 109, 108, 32, 50, 48, 32, 109, 109, 32, 50, 48, 32, 109, 110, 32, 50, 48, 32, 109, 111, 32, 50, 48, 32, 109, 112, 32, 50, 48, 32, 109, 113, 32, 50, 48, 32, 109, 114, 32, 50, 48],
  [109, 97, 32, 50, 48, 32, 109, 98, 32, 50, 48, 32, 109, 99, 32, 50, 48, 32, 109, 100, 32, 50, 48, 32, 109, 101, 32, 50, 48, 32, 109, 102, 32, 50, 48, 32, 109, 103, 32, 50, 48, 32, 109, 104, 32, 50, 48, 32, 109, 105, 32, 50, 48, 32, 109, 106, 32, 50, 48, 32, 109, 107, 32, 50, 48, 32, 109, 108, 32, 50, 48, 32, 109, 109, 32, 50, 48],
  [109, 97, 32, 51, 49, 32, 109, 98, 32, 51, 48, 32, 109, 99, 32, 51, 48, 32, 109, 100, 32, 51, 49, 32, 109, 101, 32, 51, 48, 32, 109, 102, 32, 51, 48, 32, 109, 103, 32, 51, 49, 32, 109, 104, 32, 51, 48, 32, 109, 105, 32, 51, 48, 32, 109, 106, 32, 51, 49, 32, 119, 105, 110, 116, 101, 114, 32, 54, 49, 47, 54, 50],
  [115, 112, 114, 105, 110, 103, 32, 57, 49, 32, 115, 117, 109, 109, 101, 114, 32, 57, 49, 32, 97, 117, 116, 117, 109, 110, 32, 57, 49, 32, 119, 105, 110, 116, 101, 114, 32, 57, 49, 32, 114, 101, 115, 116, 32, 49, 47, 50],
  [109, 97, 114, 32, 51, 49, 32, 97, 112, 114, 32, 51, 48, 32, 109, 97, 121, 32, 51, 49, 32, 106, 117, 110, 32, 51, 48, 32, 106, 117, 108, 32, 51, 49, 32, 97, 117, 103, 32, 51, 49, 32, 115, 101, 112, 32, 51, 48, 32, 111, 99, 116, 32, 51, 49, 32, 110, 111, 118, 32, 51, 48, 32, 100, 101, 99, 32, 51, 49, 32, 106, 97, 110, 32, 51, 49, 32, 102, 101, 98, 32, 50, 56, 47, 50, 57],
  [109, 97, 32, 51, 48, 32, 109, 98, 32, 50, 57, 32, 109, 99, 32, 51, 48, 32, 109, 100, 32, 50, 57, 32, 109, 101, 32, 51, 48, 32, 109, 102, 32, 50, 57, 32, 109, 103, 32, 51, 48, 32, 109, 104, 32, 50, 57, 32, 109, 105, 32, 51, 48, 32, 109, 106, 32, 50, 57, 32, 109, 107, 32, 51, 48, 32, 109, 108, 32, 50, 57, 32, 101, 120, 116, 114, 97, 32, 48, 47, 51, 48],
  [109, 97, 32, 50, 57, 47, 51, 48, 32, 109, 98, 32, 51, 49, 32, 109, 99, 32, 51, 49, 32, 109, 100, 32, 51, 49, 32, 109, 101, 32, 51, 49, 32, 109, 102, 32, 51, 49, 32, 109, 103, 32, 51, 49, 32, 109, 104, 32, 51, 48, 32, 109, 105, 32, 51, 48, 32, 109, 106, 32, 51, 48, 32, 109, 107, 32, 51, 48, 32, 109, 108, 32, 51, 48],
  [115, 101, 112, 32, 51, 48, 32, 111, 99, 116, 32, 51, 49, 32, 110, 111, 118, 32, 51, 48, 32, 100, 101, 99, 32, 51, 49, 32, 106, 97, 110, 32, 51, 49, 32, 102, 101, 98, 32, 50, 56, 47, 50, 57, 32, 109, 97, 114, 32, 51, 49, 32, 97, 112, 114, 32, 51, 48, 32, 109, 97, 121, 32, 51, 49, 32, 106, 117, 110, 32, 51, 48, 32, 106, 117, 108, 32, 51, 49, 32, 97, 117, 103, 32, 51, 49],
  [111, 99, 116, 32, 51, 49, 32, 110, 111, 118, 32, 51, 48, 32, 100, 101, 99, 32, 51, 49, 32, 106, 97, 110, 32, 51, 49, 32, 102, 101, 98, 32, 50, 56, 47, 50, 57, 32, 109, 97, 114, 32, 51, 49, 32, 97, 112, 114, 32, 51, 48, 32, 109, 97, 121, 32, 51, 49, 32, 106, 117, 110, 32, 51, 48, 32, 106, 117, 108, 32, 51, 49, 32, 97, 117, 103, 32, 51, 49, 32, 115, 101, 112, 32, 51, 48],
  [109, 97, 32, 51, 54, 32, 109, 98, 32, 51, 54, 32, 109, 99, 32, 51, 54, 32, 109, 100, 32, 51, 54, 32, 109, 101, 32, 51, 54, 32, 109, 102, 32, 51, 54, 32, 109, 103, 32, 51, 54, 32, 109, 104, 32, 51, 54, 32, 109, 105, 32, 51, 54, 32, 109, 106, 32, 51, 54, 32, 114, 101, 115, 116, 32, 53, 47, 54]]
structure CatRow where
  name : List UInt8
  epoch : Int
  cycle : Int
  leap : List UInt8
  months : Nat
def catT : List CatRow := [⟨[103, 114, 101, 103, 111, 114, 105, 97, 110], 1, 400, [121, 32, 37, 32, 52, 32, 61, 32, 48, 32, 97, 110, 100, 32, 40, 110, 111, 116, 32, 121, 32, 37, 32, 49, 48, 48, 32, 61, 32, 48, 32, 111, 114, 32, 121, 32, 37, 32, 52, 48, 48, 32, 61, 32, 48, 41], 65⟩,
  ⟨[106, 117, 108, 105, 97, 110], -1, 4, [121, 32, 37, 32, 52, 32, 61, 32, 48], 65⟩,
  ⟨[114, 101, 118, 105, 115, 101, 100], 1, 900, [121, 32, 37, 32, 52, 32, 61, 32, 48, 32, 97, 110, 100, 32, 110, 111, 116, 32, 121, 32, 37, 32, 49, 48, 48, 32, 61, 32, 48, 32, 111, 114, 32, 121, 32, 37, 32, 57, 48, 48, 32, 61, 32, 50, 48, 48, 32, 111, 114, 32, 121, 32, 37, 32, 57, 48, 48, 32, 61, 32, 54, 48, 48], 65⟩,
  ⟨[113, 117, 97, 116, 101, 114, 110], 1, 128, [121, 32, 37, 32, 52, 32, 61, 32, 48, 32, 97, 110, 100, 32, 110, 111, 116, 32, 121, 32, 37, 32, 49, 50, 56, 32, 61, 32, 48], 65⟩,
  ⟨[99, 111, 112, 116, 105, 99], 103605, 4, [121, 32, 37, 32, 52, 32, 61, 32, 51], 66⟩,
  ⟨[101, 116, 104, 105, 111, 112, 105, 99], 2796, 4, [121, 32, 37, 32, 52, 32, 61, 32, 51], 66⟩,
  ⟨[101, 103, 121, 112, 116, 105, 97, 110], -272787, 1, [48], 73⟩,
  ⟨[97, 114, 109, 101, 110, 105, 97, 110], 201443, 1, [48], 73⟩,
  ⟨[122, 111, 114, 111, 97, 115, 116, 101, 114], 230638, 1, [48], 73⟩,
  ⟨[116, 97, 98, 117, 108, 97, 114, 97], 227015, 30, [40, 49, 49, 32, 42, 32, 121, 32, 43, 32, 49, 52, 41, 32, 37, 32, 51, 48, 32, 60, 32, 49, 49], 67⟩,
  ⟨[116, 97, 98, 117, 108, 97, 114, 98], 227014, 30, [40, 49, 49, 32, 42, 32, 121, 32, 43, 32, 49, 52, 41, 32, 37, 32, 51, 48, 32, 60, 32, 49, 49], 67⟩,
  ⟨[116, 97, 98, 117, 108, 97, 114, 99], 227015, 30, [40, 49, 49, 32, 42, 32, 121, 32, 43, 32, 49, 53, 41, 32, 37, 32, 51, 48, 32, 60, 32, 49, 49], 67⟩,
  ⟨[116, 97, 98, 117, 108, 97, 114, 100], 227014, 30, [40, 49, 49, 32, 42, 32, 121, 32, 43, 32, 49, 53, 41, 32, 37, 32, 51, 48, 32, 60, 32, 49, 49], 67⟩,
  ⟨[116, 97, 98, 117, 108, 97, 114, 101], 227015, 30, [40, 49, 49, 32, 42, 32, 121, 32, 43, 32, 57, 41, 32, 37, 32, 51, 48, 32, 60, 32, 49, 49], 67⟩,
  ⟨[116, 97, 98, 117, 108, 97, 114, 102], 227015, 8, [121, 32, 37, 32, 56, 32, 61, 32, 50, 32, 111, 114, 32, 121, 32, 37, 32, 56, 32, 61, 32, 53, 32, 111, 114, 32, 121, 32, 37, 32, 56, 32, 61, 32, 55], 67⟩,
  ⟨[112, 101, 114, 115, 105, 97, 110], 226896, 33, [40, 56, 32, 42, 32, 121, 32, 43, 32, 50, 49, 41, 32, 37, 32, 51, 51, 32, 60, 32, 56], 68⟩,
  ⟨[112, 101, 114, 115, 105, 97, 110, 108, 111, 110, 103], 226896, 2820, [40, 40, 121, 32, 45, 32, 52, 55, 52, 41, 32, 37, 32, 50, 56, 50, 48, 32, 43, 32, 53, 49, 50, 41, 32, 42, 32, 54, 56, 50, 32, 37, 32, 50, 56, 49, 54, 32, 60, 32, 54, 56, 50], 68⟩,
  ⟨[105, 110, 100, 105, 97, 110], 28570, 400, [40, 121, 32, 43, 32, 55, 56, 41, 32, 37, 32, 52, 32, 61, 32, 48, 32, 97, 110, 100, 32, 40, 110, 111, 116, 32, 40, 121, 32, 43, 32, 55, 56, 41, 32, 37, 32, 49, 48, 48, 32, 61, 32, 48, 32, 111, 114, 32, 40, 121, 32, 43, 32, 55, 56, 41, 32, 37, 32, 52, 48, 48, 32, 61, 32, 48, 41], 69⟩,
  ⟨[98, 97, 100, 105], 673222, 400, [40, 121, 32, 43, 32, 49, 56, 52, 52, 41, 32, 37, 32, 52, 32, 61, 32, 48, 32, 97, 110, 100, 32, 40, 110, 111, 116, 32, 40, 121, 32, 43, 32, 49, 56, 52, 52, 41, 32, 37, 32, 49, 48, 48, 32, 61, 32, 48, 32, 111, 114, 32, 40, 121, 32, 43, 32, 49, 56, 52, 52, 41, 32, 37, 32, 52, 48, 48, 32, 61, 32, 48, 41], 70⟩,
  ⟨[114, 101, 112, 117, 98, 108, 105, 99], 654415, 400, [121, 32, 37, 32, 52, 32, 61, 32, 48, 32, 97, 110, 100, 32, 40, 110, 111, 116, 32, 121, 32, 37, 32, 49, 48, 48, 32, 61, 32, 48, 32, 111, 114, 32, 121, 32, 37, 32, 52, 48, 48, 32, 61, 32, 48, 41], 66⟩,
  ⟨[114, 101, 112, 117, 98, 108, 105, 99, 111, 108, 100], 654415, 4, [121, 32, 37, 32, 52, 32, 61, 32, 51], 66⟩,
  ⟨[104, 97, 97, 98], -1137490, 1, [48], 74⟩,
  ⟨[116, 117, 110], -1137142, 1, [48], 75⟩,
  ⟨[116, 122, 111, 108, 107, 105, 110], -1137301, 1, [48], 76⟩,
  ⟨[119, 101, 101, 107, 121, 101, 97, 114], 1, 293, [40, 53, 50, 32, 42, 32, 121, 32, 43, 32, 49, 54, 54, 41, 32, 37, 32, 50, 57, 51, 32, 60, 32, 53, 50], 71⟩,
  ⟨[102, 105, 120, 101, 100, 121, 101, 97, 114], 1, 400, [121, 32, 37, 32, 52, 32, 61, 32, 48, 32, 97, 110, 100, 32, 40, 110, 111, 116, 32, 121, 32, 37, 32, 49, 48, 48, 32, 61, 32, 48, 32, 111, 114, 32, 121, 32, 37, 32, 52, 48, 48, 32, 61, 32, 48, 41], 72⟩,
  ⟨[112, 111, 115, 105, 116, 105, 118, 101], 653055, 400, [40, 121, 32, 43, 32, 49, 55, 56, 56, 41, 32, 37, 32, 52, 32, 61, 32, 48, 32, 97, 110, 100, 32, 40, 110, 111, 116, 32, 40, 121, 32, 43, 32, 49, 55, 56, 56, 41, 32, 37, 32, 49, 48, 48, 32, 61, 32, 48, 32, 111, 114, 32, 40, 121, 32, 43, 32, 49, 55, 56, 56, 41, 32, 37, 32, 52, 48, 48, 32, 61, 32, 48, 41], 72⟩,
  ⟨[115, 101, 97, 115, 111, 110, 115], 1, 400, [121, 32, 37, 32, 52, 32, 61, 32, 48, 32, 97, 110, 100, 32, 40, 110, 111, 116, 32, 121, 32, 37, 32, 49, 48, 48, 32, 61, 32, 48, 32, 111, 114, 32, 121, 32, 37, 32, 52, 48, 48, 32, 61, 32, 48, 41], 78⟩,
  ⟨[109, 97, 114, 99, 104, 111, 108, 100], 58, 4, [121, 32, 37, 32, 52, 32, 61, 32, 51], 79⟩,
  ⟨[109, 97, 114, 99, 104, 110, 101, 119], 60, 400, [40, 121, 32, 43, 32, 49, 41, 32, 37, 32, 52, 32, 61, 32, 48, 32, 97, 110, 100, 32, 40, 110, 111, 116, 32, 40, 121, 32, 43, 32, 49, 41, 32, 37, 32, 49, 48, 48, 32, 61, 32, 48, 32, 111, 114, 32, 40, 121, 32, 43, 32, 49, 41, 32, 37, 32, 52, 48, 48, 32, 61, 32, 48, 41], 79⟩,
  ⟨[98, 121, 122, 97, 110, 116, 105, 110, 101], -2011920, 4, [121, 32, 37, 32, 52, 32, 61, 32, 48], 82⟩,
  ⟨[115, 121, 114, 105, 97, 110], -113686, 4, [121, 32, 37, 32, 52, 32, 61, 32, 51], 83⟩,
  ⟨[111, 108, 121, 109, 112, 105, 99], -283000, 8, [121, 32, 37, 32, 56, 32, 61, 32, 51, 32, 111, 114, 32, 121, 32, 37, 32, 56, 32, 61, 32, 53, 32, 111, 114, 32, 121, 32, 37, 32, 56, 32, 61, 32, 48], 80⟩,
  ⟨[109, 101, 116, 111, 110, 105, 99], -1373429, 19, [40, 55, 32, 42, 32, 121, 32, 43, 32, 49, 41, 32, 37, 32, 49, 57, 32, 60, 32, 55], 80⟩,
  ⟨[109, 101, 116, 111, 110, 105, 99, 98], -272000, 19, [40, 55, 32, 42, 32, 121, 32, 43, 32, 53, 41, 32, 37, 32, 49, 57, 32, 60, 32, 55], 80⟩,
  ⟨[108, 101, 97, 112, 104, 101, 97, 100], 1, 4, [121, 32, 37, 32, 52, 32, 61, 32, 48], 81⟩,
  ⟨[100, 101, 99, 105, 109, 97, 108], 1, 400, [121, 32, 37, 32, 52, 32, 61, 32, 48, 32, 97, 110, 100, 32, 40, 110, 111, 116, 32, 121, 32, 37, 32, 49, 48, 48, 32, 61, 32, 48, 32, 111, 114, 32, 121, 32, 37, 32, 52, 48, 48, 32, 61, 32, 48, 41], 84⟩,
  ⟨[119, 105, 110, 116, 101, 114], -272000, 4, [121, 32, 37, 32, 52, 32, 61, 32, 48], 77⟩,
  ⟨[97, 108, 119, 97, 121, 115], 1, 1, [49], 65⟩,
  ⟨[110, 101, 118, 101, 114], 1, 1, [48], 65⟩]
def monthsA : AV := .isl true 1 (monthsT.map fun s => [.s s])
def rowA (r : CatRow) : List AV := [.s r.name, .i .i64 r.epoch, .i .i64 r.cycle, .s r.leap, .i .u8 r.months]
def tableA : AV := .isl true 5 (catT.map rowA)
set_option maxRecDepth 10000000
theorem monthsP (m : Int) : MeetsP Tryz.prog (glT m) 70 [] monthsA :=
  evOP_ok (E := EK m) (ek m) (xp m) (ekN m) (ekO m) (n := 1000) (by kernel_rfl)
theorem tableP (m : Int) : MeetsP Tryz.prog (glT m) 55 [] tableA :=
  evOP_ok (E := EK m) (ek m) (xp m) (ekN m) (ekO m) (n := 1000) (by kernel_rfl)
def MT (f : FuncId) (args : List AV) : Option AV := match Nat.beq f 55 with
  | true => (match args with | [] => some tableA | _ => none)
  | false => match Nat.beq f 70 with
    | true => (match args with | [] => some monthsA | _ => none)
    | false => MK f args
theorem mt (m : Int) : ∀ f args r, MT f args = some r → MeetsP Tryz.prog (glT m) f args r := by
  intro f args r h
  unfold MT at h
  split at h
  · rename_i hf; cases Nat.eq_of_beq_eq_true hf
    split at h
    · cases h; exact tableP m
    · cases h
  split at h
  · rename_i hf; cases Nat.eq_of_beq_eq_true hf
    split at h
    · cases h; exact monthsP m
    · cases h
  · exact mk m f args r h
noncomputable def ET (m : Int) : Env := ⟨Tryz.prog, glT m, MT⟩
theorem et (m : Int) : ModOk (ET m) := mt m
theorem xOk_to {P : Program} {gl : Nat → Option (List AV)} {M M' : FuncId → List AV → Option AV} {X : XT} (hM : ModOk ⟨P, gl, M⟩) (hx : XOk ⟨P, gl, M⟩ X) : XOk ⟨P, gl, M'⟩ X :=
  fun f args h o h' e => (hx f args h o h' e).to hM (fun g row q => q)
theorem xt (m : Int) : XOk (ET m) (XP m) := xOk_to (ek m) (xp m)
end Go.Proofs.YthahgmncnbeddaaGreatDoorA
/- The catalog's rules as plain data. -/
set_option linter.unusedVariables false
set_option linter.unusedSimpArgs false
namespace Go.Proofs.YthahgmncnbeddaaGreatDoorA
open Go Go.RowKit Go.Proofs
/-- An expression of a rule. -/
inductive RExpr where
  | num (n : Int)
  | year
  | un (k : Int) (a : RExpr)
  | bin (k : Int) (a b : RExpr)
def RExpr.cells : RExpr → List AV
  | .num n => [.i .i64 1, .i .i64 n, .nils]
  | .year => [.i .i64 2, .i .i64 0, .nils]
  | .un k a => [.i .i64 k, .i .i64 0, .isl true 3 [a.cells]]
  | .bin k a b => [.i .i64 k, .i .i64 0, .isl true 3 [a.cells, b.cells]]
def leapsT : List RExpr := [.bin 12 (.bin 10 (.bin 8 (.year) (.num 4)) (.num 0)) (.bin 13 (.un 11 (.bin 10 (.bin 8 (.year) (.num 100)) (.num 0))) (.bin 10 (.bin 8 (.year) (.num 400)) (.num 0))),
  .bin 10 (.bin 8 (.year) (.num 4)) (.num 0),
  .bin 13 (.bin 13 (.bin 12 (.bin 10 (.bin 8 (.year) (.num 4)) (.num 0)) (.un 11 (.bin 10 (.bin 8 (.year) (.num 100)) (.num 0)))) (.bin 10 (.bin 8 (.year) (.num 900)) (.num 200))) (.bin 10 (.bin 8 (.year) (.num 900)) (.num 600)),
  .bin 12 (.bin 10 (.bin 8 (.year) (.num 4)) (.num 0)) (.un 11 (.bin 10 (.bin 8 (.year) (.num 128)) (.num 0))),
  .bin 10 (.bin 8 (.year) (.num 4)) (.num 3),
  .num 0,
  .bin 9 (.bin 8 (.bin 4 (.bin 6 (.num 11) (.year)) (.num 14)) (.num 30)) (.num 11),
  .bin 9 (.bin 8 (.bin 4 (.bin 6 (.num 11) (.year)) (.num 15)) (.num 30)) (.num 11),
  .bin 9 (.bin 8 (.bin 4 (.bin 6 (.num 11) (.year)) (.num 9)) (.num 30)) (.num 11),
  .bin 13 (.bin 13 (.bin 10 (.bin 8 (.year) (.num 8)) (.num 2)) (.bin 10 (.bin 8 (.year) (.num 8)) (.num 5))) (.bin 10 (.bin 8 (.year) (.num 8)) (.num 7)),
  .bin 9 (.bin 8 (.bin 4 (.bin 6 (.num 8) (.year)) (.num 21)) (.num 33)) (.num 8),
  .bin 9 (.bin 8 (.bin 6 (.bin 4 (.bin 8 (.bin 5 (.year) (.num 474)) (.num 2820)) (.num 512)) (.num 682)) (.num 2816)) (.num 682),
  .bin 12 (.bin 10 (.bin 8 (.bin 4 (.year) (.num 78)) (.num 4)) (.num 0)) (.bin 13 (.un 11 (.bin 10 (.bin 8 (.bin 4 (.year) (.num 78)) (.num 100)) (.num 0))) (.bin 10 (.bin 8 (.bin 4 (.year) (.num 78)) (.num 400)) (.num 0))),
  .bin 12 (.bin 10 (.bin 8 (.bin 4 (.year) (.num 1844)) (.num 4)) (.num 0)) (.bin 13 (.un 11 (.bin 10 (.bin 8 (.bin 4 (.year) (.num 1844)) (.num 100)) (.num 0))) (.bin 10 (.bin 8 (.bin 4 (.year) (.num 1844)) (.num 400)) (.num 0))),
  .bin 9 (.bin 8 (.bin 4 (.bin 6 (.num 52) (.year)) (.num 166)) (.num 293)) (.num 52),
  .bin 12 (.bin 10 (.bin 8 (.bin 4 (.year) (.num 1788)) (.num 4)) (.num 0)) (.bin 13 (.un 11 (.bin 10 (.bin 8 (.bin 4 (.year) (.num 1788)) (.num 100)) (.num 0))) (.bin 10 (.bin 8 (.bin 4 (.year) (.num 1788)) (.num 400)) (.num 0))),
  .bin 12 (.bin 10 (.bin 8 (.bin 4 (.year) (.num 1)) (.num 4)) (.num 0)) (.bin 13 (.un 11 (.bin 10 (.bin 8 (.bin 4 (.year) (.num 1)) (.num 100)) (.num 0))) (.bin 10 (.bin 8 (.bin 4 (.year) (.num 1)) (.num 400)) (.num 0))),
  .bin 13 (.bin 13 (.bin 10 (.bin 8 (.year) (.num 8)) (.num 3)) (.bin 10 (.bin 8 (.year) (.num 8)) (.num 5))) (.bin 10 (.bin 8 (.year) (.num 8)) (.num 0)),
  .bin 9 (.bin 8 (.bin 4 (.bin 6 (.num 7) (.year)) (.num 1)) (.num 19)) (.num 7),
  .bin 9 (.bin 8 (.bin 4 (.bin 6 (.num 7) (.year)) (.num 5)) (.num 19)) (.num 7),
  .num 1]
def leapNo : List Nat := [0, 1, 2, 3, 4, 4, 5, 5, 5, 6, 6, 7, 7, 8, 9, 10, 11, 12, 13, 0, 4, 5, 5, 5, 14, 0, 15, 0, 4, 16, 1, 4, 17, 18, 19, 1, 0, 1, 20, 5]
def monT : List (List (List UInt8 × Int × Int)) := [[([106, 97, 110], 31, 31), ([102, 101, 98], 28, 29), ([109, 97, 114], 31, 31), ([97, 112, 114], 30, 30), ([109, 97, 121], 31, 31), ([106, 117, 110], 30, 30), ([106, 117, 108], 31, 31), ([97, 117, 103], 31, 31), ([115, 101, 112], 30, 30), ([111, 99, 116], 31, 31), ([110, 111, 118], 30, 30), ([100, 101, 99], 31, 31)],
  [([109, 97], 30, 30), ([109, 98], 30, 30), ([109, 99], 30, 30), ([109, 100], 30, 30), ([109, 101], 30, 30), ([109, 102], 30, 30), ([109, 103], 30, 30), ([109, 104], 30, 30), ([109, 105], 30, 30), ([109, 106], 30, 30), ([109, 107], 30, 30), ([109, 108], 30, 30), ([101, 110, 100], 5, 6)],
  [([109, 97], 30, 30), ([109, 98], 29, 29), ([109, 99], 30, 30), ([109, 100], 29, 29), ([109, 101], 30, 30), ([109, 102], 29, 29), ([109, 103], 30, 30), ([109, 104], 29, 29), ([109, 105], 30, 30), ([109, 106], 29, 29), ([109, 107], 30, 30), ([109, 108], 29, 30)],
  [([109, 97], 31, 31), ([109, 98], 31, 31), ([109, 99], 31, 31), ([109, 100], 31, 31), ([109, 101], 31, 31), ([109, 102], 31, 31), ([109, 103], 30, 30), ([109, 104], 30, 30), ([109, 105], 30, 30), ([109, 106], 30, 30), ([109, 107], 30, 30), ([109, 108], 29, 30)],
  [([109, 97], 30, 31), ([109, 98], 31, 31), ([109, 99], 31, 31), ([109, 100], 31, 31), ([109, 101], 31, 31), ([109, 102], 31, 31), ([109, 103], 30, 30), ([109, 104], 30, 30), ([109, 105], 30, 30), ([109, 106], 30, 30), ([109, 107], 30, 30), ([109, 108], 30, 30)],
  [([109, 97], 19, 19), ([109, 98], 19, 19), ([109, 99], 19, 19), ([109, 100], 19, 19), ([109, 101], 19, 19), ([109, 102], 19, 19), ([109, 103], 19, 19), ([109, 104], 19, 19), ([109, 105], 19, 19), ([109, 106], 19, 19), ([109, 107], 19, 19), ([109, 108], 19, 19), ([109, 109], 19, 19), ([109, 110], 19, 19), ([109, 111], 19, 19), ([109, 112], 19, 19), ([109, 113], 19, 19), ([109, 114], 19, 19), ([103, 97, 112], 4, 5), ([109, 115], 19, 19)],
  [([109, 97], 30, 30), ([109, 98], 30, 30), ([109, 99], 31, 31), ([109, 100], 30, 30), ([109, 101], 30, 30), ([109, 102], 31, 31), ([109, 103], 30, 30), ([109, 104], 30, 30), ([109, 105], 31, 31), ([109, 106], 30, 30), ([109, 107], 30, 30), ([109, 108], 31, 31), ([119, 101, 101, 107], 0, 7)],
  [([109, 97], 28, 28), ([109, 98], 28, 28), ([109, 99], 28, 28), ([109, 100], 28, 28), ([109, 101], 28, 28), ([109, 102], 28, 28), ([109, 103], 28, 28), ([109, 104], 28, 28), ([109, 105], 28, 28), ([109, 106], 28, 28), ([109, 107], 28, 28), ([109, 108], 28, 28), ([109, 109], 28, 28), ([114, 101, 115, 116], 1, 2)],
  [([109, 97], 30, 30), ([109, 98], 30, 30), ([109, 99], 30, 30), ([109, 100], 30, 30), ([109, 101], 30, 30), ([109, 102], 30, 30), ([109, 103], 30, 30), ([109, 104], 30, 30), ([109, 105], 30, 30), ([109, 106], 30, 30), ([109, 107], 30, 30), ([109, 108], 30, 30), ([101, 110, 100], 5, 5)],
  [([109, 97], 20, 20), ([109, 98], 20, 20), ([109, 99], 20, 20), ([109, 100], 20, 20), ([109, 101], 20, 20), ([109, 102], 20, 20), ([109, 103], 20, 20), ([109, 104], 20, 20), ([109, 105], 20, 20), ([109, 106], 20, 20), ([109, 107], 20, 20), ([109, 108], 20, 20), ([109, 109], 20, 20), ([109, 110], 20, 20), ([109, 111], 20, 20), ([109, 112], 20, 20), ([109, 113], 20, 20), ([109, 114], 20, 20), ([101, 110, 100], 5, 5)],
  [([109, 97], 20, 20), ([109, 98], 20, 20), ([109, 99], 20, 20), ([109, 100], 20, 20), ([109, 101], 20, 20), ([109, 102], 20, 20), ([109, 103], 20, 20), ([109, 104], 20, 20), ([109, 105], 20, 20), ([109, 106], 20, 20), ([109, 107], 20, 20), ([109, 108], 20, 20), ([109, 109], 20, 20), ([109, 110], 20, 20), ([109, 111], 20, 20), ([109, 112], 20, 20), ([109, 113], 20, 20), ([109, 114], 20, 20)],
  [([109, 97], 20, 20), ([109, 98], 20, 20), ([109, 99], 20, 20), ([109, 100], 20, 20), ([109, 101], 20, 20), ([109, 102], 20, 20), ([109, 103], 20, 20), ([109, 104], 20, 20), ([109, 105], 20, 20), ([109, 106], 20, 20), ([109, 107], 20, 20), ([109, 108], 20, 20), ([109, 109], 20, 20)],
  [([109, 97], 31, 31), ([109, 98], 30, 30), ([109, 99], 30, 30), ([109, 100], 31, 31), ([109, 101], 30, 30), ([109, 102], 30, 30), ([109, 103], 31, 31), ([109, 104], 30, 30), ([109, 105], 30, 30), ([109, 106], 31, 31), ([119, 105, 110, 116, 101, 114], 61, 62)],
  [([115, 112, 114, 105, 110, 103], 91, 91), ([115, 117, 109, 109, 101, 114], 91, 91), ([97, 117, 116, 117, 109, 110], 91, 91), ([119, 105, 110, 116, 101, 114], 91, 91), ([114, 101, 115, 116], 1, 2)],
  [([109, 97, 114], 31, 31), ([97, 112, 114], 30, 30), ([109, 97, 121], 31, 31), ([106, 117, 110], 30, 30), ([106, 117, 108], 31, 31), ([97, 117, 103], 31, 31), ([115, 101, 112], 30, 30), ([111, 99, 116], 31, 31), ([110, 111, 118], 30, 30), ([100, 101, 99], 31, 31), ([106, 97, 110], 31, 31), ([102, 101, 98], 28, 29)],
  [([109, 97], 30, 30), ([109, 98], 29, 29), ([109, 99], 30, 30), ([109, 100], 29, 29), ([109, 101], 30, 30), ([109, 102], 29, 29), ([109, 103], 30, 30), ([109, 104], 29, 29), ([109, 105], 30, 30), ([109, 106], 29, 29), ([109, 107], 30, 30), ([109, 108], 29, 29), ([101, 120, 116, 114, 97], 0, 30)],
  [([109, 97], 29, 30), ([109, 98], 31, 31), ([109, 99], 31, 31), ([109, 100], 31, 31), ([109, 101], 31, 31), ([109, 102], 31, 31), ([109, 103], 31, 31), ([109, 104], 30, 30), ([109, 105], 30, 30), ([109, 106], 30, 30), ([109, 107], 30, 30), ([109, 108], 30, 30)],
  [([115, 101, 112], 30, 30), ([111, 99, 116], 31, 31), ([110, 111, 118], 30, 30), ([100, 101, 99], 31, 31), ([106, 97, 110], 31, 31), ([102, 101, 98], 28, 29), ([109, 97, 114], 31, 31), ([97, 112, 114], 30, 30), ([109, 97, 121], 31, 31), ([106, 117, 110], 30, 30), ([106, 117, 108], 31, 31), ([97, 117, 103], 31, 31)],
  [([111, 99, 116], 31, 31), ([110, 111, 118], 30, 30), ([100, 101, 99], 31, 31), ([106, 97, 110], 31, 31), ([102, 101, 98], 28, 29), ([109, 97, 114], 31, 31), ([97, 112, 114], 30, 30), ([109, 97, 121], 31, 31), ([106, 117, 110], 30, 30), ([106, 117, 108], 31, 31), ([97, 117, 103], 31, 31), ([115, 101, 112], 30, 30)],
  [([109, 97], 36, 36), ([109, 98], 36, 36), ([109, 99], 36, 36), ([109, 100], 36, 36), ([109, 101], 36, 36), ([109, 102], 36, 36), ([109, 103], 36, 36), ([109, 104], 36, 36), ([109, 105], 36, 36), ([109, 106], 36, 36), ([114, 101, 115, 116], 5, 6)]]
def monA (l : List (List UInt8 × Int × Int)) : AV := .isl true 3 (l.map fun q => [.s q.1, .i .i64 q.2.1, .i .i64 q.2.2])
def leapOf (k : Nat) : RExpr := (leapsT[(leapNo[k]?).getD 0]?).getD .year
def monOf (r : CatRow) : List (List UInt8 × Int × Int) := (monT[r.months - 65]?).getD []
/-- The text of a rule of the catalog. -/
def textOf (r : CatRow) : List UInt8 :=
  [99, 97, 108, 101, 110, 100, 97, 114, 32] ++ r.name ++ [10, 101, 112, 111, 99, 104, 32] ++ Lib.itoa r.epoch ++ [10, 99, 121, 99, 108, 101, 32] ++ Lib.itoa r.cycle ++ [10, 108, 101, 97, 112, 32] ++ r.leap ++ [10] ++
  (monOf r).flatMap fun q => [109, 111, 110, 116, 104, 32] ++ q.1 ++ [32] ++ Lib.itoa q.2.1 ++ (if q.2.1 = q.2.2 then [] else [32] ++ Lib.itoa q.2.2) ++ [10]
/-- What the text is parsed as. -/
def treeA (k : Nat) (r : CatRow) : AV := .agg ([.s r.name, .i .i64 r.epoch, .i .i64 r.cycle] ++ (leapOf k).cells ++ [monA (monOf r)])
def sameG {α : Type} (p : α → α → Bool) : List α → List α → Bool
  | [], [] => true
  | x :: xs, y :: ys => p x y && sameG p xs ys
  | _, _ => false
/-- The same value. -/
noncomputable def sameW : Nat → AV → AV → Bool
  | 0, _, _ => false
  | d + 1, a, b => match a, b with
    | .b x, .b y => x == y
    | .i k x, .i k' y => eqK k k' && beqI x y
    | .s x, .s y => beqS x y
    | .np, .np => true
    | .nf, .nf => true
    | .ni, .ni => true
    | .nils, .nils => true
    | .isl n k xs, .isl n' k' ys => (n == n') && Nat.beq k k' && sameG (sameG (sameW d)) xs ys
    | .agg xs, .agg ys => sameG (sameW d) xs ys
    | .tup xs, .tup ys => sameG (sameW d) xs ys
    | _, _ => false
theorem sameLg_eq {α : Type} {p : α → α → Bool} (hp : ∀ a b, p a b = true → a = b) : ∀ xs ys, sameG p xs ys = true → xs = ys
  | [], [], _ => rfl
  | x :: xs, y :: ys, h => by
    simp only [sameG, Bool.and_eq_true] at h
    rw [hp x y h.1, sameLg_eq hp xs ys h.2]
  | [], _ :: _, h => by cases h
  | _ :: _, [], h => by cases h
theorem sameW_eq : ∀ (d : Nat) (a b : AV), sameW d a b = true → a = b
  | 0, a, b, h => by cases h
  | d + 1, a, b, h => by
    cases a <;> cases b <;> first
      | rfl
      | (exfalso; cases h; done)
      | skip
    case b.b x y => simp only [sameW, beq_iff_eq] at h; rw [h]
    case i.i k x k' y =>
      simp only [sameW, Bool.and_eq_true, eqK_eq, beqI_eq, decide_eq_true_eq, beq_iff_eq] at h
      rw [h.1, h.2]
    case s.s x y => simp only [sameW, beqS_eq, beq_iff_eq] at h; rw [h]
    case isl.isl n k xs n' k' ys =>
      simp only [sameW, Bool.and_eq_true, beq_iff_eq, Nat.beq_eq] at h
      rw [h.1.1, h.1.2, sameLg_eq (sameLg_eq (sameW_eq d)) xs ys h.2]
    case agg.agg xs ys => simp only [sameW] at h; rw [sameLg_eq (sameW_eq d) xs ys h]
    case tup.tup xs ys => simp only [sameW] at h; rw [sameLg_eq (sameW_eq d) xs ys h]
noncomputable def isOut (o : Option AV) (r : AV) : Bool := match o with | some v => sameW 40 v r | none => false
theorem isOut_eq {o : Option AV} {r : AV} (h : isOut o r = true) : o = some r := by
  unfold isOut at h
  split at h
  · rw [sameW_eq 40 _ _ h]
  · cases h
set_option maxRecDepth 10000000
noncomputable def chkText (m : Int) (r : CatRow) : Bool := isOut (outP (evO (ET m) (XP m) 1000000 56 [.s r.name] ⟨[], 0⟩)) (.tup [.s (textOf r), .i .i64 0])
noncomputable def chkParse (m : Int) (k : Nat) (r : CatRow) : Bool := isOut (outP (evO (ET m) (XP m) 1000000 57 [.s (textOf r)] ⟨[], 0⟩)) (.tup [treeA k r, .i .i64 0, .i .i64 0])
theorem all_join {α : Type} {f : α → Bool} {l : List α} {i a n : Nat} (h1 : ((l.drop i).take a).all f = true) (h2 : ((l.drop (i + a)).take n).all f = true) : ((l.drop i).take (n + a)).all f = true := by
  rw [Nat.add_comm, List.take_add, List.all_append, h1, List.drop_drop, h2]
  rfl
end Go.Proofs.YthahgmncnbeddaaGreatDoorA
