/- Runs that are reckoned out: a function at given arguments, by evaluation. -/
import Derived.Test.YthahgmncnbeddaaGreatDoorMB
import Derived.Recover
set_option linter.unusedVariables false
set_option linter.unusedSimpArgs false
namespace Go.Proofs.YthahgmncnbeddaaGreatDoorA
open Go Go.RowKit
/-- Functions that are told otherwise. -/
abbrev XT := FuncId → List AV → Hp → Option (Out × Hp)
def XOk (E : Env) (X : XT) : Prop := ∀ f args h o h', X f args h = some (o, h') → MeetsH E f args h fun o' h'' => o' = o ∧ h'' = h'
inductive Tk where
  | code (K : List Item) (S : St)
  | reg (all : List Oper) (K : List Item) (r : RR)
def Is (o : Out) (h : Hp) : Out → Hp → Prop := fun o' h' => o' = o ∧ h' = h
def TkOk (E : Env) (rl : List ResultVar) (Q : Out → Hp → Prop) : Tk → Prop
  | .code K S => ∀ f, T E f K S (XQ E rl Q)
  | .reg all K r => ∀ f, WR E f all K (XQ E rl Q) r
def Named (P : Program) : Prop := ∀ (f : Nat) fn, P.funcs[f]? = some fn → fn.name ≠ "runtime.NumGoroutine"
section
variable {E : Env} {X : XT}
theorem call_ok (hN : Named E.P) {g : FuncId} {fn : Func} {c : Code} {args : List AV} {h h' : Hp} {o : Out} (hf : E.P.funcs[g]? = some fn) (hb : fn.body = some c) (hl : Nat.ble args.length fn.ntmps = true)
    (ih : TkOk E fn.results.toList (Is o h') (.code [.code c] ⟨envOf 0 args, fn.ntmps, h⟩)) : MeetsH E g args h (Is o h') :=
  meetsH fn.ntmps fn.results.toList hf hb (hN g fn hf) rfl rfl (Nat.le_of_ble_eq_true hl) (ih g)
end
end Go.Proofs.YthahgmncnbeddaaGreatDoorA
/- The same, quick for the kernel: small arms. -/
set_option linter.unusedVariables false
set_option linter.unusedSimpArgs false
namespace Go.Proofs.YthahgmncnbeddaaGreatDoorA
open Go Go.RowKit
noncomputable def getE (t : List (Nat × AV)) (j : Nat) : AV := List.rec .un (fun p _ ih => match Nat.beq p.1 j with | true => p.2 | false => ih) t
theorem getE_eq : ∀ (t : List (Nat × AV)) (j : Nat), getE t j = get t j
  | [], j => rfl
  | (i, v) :: r, j => by
    show (match Nat.beq i j with | true => v | false => getE r j) = if i = j then v else get r j
    rw [getE_eq r j]
    by_cases h : i = j
    · rw [if_pos h, show Nat.beq i j = true from Nat.beq_eq ▸ h]
    · rw [if_neg h]
      cases hb : Nat.beq i j with
      | true => exact absurd (Nat.eq_of_beq_eq_true hb) h
      | false => rfl
noncomputable def evGl (E : Env) (g : Nat) : AV := match E.gl g with | some row => .ip row 0 | none => .un
noncomputable def evE (E : Env) (t : List (Nat × AV)) : Operand → AV
  | .tmp j => getE t j
  | .const v => ofV v
  | .global g => evGl E g
  | .func f => .fn f [] []
theorem evE_eq (E : Env) (S : St) (x : Operand) : evE E S.t x = ev E S x := by
  cases x with
  | tmp j => exact getE_eq _ _
  | _ => rfl
def addI (x y : Int) : Int := match x with | .ofNat a => (match y with | .ofNat b => .ofNat (Nat.add a b) | y => Int.add (.ofNat a) y) | x => Int.add x y
theorem addI_eq (x y : Int) : addI x y = x + y := by cases x <;> cases y <;> rfl
def subI (x y : Int) : Int := match x with | .ofNat a => (match y with | .ofNat b => (match Nat.ble b a with | true => .ofNat (Nat.sub a b) | false => .negSucc (Nat.sub (Nat.sub b a) 1)) | y => Int.sub (.ofNat a) y) | x => Int.sub x y
theorem subI_eq (x y : Int) : subI x y = x - y := by
  cases x with
  | ofNat a => cases y with
    | ofNat b =>
      show (match Nat.ble b a with | true => Int.ofNat (a - b) | false => Int.negSucc (b - a - 1)) = Int.ofNat a - Int.ofNat b
      cases h : Nat.ble b a with
      | true => have := Nat.le_of_ble_eq_true h; simp only [Int.ofNat_eq_natCast]; omega
      | false => have : ¬ b ≤ a := fun q => by rw [Nat.ble_eq_true_of_le q] at h; cases h
                 simp only [Int.ofNat_eq_natCast, Int.negSucc_eq]; omega
    | _ => rfl
  | _ => rfl
def beqI (x y : Int) : Bool := match x with | .ofNat a => (match y with | .ofNat b => Nat.beq a b | .negSucc _ => false) | .negSucc a => (match y with | .ofNat _ => false | .negSucc b => Nat.beq a b)
theorem beqI_eq (x y : Int) : beqI x y = (x == y) := by
  rw [Bool.eq_iff_iff]
  simp only [beq_iff_eq]
  cases x <;> cases y <;> simp only [beqI, Nat.beq_eq, Int.ofNat_eq_natCast, Int.negSucc_eq, Bool.false_eq_true, false_iff] <;> omega
def leI (x y : Int) : Bool := match x with | .ofNat a => (match y with | .ofNat b => Nat.ble a b | .negSucc _ => false) | .negSucc a => (match y with | .ofNat _ => true | .negSucc b => Nat.ble b a)
theorem leI_eq (x y : Int) : leI x y = decide (x ≤ y) := by
  rw [Bool.eq_iff_iff, decide_eq_true_eq]
  cases x <;> cases y <;> simp only [leI, Nat.ble_eq, Int.ofNat_eq_natCast, Int.negSucc_eq, Bool.false_eq_true, false_iff, true_iff] <;> omega
def wrap64 (n : Int) : Int := match n with
  | .ofNat m => (match Nat.ble m 9223372036854775807 with | true => .ofNat m | false => IntKind.i64.wrap (.ofNat m))
  | .negSucc m => (match Nat.ble m 9223372036854775807 with | true => .negSucc m | false => IntKind.i64.wrap (.negSucc m))
def wrapE (k : IntKind) (n : Int) : Int := match k with | .i64 => wrap64 n | k => k.wrap n
theorem wrapE_eq (k : IntKind) (n : Int) : wrapE k n = k.wrap n := by
  cases k with
  | i64 =>
    show wrap64 n = _
    unfold wrap64
    split
    · split
      · rename_i h; have := Nat.le_of_ble_eq_true h; exact (w64 (by simp only [Int.ofNat_eq_natCast]; omega) (by simp only [Int.ofNat_eq_natCast]; omega)).symm
      · rfl
    · split
      · rename_i h; have := Nat.le_of_ble_eq_true h; exact (w64 (by simp only [Int.negSucc_eq]; omega) (by simp only [Int.negSucc_eq]; omega)).symm
      · rfl
  | _ => rfl
def eqK (a b : IntKind) : Bool := match a with
  | .i64 => (match b with | .i64 => true | _ => false)
  | .u8 => (match b with | .u8 => true | _ => false)
  | a => decide (a = b)
theorem eqK_eq (a b : IntKind) : eqK a b = decide (a = b) := by cases a <;> cases b <;> rfl
def nK (k k' : IntKind) (r : AV) : Option AV := match eqK k k' with | true => some r | false => none
def intE (op : BinOp) (k k' : IntKind) (x y : Int) : Option AV := match op with
  | .add => nK k k' (.i k (wrapE k (addI x y)))
  | .sub => nK k k' (.i k (wrapE k (subI x y)))
  | .eql => nK k k' (.b (beqI x y))
  | .neq => nK k k' (.b (!beqI x y))
  | .lss => nK k k' (.b (!leI y x))
  | .leq => nK k k' (.b (leI x y))
  | .gtr => nK k k' (.b (!leI x y))
  | .geq => nK k k' (.b (leI y x))
  | .shl => shA .shl k x y
  | .shr => shA .shr k x y
  | op => match eqK k k' with | true => intA op k x y | false => none
theorem intE_eq (op : BinOp) (k k' : IntKind) (x y : Int) (P : Program) (t : TypeId) : intE op k k' x y = binA P op t (.i k x) (.i k' y) := by
  have key : ∀ r : Option AV, (match eqK k k' with | true => r | false => none) = if k = k' then r else none := fun r => by
    rw [eqK_eq]
    by_cases h : k = k' <;> simp [h]
  have hlt : ∀ x y : Int, (!decide (y ≤ x)) = decide (x < y) := fun x y => by
    rw [Bool.eq_iff_iff]
    simp
  cases op <;> simp only [intE, binA, nK, key, addI_eq, subI_eq, beqI_eq, hlt, wrapE_eq, intA, leI_eq] <;> first | rfl | skip
def byteE (x y : UInt8) : Bool := Nat.beq x.toNat y.toNat
noncomputable def beqS (x : List UInt8) : List UInt8 → Bool := List.rec (fun y => match y with | [] => true | _ => false) (fun a _ ih y => match y with | [] => false | b :: y => match byteE a b with | true => ih y | false => false) x
theorem beqS_eq : ∀ x y : List UInt8, beqS x y = (x == y)
  | [], [] => rfl
  | [], _ :: _ => rfl
  | _ :: _, [] => rfl
  | a :: x, b :: y => by
    show (match byteE a b with | true => beqS x y | false => false) = (a == b && x == y)
    rw [beqS_eq x y]
    have : byteE a b = (a == b) := by
      rw [Bool.eq_iff_iff]
      simp only [byteE, Nat.beq_eq, beq_iff_eq, UInt8.toNat_inj]
    rw [this]
    cases a == b <;> rfl
noncomputable def strE (op : BinOp) (x y : List UInt8) : Option AV := match op with
  | .eql => some (.b (beqS x y))
  | .neq => some (.b (!beqS x y))
  | op => strA op x y
theorem strE_eq (op : BinOp) (x y : List UInt8) : strE op x y = strA op x y := by cases op <;> simp only [strE, strA, beqS_eq]
noncomputable def binE (P : Program) (op : BinOp) (t : TypeId) (a b : AV) : Option AV := match a with
  | .i k x => (match b with | .i k' y => intE op k k' x y | b => binA P op t (.i k x) b)
  | .s x => (match b with | .s y => strE op x y | b => binA P op t (.s x) b)
  | a => binA P op t a b
theorem binE_eq (P : Program) (op : BinOp) (t : TypeId) (a b : AV) : binE P op t a b = binA P op t a b := by
  cases a with
  | i k x => cases b with
    | i k' y => exact intE_eq op k k' x y P t
    | _ => rfl
  | s x => cases b with
    | s y => exact strE_eq op x y
    | _ => rfl
  | _ => rfl
noncomputable def binOE (P : Program) (op : BinOp) (t : TypeId) (a b : AV) (y : Operand) : Option AV := match y with | .tmp _ => binE P op t a b | .const (.int _ _) => binE P op t a b | .const (.string _) => binE P op t a b | y => binO P op t a b y
theorem binOE_eq (P : Program) (op : BinOp) (t : TypeId) (a b : AV) (y : Operand) : binOE P op t a b y = binO P op t a b y := by
  cases y with
  | tmp j => exact binE_eq ..
  | const v => cases v <;> first | rfl | exact binE_eq ..
  | _ => rfl
noncomputable def unE (op : UnOp) (a : AV) : Option AV := match op with | .not => (match a with | .b x => some (.b (!x)) | a => unA .not a) | op => unA op a
theorem unE_eq (op : UnOp) (a : AV) : unE op a = unA op a := by cases op <;> cases a <;> rfl
def ofE (h : Hp) (r : Option AV) : OR := match r with | some v => .val v h | none => .bad
noncomputable def pickE (E : Env) (S : St) (c a b : Operand) : OR := match ev E S c with | .b t => .val (match t with | true => ev E S a | false => ev E S b) S.h | _ => .bad
noncomputable def allocE (P : Program) (h : Hp) (t : TypeId) : OR := match zeroT P t with | some z => newT h (bif selfT P t then some t else none) z.length [z] fun id => .ptr id 0 0 | none => .bad
def nilE (h : Hp) (v : AV) : OR := match v with | .ptr id r c => .val (.ptr id r c) h | .ip row c => .val (.ip row c) h | .fn f a b => .val (.fn f a b) h | _ => .bad
noncomputable def faE (P : Program) (h : Hp) (s f : Nat) (v : AV) : OR := match fldT P s f with
  | some (off, _) => (match v with | .ptr id r c => .val (.ptr id r (Nat.add c off)) h | .ip row c => .val (.ip row (Nat.add c off)) h | _ => .bad)
  | none => .bad
noncomputable def fldE (P : Program) (h : Hp) (s f : Nat) (v : AV) : OR := match fldT P s f with
  | some (off, t) => (match v with | .agg cs => (match aggT P t, szT P t with | some ag, some n => .of h (part ag n cs off) | _, _ => .bad) | _ => .bad)
  | none => .bad
noncomputable def iaE (P : Program) (h : Hp) (t : TypeId) (x ix : AV) : OR := match ix with
  | .i _ i => (match elT P t with | some (k, _) => .of h (idxA h k x i) | none => (match arT P t with | some (n, k) => .of h (arA n k x i) | none => .bad))
  | _ => .bad
def strIx (h : Hp) (l : List UInt8) (i : Nat) : OR := match l[i]? with | some b => .val (.i .u8 b.toNat) h | none => .bad
noncomputable def ixE (E : Env) (S : St) (t : TypeId) (x ix : Operand) : OR := match ev E S ix with
  | .i _ i => (match ev E S x with
    | .s l => (match E.P.underlying t with | some .string => (match i with | .ofNat n => strIx S.h l n | .negSucc _ => .bad) | _ => .bad)
    | _ => opA E S (.index t x ix))
  | _ => opA E S (.index t x ix)
def exE (h : Hp) (v : AV) (i : Nat) : OR := match v with | .tup cs => .of h cs[i]? | _ => .bad
noncomputable def callE (E : Env) (S : St) (v : AV) (args : List Operand) : OR := match v with | .fn g a b => callA E S.h g (a ++ args.map (ev E S) ++ b) | _ => .bad
noncomputable def callC (E : Env) (S : St) (c : Call) : OR := match c with
  | ⟨.builtin b, args, ts⟩ => bltA E S b ts (args.toList.map (ev E S))
  | ⟨.value f, args, ts⟩ => callE E S (ev E S f) args.toList
  | c => .bad
noncomputable def opE (E : Env) (S : St) (op : Op) : OR := match op with
  | .move x => .val (ev E S x) S.h
  | .assign x => .val (ev E S x) S.h
  | .pick c a b => pickE E S c a b
  | .alloc t => allocE E.P S.h t
  | .load t a => ofE S.h (loadA E.P t S.h (ev E S a))
  | .store t a x => storeA E.P t S.h (ev E S a) (ev E S x)
  | .nilCheck x => nilE S.h (ev E S x)
  | .binOp op t x y _ => ofE S.h (binOE E.P op t (ev E S x) (ev E S y) y)
  | .unOp op _ x => ofE S.h (unE op (ev E S x))
  | .fieldAddr s x f => faE E.P S.h s f (ev E S x)
  | .field s x f => fldE E.P S.h s f (ev E S x)
  | .indexAddr t x ix => iaE E.P S.h t (ev E S x) (ev E S ix)
  | .index t x ix => ixE E S t x ix
  | .extract x i => exE S.h (ev E S x) i
  | .call c => callC E S c
  | op => opA E S op
theorem opE_eq (E : Env) (S : St) (op : Op) : opE E S op = opA E S op := by
  cases op with
  | move x => rfl
  | assign x => rfl
  | pick c a b =>
    simp only [opE, opA, pickE]
    cases ev E S c with
    | b t => cases t <;> rfl
    | _ => rfl
  | alloc t => rfl
  | load t a => simp only [opE, opA, ofE]; cases loadA E.P t S.h (ev E S a) <;> rfl
  | store t a x => rfl
  | nilCheck x => simp only [opE, opA, nilE]; cases ev E S x <;> rfl
  | binOp op t x y ty => simp only [opE, opA, ofE, binOE_eq]; cases binO E.P op t (ev E S x) (ev E S y) y <;> rfl
  | unOp op ty x => simp only [opE, opA, ofE, unE_eq]; cases unA op (ev E S x) <;> rfl
  | fieldAddr s x f => simp only [opE, opA, faE]; cases fldT E.P s f with
    | none => rfl
    | some p => obtain ⟨off, t⟩ := p; cases ev E S x <;> rfl
  | field s x f => simp only [opE, opA, fldE]; cases fldT E.P s f with
    | none => rfl
    | some p => obtain ⟨off, t⟩ := p; cases ev E S x <;> rfl
  | indexAddr t x ix =>
    simp only [opE, opA, iaE]
    cases ev E S ix with
    | i k n => cases elT E.P t with
      | none => cases arT E.P t <;> rfl
      | some p => rfl
    | _ => rfl
  | index t x ix =>
    simp only [opE, ixE]
    split
    · rename_i k i hi
      split
      · rename_i l hl
        simp only [opA, hi, hl]
        cases E.P.underlying t with
        | none => rfl
        | some d => cases d with
          | string =>
            cases i with
            | ofNat n => simp only [strIx, Int.ofNat_eq_natCast, Int.natCast_nonneg, if_true, Int.toNat_natCast]; rfl
            | negSucc n => simp only [show ¬ (0 : Int) ≤ Int.negSucc n by omega, if_false]
          | _ => rfl
      · rfl
    · rfl
  | extract x i => simp only [opE, opA, exE]; cases ev E S x <;> rfl
  | call c =>
    obtain ⟨callee, args, ts⟩ := c
    cases callee <;> rfl
  | _ => rfl
def guardV (v : AV) (want : Bool) : Option Bool := match v with | .b x => some (match x with | true => want | false => !want) | .tup _ => some false | _ => none
noncomputable def guardE (all : List Oper) (t : List (Nat × AV)) (j : Nat) (want : Bool) : Option Bool := match (all[j]?).bind (·.dst) with | some d => guardV (getE t d) want | none => none
theorem guardE_eq (E : Env) (all : List Oper) (S : St) (j : Nat) (want : Bool) : guardE all S.t j want = guardA E all S (some (j, want)) := by
  simp only [guardE, guardA]
  cases (all[j]?).bind (·.dst) with
  | none => rfl
  | some d =>
    simp only [getE_eq]
    cases get S.t d with
    | b x => simp only [guardV]; cases x <;> cases want <;> rfl
    | _ => rfl
def putE (t : List (Nat × AV)) (N : Nat) (d : Option Nat) (v : AV) (h : Hp) : St := match d with
  | none => ⟨t, N, h⟩
  | some d => match Nat.ble N d with | true => ⟨t, N, h⟩ | false => ⟨(d, v) :: t, N, h⟩
theorem putE_eq (t : List (Nat × AV)) (N : Nat) (d : Option Nat) (v : AV) (h : Hp) : putE t N d v h = St.put ⟨t, N, h⟩ d v := by
  cases d with
  | none => rfl
  | some d =>
    simp only [putE, St.put]
    cases hb : Nat.ble N d with
    | true => rw [if_neg (Nat.not_lt.2 (Nat.le_of_ble_eq_true hb))]
    | false => rw [if_pos (Nat.lt_of_not_le fun q => by rw [Nat.ble_eq_true_of_le q] at hb; cases hb)]
noncomputable def stepR (S : St) (d : Option Nat) (os : List Oper) (rec : St → RR) (r : OR) : RR := match S with
  | ⟨t, N, h⟩ => match r with
    | .val v h' => rec (putE t N d v h')
    | .call f args => .call f args d os ⟨t, N, h⟩
    | .pan x => .pan x ⟨t, N, h⟩
    | .bad => .bad
noncomputable def stepG (S : St) (d : Option Nat) (rec : St → RR) (g : Option Bool) (r : RR) : RR := match g with
  | some true => r
  | some false => rec (S.put d (.tup []))
  | none => .bad
noncomputable def stepO (E : Env) (all : List Oper) (o : Oper) (os : List Oper) (rec : St → RR) (S : St) : RR := match o with
  | ⟨d, op, _, _, _, g⟩ => match g with
    | none => stepR S d os rec (opE E S op)
    | some (j, want) => stepG S d rec (guardE all S.t j want) (stepR S d os rec (opE E S op))
noncomputable def runE (E : Env) (all ops : List Oper) : St → RR := List.rec (fun S => .done S) (fun o os rec S => stepO E all o os rec S) ops
theorem runE_eq (E : Env) (all : List Oper) : ∀ (ops : List Oper) (S : St), runE E all ops S = runA E all ops S
  | [], S => rfl
  | o :: os, S => by
    show stepO E all o os (runE E all os) S = _
    have ih : runE E all os = fun S => runA E all os S := funext (runE_eq E all os)
    rw [ih]
    obtain ⟨d, op, ty, pos, af, g⟩ := o
    obtain ⟨t, N, h⟩ := S
    have key : ∀ r : OR, stepR ⟨t, N, h⟩ d os (fun S => runA E all os S) r = (match r with | .val v h' => runA E all os (St.put ⟨t, N, h'⟩ d v) | .call f args => .call f args d os ⟨t, N, h⟩ | .pan x => .pan x ⟨t, N, h⟩ | .bad => .bad) := fun r => by
      cases r with
      | val v h' => simp only [stepR, putE_eq]
      | _ => rfl
    cases g with
    | none =>
      simp only [stepO, key, opE_eq, runA, guardA, stepA]
      cases opA E ⟨t, N, h⟩ op <;> rfl
    | some jw =>
      obtain ⟨j, want⟩ := jw
      have hg : guardE all t j want = guardA E all ⟨t, N, h⟩ (some (j, want)) := guardE_eq E all ⟨t, N, h⟩ j want
      simp only [stepO, key, opE_eq, runA, stepA, hg]
      cases guardA E all ⟨t, N, h⟩ (some (j, want)) with
      | none => rfl
      | some b =>
        cases b with
        | false => rfl
        | true => simp only [stepG]; cases opA E ⟨t, N, h⟩ op <;> rfl
end Go.Proofs.YthahgmncnbeddaaGreatDoorA
/- Runs that are reckoned out by the kernel. -/
set_option linter.unusedVariables false
set_option linter.unusedSimpArgs false
namespace Go.Proofs.YthahgmncnbeddaaGreatDoorA
open Go Go.RowKit
abbrev Rc := List ResultVar → Tk → Option (Out × Hp)
noncomputable def endN (E : Env) (rl : List ResultVar) (S : St) : Option (Out × Hp) := match resA E S rl with | some r => some (.ret r, S.h) | none => none
noncomputable def condN (rec : Rc) (rl : List ResultVar) (x y : Code) (K : List Item) (S : St) (v : AV) : Option (Out × Hp) := match v with
  | .b t => (match t with | true => rec rl (.code (.code x :: K) S) | false => rec rl (.code (.code y :: K) S))
  | _ => none
noncomputable def exitN (rec : Rc) (rl : List ResultVar) (S : St) (k : Option (List Item)) : Option (Out × Hp) := match k with | some K' => rec rl (.code K' S) | none => none
noncomputable def doneN (rec : Rc) (rl : List ResultVar) (K : List Item) (S : St) : Option (Out × Hp) := match S with | ⟨t, N, h⟩ => (match h with | ⟨c, m⟩ => rec rl (.code K ⟨t, N, ⟨c, m⟩⟩))
noncomputable def backN (E : Env) (rec : Rc) (rl : List ResultVar) (all : List Oper) (K : List Item) (d : Option Nat) (os : List Oper) (S : St) (r : Option (Out × Hp)) : Option (Out × Hp) := match r with
  | some p => (match p with
    | (o, h') => (match o with
      | .ret r => rec rl (.reg all K (runE E all os (St.put { S with h := h' } d r)))
      | .pan x => some (.pan x, h')))
  | none => none
noncomputable def enterN (E : Env) (rec : Rc) (g : FuncId) (args : List AV) (h : Hp) : Option (Out × Hp) := match E.P.funcs[g]? with
  | some fn => (match fn.body with
    | some c => (match Nat.ble args.length fn.ntmps with
      | true => rec fn.results.toList (.code [.code c] ⟨envOf 0 args, fn.ntmps, h⟩)
      | false => none)
    | none => none)
  | none => none
noncomputable def callN (E : Env) (X : XT) (rec : Rc) (g : FuncId) (args : List AV) (h : Hp) : Option (Out × Hp) := match X g args h with
  | some p => some p
  | none => enterN E rec g args h
noncomputable def regN (E : Env) (X : XT) (rec : Rc) (rl : List ResultVar) (all : List Oper) (K : List Item) (r : RR) : Option (Out × Hp) := match r with
  | .done S => doneN rec rl K S
  | .call g args d os S => backN E rec rl all K d os S (callN E X rec g args S.h)
  | .pan x S => some (.pan x, S.h)
  | .bad => none
end Go.Proofs.YthahgmncnbeddaaGreatDoorA
/- Small laws for walks. -/
set_option linter.unusedVariables false
set_option linter.unusedSimpArgs false
namespace Go.Proofs.YthahgmncnbeddaaGreatDoorA
open Go Go.RowKit
attribute [go_sem] w64
@[go_sem] theorem callA_ptr (E : Env) (h : Hp) (f : FuncId) (i r c : Nat) (args : List AV) : callA E h f (.ptr i r c :: args) = .call f (.ptr i r c :: args) := by
  unfold callA
  simp only [List.all_cons, List.map_cons, noid, fz, Bool.false_and, Bool.false_eq_true, if_false]
theorem look_upd : ∀ {c : List (Nat × Ent)} {id : Nat} {e0 : Ent} (e : Ent), look c id = some e0 → look (upd c id e) id = some e.plain
  | [], id, e0, e, h => by cases h
  | (i, x) :: r, id, e0, e, h => by
    simp only [upd]
    by_cases hi : i = id
    · rw [if_pos hi]; simp only [look, if_pos hi]
      cases x <;> cases e <;> rfl
    · rw [if_neg hi]
      simp only [look, if_neg hi] at h ⊢
      exact look_upd e h
theorem look_updR {c : List (Nat × Ent)} {id : Nat} {e0 : Ent} (k : Nat) (l : List (List AV)) (h : look c id = some e0) : look (upd c id (.rows k l)) id = some (.rows k l) := look_upd _ h
theorem upd_upd : ∀ (c : List (Nat × Ent)) (id k : Nat) (l : List (List AV)) (e' : Ent), upd (upd c id (.rows k l)) id e' = upd c id e'
  | [], id, k, l, e' => rfl
  | (i, x) :: r, id, k, l, e' => by
    by_cases hi : i = id
    · simp only [upd, if_pos hi]
      cases x <;> cases e' <;> rfl
    · simp only [upd, if_neg hi, upd_upd r id k l e']
theorem upd_same : ∀ {c : List (Nat × Ent)} {id : Nat} {e : Ent}, look c id = some e → upd c id e = c
  | [], id, e, h => by cases h
  | (i, x) :: r, id, e, h => by
    by_cases hi : i = id
    · simp only [look, if_pos hi] at h; cases h; simp only [upd, if_pos hi]; cases x <;> rfl
    · simp only [look, if_neg hi] at h; simp only [upd, if_neg hi, upd_same h]
section
variable {E : Env} {f : FuncId} {all os : List Oper} {K : List Item} {S : St} {X : Ex → St → Prop} {g : FuncId} {args : List AV} {d : Option Nat}
/-- A call that comes back with r, the own blocks being h'. -/
theorem wr_ret {r : AV} {h' : Hp} (hm : MeetsH E g args S.h (Is (.ret r) h')) (h : WR E f all K X (runA E all os (St.put { S with h := h' } d r))) : WR E f all K X (.call g args d os S) :=
  .call _ _ _ _ _ _ hm (fun r' h'' q => by obtain ⟨q1, rfl⟩ := q; cases q1; exact h) (fun r' h'' q => by obtain ⟨q1, _⟩ := q; cases q1)
theorem wr_isCall (h : WR E f all K X (.call g args d os S)) : WR E f all K X (.call g args d os S) := h
theorem t_isDraw {id : Nat} {ops : Array Oper} (h : T E f (.code (.region id ops true) :: K) S X) : T E f (.code (.region id ops true) :: K) S X := h
theorem t_isExit {id : Nat} (h : T E f (.code (.exit id) :: K) S X) : T E f (.code (.exit id) :: K) S X := h
/-- A call that panics. -/
theorem wr_pan {x : AV} {h' : Hp} (hm : MeetsH E g args S.h (Is (.pan x) h')) (h : X (.pan x) { S with h := h' }) : WR E f all K X (.call g args d os S) :=
  .call _ _ _ _ _ _ hm (fun r' h'' q => by obtain ⟨q1, _⟩ := q; cases q1) (fun r' h'' q => by obtain ⟨q1, rfl⟩ := q; cases q1; exact h)
theorem t_bl {id : Nat} {c : Code} (h : T E f (.code (.block id (.loop c)) :: K) S X) : T E f (.code (.block id (.loop c)) :: K) S X := h
/-- A loop with its way out: what holds at each head, a measure, what holds behind it. -/
theorem t_while {id N : Nat} {c : Code} {t0 : List (Nat × AV)} {h0 : Hp} {α : Type} (I : α → List (Nat × AV) → Hp → Prop) (m : α → Nat) (J : List (Nat × AV) → Hp → Prop) (x0 : α) (hI : I x0 t0 h0)
    (round : ∀ x t h, I x t h → (∀ y t' h', I y t' h' → m y < m x → T E f (.inLoop c :: .inBlock id :: K) ⟨t', N, h'⟩ X) → (∀ t' h', J t' h' → T E f K ⟨t', N, h'⟩ X) → T E f (.code c :: .inLoop c :: .inBlock id :: K) ⟨t, N, h⟩ X)
    (rest : ∀ t h, J t h → T E f K ⟨t, N, h⟩ X) : T E f (.code (.block id (.loop c)) :: K) ⟨t0, N, h0⟩ X :=
  t_block (t_inv I m x0 hI fun x t h hx hr => round x t h hx hr rest)
theorem MeetsH.to {P : Program} {gl gl' : Nat → Option (List AV)} {M M' : FuncId → List AV → Option AV} {h : Hp} {R : Out → Hp → Prop} (hM : ModOk ⟨P, gl, M⟩) (hg : ∀ g row, gl g = some row → gl' g = some row) (hm : MeetsH ⟨P, gl, M⟩ f args h R) : MeetsH ⟨P, gl', M'⟩ f args h R :=
  ⟨hm.1, fun F G ok w vals _ q I hl hr => hm.2 F G ok w vals hM (fun g row e => q g row (hg g row e)) I hl hr⟩
end
end Go.Proofs.YthahgmncnbeddaaGreatDoorA
/- Functions that defer one closure, and the closure. -/
set_option linter.unusedVariables false
set_option linter.unusedSimpArgs false
namespace Go.Proofs.YthahgmncnbeddaaGreatDoorA
open Go Go.RowKit
section
variable {E : Env} {f : FuncId} {fn : Func} {rl : List ResultVar} {K : List Item} {S : St} {X : Ex → St → Prop} {Q : Out → Hp → Prop}
/-- A region without calls of its own to be told: it runs to its end. -/
theorem run_wp {ops : Array Oper} {F : Fr} {ds : List Deferred} (hM : ModOk E) (hg0 : Globs E.gl F.ok0 F.w0) {S1 : St} : ∀ (n : Nat) (rest : List Oper) (i : Nat) (S : St) (G : Gh) (ok : Okc) (w : World) (a : Act), rest.length = n → ops.toList.drop i = rest → runA E ops.toList rest S = .done S1 → Inv F G ok w S.h → RelT G ok w S a → a.defers = ds →
    wpOps E.P ops (fun e a w => e = .normal ∧ a.defers = ds ∧ ∃ G ok, Inv F G ok w S1.h ∧ RelT G ok w S1 a) (List.range' i rest.length) a w
  | n, [], i, S, G, ok, w, a, hn, hd, h, I, R, ha => by cases h; exact ⟨rfl, ha, G, ok, I, R⟩
  | 0, o :: os, i, S, G, ok, w, a, hn, hd, h, I, R, ha => by simp at hn
  | n + 1, o :: os, i, S, G, ok, w, a, hn, hd, h, I, R, ha => by
    have ho : ops[i]? = some o := by
      have : (ops.toList.drop i)[0]? = some o := by rw [hd]; rfl
      rw [List.getElem?_drop] at this
      simpa using this
    have hd' : ops.toList.drop (i + 1) = os := by
      have : (ops.toList.drop i).drop 1 = os := by rw [hd]; rfl
      rwa [List.drop_drop] at this
    have hlen : os.length = n := by simpa using hn
    rw [List.length_cons, List.range'_succ]
    simp only [wpOps, ho]
    unfold runA at h
    split at h
    · rename_i hgd
      rw [guard_ok R hgd, if_pos rfl]
      refine .inl ?_
      unfold stepA at h
      split at h
      · rename_i v h' hop
        refine oper_wp hM I R (glob_now hg0 I) hop (fun x w' G' ok' A I' rx => ?_)
        exact run_wp hM hg0 n os (i + 1) _ G' ok' w' _ hlen hd' h (by rw [put_h]; exact I') ((R.adv A h').put o.dst rx) (by rw [put_defers]; exact ha)
      · cases h
      · cases h
      · cases h
    · rename_i hgd
      rw [guard_ok R hgd, if_neg (by simp)]
      exact run_wp hM hg0 n os (i + 1) _ G ok w _ hlen hd' h (by rw [put_h]; exact I) (R.put o.dst (.tup _ #[] [] rfl (fun j v a h => by simp at h))) (by rw [put_defers]; exact ha)
    · cases h
/-- The mode in which a deferred closure is called. -/
def Mode (ok : Okc) (w : World) (G : Gh) (um : FrameMode) : Option AV → Prop
  | none => um = .returning
  | some x => ∃ v, um = .panicking [{ v, recovered := false }] ∧ Rep ok w G v x
/-- What a deferred closure does: it comes back, and a panic is recovered. -/
def MeetsD (E : Env) (g : FuncId) (args : List AV) (u : Option AV) (h : Hp) (R : Hp → Prop) : Prop :=
  HasBody E.P g ∧ ∀ (F : Fr) (G : Gh) (ok : Okc) (w : World) (vals : Array Value) (um : FrameMode), ModOk E → Globs E.gl ok w → Inv F G ok w h → vals.size = args.length → (∀ (j : Nat) v a, vals[j]? = some v → args[j]? = some a → Rep ok w G v a) → Mode ok w G um u →
    CallsD E.P g vals um w fun e u' w' => ∃ vr, e = .returned vr ∧ settle u' = .returning ∧ ∃ G' ok' h', R h' ∧ Adv G ok w G' ok' w' ∧ Inv F G' ok' w' h'
def recOp (d1 d2 : Nat) (t1 t2 : TypeId) (p1 p2 : String) (a1 a2 : Array Edge) : Array Oper := #[⟨some d1, .call ⟨.builtin .recover, #[], #[]⟩, t1, p1, a1, none⟩, ⟨some d2, .assign (.tmp d1), t2, p2, a2, none⟩]
def recS (args : List AV) (n d1 d2 : Nat) (h : Hp) (x : AV) : St := ((St.mk (envOf 0 args) n h).put (some d1) x).put (some d2) (get ((St.mk (envOf 0 args) n h).put (some d1) x).t d1)
theorem meetsD {args : List AV} {h : Hp} {R : Hp → Prop} {rest : Code} {u : Option AV} {id d1 d2 : Nat} {t1 t2 : TypeId} {p1 p2 : String} {a1 a2 : Array Edge} (n : Nat) (hf : E.P.funcs[f]? = some fn) (hb : fn.body = some (.seq (.region id (recOp d1 d2 t1 t2 p1 p2 a1 a2) false) rest)) (hnm : fn.name ≠ "runtime.NumGoroutine") (hrl : fn.results.toList = []) (hN : fn.ntmps = n) (hn : args.length ≤ n)
    (hT : T E f [.code rest] (recS args n d1 d2 h (u.getD .ni)) fun x S => x = .ret ∧ R S.h) : MeetsD E f args u h R := by
  subst hN
  refine ⟨hasBody hf hb hnm, fun F G ok w vals um hM hg I hl hr hmode c₀ cs hu => ?_⟩
  let b : Frame := { (default : Frame) with fn := f, kind := .deferred }
  let F1 : Fr := ⟨fun b => ∃ id e p, (id, e) ∈ h.c ∧ G id = some p ∧ p.b = b, w, ok, G⟩
  have henter : Frame.enter E.P f vals .deferred = b.at { tmps := vals ++ Array.replicate (fn.ntmps - vals.size) undef, defers := [] } [.code (.seq (.region id (recOp d1 d2 t1 t2 p1 p2 a1 a2) false) rest)] := by
    simp [Frame.enter, Frame.at, hf, hb, b]
  have R0 := enter_rel (h := h) hl hn hr
  have key : ∀ (a : Act), RelT G ok w ⟨envOf 0 args, fn.ntmps, h⟩ a → a.defers = [] → (Code.region id (recOp d1 d2 t1 t2 p1 p2 a1 a2) false).wpS E.P (fun e a' cs' w' => e = .normal ∧ w' = w ∧ a'.defers = [] ∧ RelT G ok w (recS args fn.ntmps d1 d2 h (u.getD .ni)) a' ∧ ∃ u', cs' = { c₀ with mode := u' } :: cs ∧ settle u' = .returning) a (c₀ :: cs) w := by
    intro a RR ha
    refine wpS_region ?_
    have e1 : ∀ a : Act, (execOp a.eval ⟨some d1, .call ⟨.builtin .recover, #[], #[]⟩, t1, p1, a1, none⟩).run E.P w = .ok .recover w := fun a => rfl
    have e2 : ∀ a : Act, (execOp a.eval ⟨some d2, .assign (.tmp d1), t2, p2, a2, none⟩).run E.P w = .ok (.value (a.eval (.tmp d1))) w := fun a => rfl
    have fin : ∀ (v : Value) (cs' : List Frame), Rep ok w G v (u.getD .ni) → (∃ u', cs' = { c₀ with mode := u' } :: cs ∧ settle u' = .returning) →
        wpOpsS E.P (recOp d1 d2 t1 t2 p1 p2 a1 a2) (fun e a' cs' w' => e = .normal ∧ w' = w ∧ a'.defers = [] ∧ RelT G ok w (recS args fn.ntmps d1 d2 h (u.getD .ni)) a' ∧ ∃ u', cs' = { c₀ with mode := u' } :: cs ∧ settle u' = .returning) [1] (a.put (some d1) v) cs' w := by
      intro v cs' rv hcs
      have R1 := RR.put (some d1) rv
      unfold wpOpsS
      simp only [recOp, List.getElem?_toArray, List.getElem?_cons_succ, List.getElem?_cons_zero, Region.wanted, if_true, e2, Oper.upon_value]
      unfold wpOpsS
      refine ⟨rfl, rfl, ?_, ?_, hcs⟩
      · rw [put_defers, put_defers]; exact ha
      · exact R1.put (some d2) (R1.r d1)
    show wpOpsS E.P (recOp d1 d2 t1 t2 p1 p2 a1 a2) _ [0, 1] a (c₀ :: cs) w
    unfold wpOpsS
    simp only [recOp, List.getElem?_toArray, List.getElem?_cons_zero, Region.wanted, if_true, e1]
    cases u with
    | none =>
      have hm : c₀.mode = .returning := hu.trans hmode
      have hrec : recoverD (c₀ :: cs) = none := by simp [recoverD, hm]
      simp only [hrec]
      exact fin _ _ (.ni _) ⟨.returning, by rw [← hm], rfl⟩
    | some x =>
      obtain ⟨v, rfl, rv⟩ := hmode
      have hrec : recoverD (c₀ :: cs) = some (v, { c₀ with mode := .panicking [{ v, recovered := true }] } :: cs) := by simp [recoverD, hu]
      simp only [hrec]
      exact fin _ _ rv ⟨_, rfl, rfl⟩
  obtain ⟨e, a', cs', w', ⟨rfl, rfl, ha', R', u', rfl, hset⟩, harr⟩ := key _ R0 rfl b [.code rest] rfl rfl
  obtain ⟨w2, fr, hst, h1, h2, h3, S2, G2, ok2, I2, R2, hfin⟩ := hT F1 G ok w' a' b ({ c₀ with mode := u' } :: cs) hM rfl hg (by
    have : (recS args fn.ntmps d1 d2 h (u.getD .ni)).h = h := by simp only [recS, put_h]
    rw [this]; exact I.begin) R'
  rcases hfin with ⟨hm, -, hR⟩ | ⟨v, x, _, _, q, _⟩
  · obtain ⟨v, hv, rv⟩ := resA_ok (E := E) (fn := fn) (r := .tup []) I2 R2 (by rw [hrl]; rfl)
    refine ⟨.returned v, u', w2, fr, ⟨v, rfl, hset, G2, ok2, S2.h, hR, I2.adv, I.comp I2⟩, ?_, h2, hm, h3.trans ha', fn, by rw [h1]; exact hf, hv⟩
    rw [henter]
    exact Steps.trans (.head step_seq harr) hst
  · cases q
/-- A function that defers one closure. -/
theorem meetsH_defer {args : List AV} {h : Hp} {R : Out → Hp → Prop} {rest : Code} {id0 id1 d9 : Nat} {ops0 : Array Oper} {g : FuncId} {as bs : Array Operand} {t1 t2 : TypeId} {p1 p2 : String} {a1 a2 : Array Edge} {S1 : St} (n : Nat) (rl : List ResultVar) (hf : E.P.funcs[f]? = some fn)
    (hb : fn.body = some (.seq (.region id0 ops0 false) (.seq (.region id1 #[⟨some d9, .makeFunc (.func g) as bs, t1, p1, a1, none⟩, ⟨none, .defer ⟨.value (.tmp d9), #[], #[]⟩, t2, p2, a2, none⟩] false) rest))) (hnm : fn.name ≠ "runtime.NumGoroutine") (hrl : fn.results.toList = rl) (hN : fn.ntmps = n) (hn : args.length ≤ n) (hd : d9 < n) (hN1 : S1.N = n)
    (hrun : runA E ops0.toList ops0.toList ⟨envOf 0 args, n, h⟩ = .done S1)
    (hT : T E f [.code rest] (S1.put (some d9) (.fn g (as.toList.map (ev E S1)) (bs.toList.map (ev E S1)))) fun x S =>
      MeetsD E g (as.toList.map (ev E S1) ++ bs.toList.map (ev E S1)) (match x with | .ret => none | .pan x => some x) S.h fun h' => TR { S with h := h' } R (resA E { S with h := h' } rl)) : MeetsH E f args h R := by
  subst hN hrl
  refine ⟨hasBody hf hb hnm, fun F G ok w vals hM hg I hl hr cs => ?_⟩
  let b : Frame := { (default : Frame) with fn := f, kind := .normal }
  let F1 : Fr := ⟨fun b => ∃ id e p, (id, e) ∈ h.c ∧ G id = some p ∧ p.b = b, w, ok, G⟩
  have henter : Frame.enter E.P f vals .normal = b.at { tmps := vals ++ Array.replicate (fn.ntmps - vals.size) undef, defers := [] } [.code (.seq (.region id0 ops0 false) (.seq (.region id1 #[⟨some d9, .makeFunc (.func g) as bs, t1, p1, a1, none⟩, ⟨none, .defer ⟨.value (.tmp d9), #[], #[]⟩, t2, p2, a2, none⟩] false) rest))] := by
    simp [Frame.enter, Frame.at, hf, hb, b]
  have hw0 := run_wp (ops := ops0) (F := F1) (ds := []) hM hg ops0.toList.length ops0.toList 0 ⟨envOf 0 args, fn.ntmps, h⟩ G ok w _ rfl rfl hrun I.begin (enter_rel (h := h) hl hn hr) rfl
  have hr0 : List.range' 0 ops0.toList.length = List.range ops0.size := by rw [List.range_eq_range', Array.length_toList]
  rw [hr0] at hw0
  obtain ⟨e, a', w1, ⟨rfl, hd1, G1, ok1, I1, R1⟩, harr1⟩ := wp_ops _ _ w hw0 b [.code (.seq (.region id1 #[⟨some d9, .makeFunc (.func g) as bs, t1, p1, a1, none⟩, ⟨none, .defer ⟨.value (.tmp d9), #[], #[]⟩, t2, p2, a2, none⟩] false) rest)] cs
  generalize hcl : AV.fn g (as.toList.map (ev E S1)) (bs.toList.map (ev E S1)) = cl at hT
  have hw1 : wpOps E.P #[⟨some d9, .makeFunc (.func g) as bs, t1, p1, a1, none⟩, ⟨none, .defer ⟨.value (.tmp d9), #[], #[]⟩, t2, p2, a2, none⟩] (fun e a w => e = .normal ∧ ∃ G ok vs us, a.defers = [⟨.fn (.func g) us, vs⟩] ∧ Inv F1 G ok w S1.h ∧ RelT G ok w (S1.put (some d9) cl) a ∧
      vs.size = as.size ∧ us.size = bs.size ∧ (∀ (j : Nat) v b, vs[j]? = some v → (as.toList.map (ev E S1))[j]? = some b → Rep ok w G v b) ∧ ∀ (j : Nat) v b, us[j]? = some v → (bs.toList.map (ev E S1))[j]? = some b → Rep ok w G v b) [0, 1] a' w1 := by
    unfold wpOps
    simp only [List.getElem?_toArray, List.getElem?_cons_zero, Region.wanted, if_true]
    refine .inl (oper_wp (S := S1) (v := cl) (h' := S1.h) hM I1 R1 (glob_now (F := F1) hg I1) (by rw [← hcl]; rfl) (fun x w2 G2 ok2 A I2 rx => ?_))
    unfold wpOps
    simp only [List.getElem?_toArray, List.getElem?_cons_succ, List.getElem?_cons_zero, Region.wanted, if_true]
    have R2 : RelT G2 ok2 w2 (S1.put (some d9) cl) (a'.put (some d9) x) := (R1.adv A S1.h).put (some d9) rx
    have hv : ev E (S1.put (some d9) cl) (.tmp d9) = .fn g (as.toList.map (ev E S1)) (bs.toList.map (ev E S1)) := by
      rw [hcl]
      simp only [ev, St.put]
      rw [if_pos (by rw [hN1]; exact hd)]
      simp only [get, if_true]
    obtain ⟨vs, us, hx, l1, l2, q1, q2⟩ := callee_rep R2 (glob_now (F := F1) hg I2) hv
    refine .inl ?_
    unfold Oper.wp
    have hrun2 : (execOp (a'.put (some d9) x).eval ⟨none, .defer ⟨.value (.tmp d9), #[], #[]⟩, t2, p2, a2, none⟩).run E.P w2 = .ok (.defer ⟨.fn (.func g) us, vs⟩) w2 := by
      unfold execOp
      simp only [resolve, hx, Deferred.ofValue, pure_bind, Sem.run_bind, Sem.run_pure, Result.andThen_ok, Array.map_empty, Array.append_empty]
    rw [hrun2, Oper.upon_defer]
    unfold wpOps
    refine ⟨rfl, G2, ok2, vs, us, ?_, I2, ⟨R2.size, R2.r⟩, by simpa using l1, by simpa using l2, q1, q2⟩
    show _ :: (a'.put (some d9) x).defers = _
    rw [put_defers, hd1]
  obtain ⟨e, a3, w2, ⟨rfl, G2, ok2, vs, us, hd2, I2, R2, l1, l2, q1, q2⟩, harr2⟩ := wp_ops _ _ w1 hw1 b [.code rest] cs
  have I2' : Inv F1 G2 ok2 w2 (S1.put (some d9) cl).h := by rw [put_h]; exact I2
  obtain ⟨w3, fr, hst, h1, h2, h3, S3, G3, ok3, I3, R3, hfin⟩ := hT _ G2 ok2 w2 a3 b cs hM rfl (glob_now (F := F1) hg I2') I2'.begin R2
  have hg3 : Globs E.gl ok3 w3 := glob_now (F := F1) hg (I2'.comp I3)
  have fin : ∀ (u : Option AV) (um : FrameMode), um ≠ .run → fr.mode = um → Mode ok3 w3 G3 um u → MeetsD E g (as.toList.map (ev E S1) ++ bs.toList.map (ev E S1)) u S3.h (fun h' => TR { S3 with h := h' } R (resA E { S3 with h := h' } fn.results.toList)) →
      ∃ e w' fr', PostA F G ok w R e w' ∧ Comes E.P (lone (Frame.enter E.P f vals .normal) cs w) (lone fr' cs w') e ∧ fr'.fn = f ∧ fr'.leaving E.P w' e := by
    intro u um hrun' hmode hm hD
    obtain ⟨fg, hfg, hbg, hng⟩ := hD.1
    have hinv : (invoke (.fn (.func g) us) vs).run E.P w3 = .ok (.enter g (vs ++ us)) w3 := by
      have hn' : fg.body.isNone = false := by cases hq : fg.body <;> simp_all
      have hng' : (fg.name == "runtime.NumGoroutine") = false := by simpa using hng
      simp only [invoke, callFunc, Sem.run_bind, run_program, Result.andThen_ok, hfg, hng', hn', Bool.false_eq_true, if_false, Sem.run_pure]
    have hL : Leaves E.P fn fr.tmps (PostA F G ok w R) [⟨.fn (.func g) us, vs⟩] um w3 := by
      refine ⟨hrun', .func g, us, g, vs ++ us, rfl, hinv, ?_⟩
      refine (hD.2 _ G3 ok3 w3 (vs ++ us) um hM hg3 I3 (by simp [l1, l2]) (fun j v c e e' => ?_) hm).mono ?_
      · by_cases hj : j < as.size
        · rw [Array.getElem?_append_left (by omega)] at e
          rw [List.getElem?_append_left (by simpa using hj)] at e'
          exact (q1 j v c e e').adv I3.adv
        · rw [Array.getElem?_append_right (by omega), l1] at e
          rw [List.getElem?_append_right (by simpa using hj)] at e'
          simp only [List.length_map, Array.length_toList] at e'
          exact (q2 _ v c e e').adv I3.adv
      · rintro e u' w' ⟨vr, rfl, hset, G4, ok4, h4, hR, A4, I4⟩
        show Leaves E.P fn fr.tmps (PostA F G ok w R) [] (settle u') w'
        rw [hset]
        cases hres : resA E { S3 with h := h4 } fn.results.toList with
        | none => rw [hres] at hR; exact hR.elim
        | some r =>
          rw [hres] at hR
          obtain ⟨v, hv, rv⟩ := resA_ok (S := { S3 with h := h4 }) I4 (R3.adv A4 h4) hres
          exact ⟨v, hv, r, h4, G4, ok4, hR, (I2'.comp I4).adv, rv, I.comp (I2'.comp I4)⟩
    obtain ⟨e, w', fr', hp, hc, hfn', hlv⟩ := leaves_steps [⟨.fn (.func g) us, vs⟩] um w3 fr cs hmode (h3.trans hd2) rfl (by rw [h1]; exact hf) h2 hL
    refine ⟨e, w', fr', hp, ?_, hfn'.trans h1, hlv⟩
    rw [henter]
    exact .of_steps (.head step_seq (.head step_region (Steps.trans harr1 (.head step_seq (.head step_region (Steps.trans harr2 hst)))))) hc
  rcases hfin with ⟨hm, hx⟩ | ⟨v, x, hm, rv, hx⟩
  · exact fin none .returning (by simp) hm rfl hx
  · exact fin (some x) _ (by simp) hm ⟨v, rfl, rv⟩ hx
end
end Go.Proofs.YthahgmncnbeddaaGreatDoorA
/- Evaluation of a function that defers one closure; what the evaluator is handed. -/
set_option linter.unusedVariables false
set_option linter.unusedSimpArgs false
namespace Go.Proofs.YthahgmncnbeddaaGreatDoorA
open Go Go.RowKit
/-- The parts of a function that defers one closure. -/
structure DefP where
  (id0 id1 d9 : Nat)
  ops0 : Array Oper
  g : FuncId
  (as bs : Array Operand)
  (t1 t2 : TypeId)
  (p1 p2 : String)
  (a1 a2 : Array Edge)
  rest : Code
  (rp : Nat)
  (rt : TypeId)
def DefP.body (D : DefP) : Code := .seq (.region D.id0 D.ops0 false) (.seq (.region D.id1 #[⟨some D.d9, .makeFunc (.func D.g) D.as D.bs, D.t1, D.p1, D.a1, none⟩, ⟨none, .defer ⟨.value (.tmp D.d9), #[], #[]⟩, D.t2, D.p2, D.a2, none⟩] false) D.rest)
/-- The parts of a closure that recovers. -/
structure RecP where
  (id d1 d2 : Nat)
  (t1 t2 : TypeId)
  (p1 p2 : String)
  (a1 a2 : Array Edge)
  rest : Code
def RecP.body (D : RecP) : Code := .seq (.region D.id (recOp D.d1 D.d2 D.t1 D.t2 D.p1 D.p2 D.a1 D.a2) false) D.rest
section
variable {E : Env} {X : XT}
theorem runA_N : ∀ (all ops : List Oper) (S S' : St), runA E all ops S = .done S' → S'.N = S.N
  | all, [], S, S', h => by cases h; rfl
  | all, o :: os, S, S', h => by
    have pn : ∀ (S : St) (d : Option Nat) (v : AV), (S.put d v).N = S.N := fun S d v => by
      cases d with
      | none => rfl
      | some d => simp only [St.put]; split <;> rfl
    unfold runA at h
    split at h
    · unfold stepA at h
      split at h
      · exact (runA_N all os _ S' h).trans (pn ..)
      · cases h
      · cases h
      · cases h
    · exact (runA_N all os _ S' h).trans (pn ..)
    · cases h
end
end Go.Proofs.YthahgmncnbeddaaGreatDoorA
