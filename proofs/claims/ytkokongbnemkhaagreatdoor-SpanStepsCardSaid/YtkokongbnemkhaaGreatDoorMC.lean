/- Runs that are reckoned out: a function at given arguments, by evaluation. -/
import Derived.Test.YtkokongbnemkhaaGreatDoorMB
set_option linter.unusedVariables false
set_option linter.unusedSimpArgs false
namespace Go.Proofs.YtkokongbnemkhaaGreatDoorA
open Go Go.RowKit
/-- Functions that are told otherwise. -/
abbrev XT := FuncId → List AV → Hp → Option (Out × Hp)
def XOk (E : Env) (X : XT) : Prop := ∀ f args h o h', X f args h = some (o, h') → MeetsH E f args h fun o' h'' => o' = o ∧ h'' = h'
inductive Tk where
  | code (K : List Item) (S : St)
  | reg (all : List Oper) (K : List Item) (r : RR)
/-- The run of a function, with n steps of fuel. -/
def evK (E : Env) (X : XT) : Nat → List ResultVar → Tk → Option (Out × Hp)
  | 0, _, _ => none
  | n + 1, rl, .code K S =>
    match K with
    | [] => (match resA E S rl with | some r => some (.ret r, S.h) | none => none)
    | .inLoop c :: K => evK E X n rl (.code (.code c :: .inLoop c :: K) S)
    | .inBlock _ :: K => evK E X n rl (.code K S)
    | .code c :: K => (match c with
      | .seq x y => evK E X n rl (.code (.code x :: .code y :: K) S)
      | .skip => evK E X n rl (.code K S)
      | .label _ => evK E X n rl (.code K S)
      | .block id c => evK E X n rl (.code (.code c :: .inBlock id :: K) S)
      | .loop c => evK E X n rl (.code (.code c :: .inLoop c :: K) S)
      | .exit id => (match exitTo id K with | some K' => evK E X n rl (.code K' S) | none => none)
      | .cond c x y => (match ev E S c with
        | .b true => evK E X n rl (.code (.code x :: K) S)
        | .b false => evK E X n rl (.code (.code y :: K) S)
        | _ => none)
      | .ret => (match resA E S rl with | some r => some (.ret r, S.h) | none => none)
      | .region _ ops false => evK E X n rl (.reg ops.toList K (runA E ops.toList ops.toList S))
      | .region _ ops true => (match orderB ops with
        | true => (match runA E ops.toList ops.toList S with | .done S' => evK E X n rl (.code K S') | _ => none)
        | false => none)
      | _ => none)
    | _ => none
  | n + 1, rl, .reg all K (.done ⟨t, N, ⟨c, m⟩⟩) => evK E X n rl (.code K ⟨t, N, ⟨c, m⟩⟩)
  | n + 1, rl, .reg all K (.call g args d os S) =>
    match X g args S.h with
    | some (.ret r, h') => evK E X n rl (.reg all K (runA E all os (St.put { S with h := h' } d r)))
    | some (.pan x, h') => some (.pan x, h')
    | none => match E.P.funcs[g]? with
      | some fn => (match fn.body with
        | some c => (match Nat.ble args.length fn.ntmps with
          | true => (match evK E X n fn.results.toList (.code [.code c] ⟨envOf 0 args, fn.ntmps, S.h⟩) with
            | some (.ret r, h') => evK E X n rl (.reg all K (runA E all os (St.put { S with h := h' } d r)))
            | some (.pan x, h') => some (.pan x, h')
            | none => none)
          | false => none)
        | none => none)
      | none => none
  | n + 1, rl, .reg all K (.pan x S) => some (.pan x, S.h)
  | n + 1, rl, .reg all K .bad => none
/-- A function's run at given arguments. -/
def evF (E : Env) (X : XT) (n : Nat) (f : FuncId) (args : List AV) (h : Hp) : Option (Out × Hp) :=
  match E.P.funcs[f]? with
  | some fn => (match fn.body with
    | some c => (match Nat.ble args.length fn.ntmps with
      | true => evK E X n fn.results.toList (.code [.code c] ⟨envOf 0 args, fn.ntmps, h⟩)
      | false => none)
    | none => none)
  | none => none
def Is (o : Out) (h : Hp) : Out → Hp → Prop := fun o' h' => o' = o ∧ h' = h
def TkOk (E : Env) (rl : List ResultVar) (Q : Out → Hp → Prop) : Tk → Prop
  | .code K S => ∀ f, T E f K S (XQ E rl Q)
  | .reg all K r => ∀ f, WR E f all K (XQ E rl Q) r
def Named (P : Program) : Prop := ∀ (f : Nat) fn, P.funcs[f]? = some fn → fn.name ≠ "runtime.NumGoroutine"
section
variable {E : Env} {X : XT}
theorem call_ok (hN : Named E.P) {g : FuncId} {fn : Func} {c : Code} {args : List AV} {h h' : Hp} {o : Out} (hf : E.P.funcs[g]? = some fn) (hb : fn.body = some c) (hl : Nat.ble args.length fn.ntmps = true)
    (ih : TkOk E fn.results.toList (Is o h') (.code [.code c] ⟨envOf 0 args, fn.ntmps, h⟩)) : MeetsH E g args h (Is o h') :=
  meetsH fn.ntmps fn.results.toList hf hb (hN g fn hf) rfl rfl (Nat.le_of_ble_eq_true hl) (ih g)
theorem evK_ok (hX : XOk E X) (hN : Named E.P) (hO : E.P.follows .mixedOrders = true) : ∀ (n : Nat) (rl : List ResultVar) (tk : Tk) (o : Out) (h : Hp), evK E X n rl tk = some (o, h) → TkOk E rl (Is o h) tk
  | 0, rl, tk, o, h, e => by cases e
  | n + 1, rl, .code K S, o, h, e => by
    intro f
    match K with
    | [] =>
      simp only [evK] at e
      split at e
      · rename_i r hr
        cases e
        exact t_end (by simp only [XQ, hr]; exact ⟨rfl, rfl⟩)
      · cases e
    | .inLoop c :: K => exact t_inLoop (evK_ok hX hN hO n rl (.code (.code c :: .inLoop c :: K) S) o h e f)
    | .inBlock _ :: K => exact t_inBlock (evK_ok hX hN hO n rl (.code K S) o h e f)
    | .code c :: K =>
      match c with
      | .seq x y => exact t_seq (evK_ok hX hN hO n rl (.code (.code x :: .code y :: K) S) o h e f)
      | .skip => exact t_skip (evK_ok hX hN hO n rl (.code K S) o h e f)
      | .label _ => exact t_label (evK_ok hX hN hO n rl (.code K S) o h e f)
      | .block id c => exact t_block (evK_ok hX hN hO n rl (.code (.code c :: .inBlock id :: K) S) o h e f)
      | .loop c => exact t_loop (evK_ok hX hN hO n rl (.code (.code c :: .inLoop c :: K) S) o h e f)
      | .exit id =>
        simp only [evK] at e
        split at e
        · rename_i K' hk
          exact t_exit hk (evK_ok hX hN hO n rl (.code K' S) o h e f)
        · cases e
      | .cond c x y =>
        simp only [evK] at e
        refine t_cond ?_
        split at e
        · rename_i hv; rw [hv]; exact evK_ok hX hN hO n rl (.code (.code x :: K) S) o h e f
        · rename_i hv; rw [hv]; exact evK_ok hX hN hO n rl (.code (.code y :: K) S) o h e f
        · cases e
      | .ret =>
        simp only [evK] at e
        split at e
        · rename_i r hr
          cases e
          exact t_ret (by simp only [XQ, hr]; exact ⟨rfl, rfl⟩)
        · cases e
      | .region id ops false => exact t_region (evK_ok hX hN hO n rl (.reg ops.toList K (runA E ops.toList ops.toList S)) o h e f)
      | .region id ops true =>
        simp only [evK] at e
        split at e
        · rename_i ho
          split at e
          · rename_i S' hr
            exact t_draw hO ho (by rw [hr]; exact .done S' (evK_ok hX hN hO n rl (.code K S') o h e f))
          · cases e
        · cases e
      | .rangeFunc _ _ _ _ => cases e
      | .scope _ => cases e
      | .goto _ => cases e
      | .refuse _ => cases e
    | .inScope _ :: _ => cases e
    | .inRegion _ _ :: _ => cases e
    | .inRangeFunc _ :: _ => cases e
    | .endRangeFunc _ :: _ => cases e
    | .beginRound :: _ => cases e
    | .call _ _ _ _ :: _ => cases e
    | .extern _ _ :: _ => cases e
  | n + 1, rl, .reg all K (.done ⟨t, N, ⟨c, m⟩⟩), o, h, e => fun f => .done _ (evK_ok hX hN hO n rl (.code K ⟨t, N, ⟨c, m⟩⟩) o h e f)
  | n + 1, rl, .reg all K (.call g args d os S), o, h, e => by
    intro f
    simp only [evK] at e
    split at e
    · rename_i r h' hx
      refine .call g args d os S _ (hX _ _ _ _ _ hx) ?_ ?_
      · rintro r' h'' ⟨q1, rfl⟩
        cases q1
        exact evK_ok hX hN hO n rl _ o h e f
      · rintro r' h'' ⟨q1, rfl⟩
        cases q1
    · rename_i x h' hx
      cases e
      refine .call g args d os S _ (hX _ _ _ _ _ hx) ?_ ?_
      · rintro r' h'' ⟨q1, rfl⟩
        cases q1
      · rintro r' h'' ⟨q1, rfl⟩
        exact ⟨q1, rfl⟩
    · split at e
      · rename_i fn hf
        split at e
        · rename_i c hb
          split at e
          · rename_i hl
            split at e
            · rename_i r h' hx
              refine .call g args d os S _ (call_ok hN hf hb hl (evK_ok hX hN hO n _ _ _ _ hx)) ?_ ?_
              · rintro r' h'' ⟨q1, rfl⟩
                cases q1
                exact evK_ok hX hN hO n rl _ o h e f
              · rintro r' h'' ⟨q1, rfl⟩
                cases q1
            · rename_i x h' hx
              cases e
              refine .call g args d os S _ (call_ok hN hf hb hl (evK_ok hX hN hO n _ _ _ _ hx)) ?_ ?_
              · rintro r' h'' ⟨q1, rfl⟩
                cases q1
              · rintro r' h'' ⟨q1, rfl⟩
                exact ⟨q1, rfl⟩
            · cases e
          · cases e
        · cases e
      · cases e
  | n + 1, rl, .reg all K (.pan x S), o, h, e => fun f => by cases e; exact .pan x S ⟨rfl, rfl⟩
  | n + 1, rl, .reg all K .bad, o, h, e => by cases e
theorem evF_ok (hX : XOk E X) (hN : Named E.P) (hO : E.P.follows .mixedOrders = true) {n : Nat} {f : FuncId} {args : List AV} {h h' : Hp} {o : Out} (e : evF E X n f args h = some (o, h')) : MeetsH E f args h (Is o h') := by
  unfold evF at e
  split at e
  · rename_i fn hf
    split at e
    · rename_i c hb
      split at e
      · rename_i hl
        exact call_ok hN hf hb hl (evK_ok hX hN hO n _ _ _ _ e)
      · cases e
    · cases e
  · cases e
/-- The same, of a pure function. -/
theorem evP_ok (hM : ModOk E) (hX : XOk E X) (hN : Named E.P) (hO : E.P.follows .mixedOrders = true) {n : Nat} {f : FuncId} {args : List AV} {h' : Hp} {r r' : AV} (e : evF E X n f args ⟨[], 0⟩ = some (.ret r', h')) (h1 : fz h' 12 r' = r) (h2 : noid 12 r = true) : MeetsP E.P E.gl f args r := by
  unfold evF at e
  split at e
  · rename_i fn hf
    split at e
    · rename_i c hb
      split at e
      · rename_i hl
        refine meetsP fn.ntmps fn.results.toList hM hf hb (hN f fn hf) rfl rfl (Nat.le_of_ble_eq_true hl) ((evK_ok hX hN hO n _ _ _ _ e f).mono ?_)
        intro x S' hx
        cases x with
        | ret =>
          simp only [XQ] at hx ⊢
          cases hr : resA E S' fn.results.toList with
          | none => rw [hr] at hx; exact hx.elim
          | some r0 =>
            rw [hr] at hx
            obtain ⟨q1, q2⟩ := hx
            cases q1
            exact ⟨by rw [q2]; exact h1, h2⟩
        | pan x => obtain ⟨q1, _⟩ := hx; cases q1
      · cases e
    · cases e
  · cases e
end
end Go.Proofs.YtkokongbnemkhaaGreatDoorA
/- The same, quick for the kernel: small arms. -/
set_option linter.unusedVariables false
set_option linter.unusedSimpArgs false
namespace Go.Proofs.YtkokongbnemkhaaGreatDoorA
open Go Go.RowKit
noncomputable def getE (t : List (Nat × AV)) (j : Nat) : AV := List.rec .un (fun p _ ih => match Nat.beq p.1 j with | true => p.2 | false => ih) t
theorem getE_eq : ∀ (t : List (Nat × AV)) (j : Nat), getE t j = get t j
  | [], j => rfl
  | (i, v) :: r, j => by
    show (match Nat.beq i j with | true => v | false => getE r j) = if i = j then v else get r j
    rw [getE_eq r j]
    by_cases h : i = j
    · rw [if_pos h, show Nat.beq i j = true from Nat.beq_eq ▸ h]
    · rw [if_neg h]
      cases hb : Nat.beq i j with
      | true => exact absurd (Nat.eq_of_beq_eq_true hb) h
      | false => rfl
noncomputable def evGl (E : Env) (g : Nat) : AV := match E.gl g with | some row => .ip row 0 | none => .un
noncomputable def evE (E : Env) (t : List (Nat × AV)) : Operand → AV
  | .tmp j => getE t j
  | .const v => ofV v
  | .global g => evGl E g
  | .func f => .fn f [] []
theorem evE_eq (E : Env) (S : St) (x : Operand) : evE E S.t x = ev E S x := by
  cases x with
  | tmp j => exact getE_eq _ _
  | _ => rfl
def addI (x y : Int) : Int := match x with | .ofNat a => (match y with | .ofNat b => .ofNat (Nat.add a b) | y => Int.add (.ofNat a) y) | x => Int.add x y
theorem addI_eq (x y : Int) : addI x y = x + y := by cases x <;> cases y <;> rfl
def subI (x y : Int) : Int := match x with | .ofNat a => (match y with | .ofNat b => (match Nat.ble b a with | true => .ofNat (Nat.sub a b) | false => .negSucc (Nat.sub (Nat.sub b a) 1)) | y => Int.sub (.ofNat a) y) | x => Int.sub x y
theorem subI_eq (x y : Int) : subI x y = x - y := by
  cases x with
  | ofNat a => cases y with
    | ofNat b =>
      show (match Nat.ble b a with | true => Int.ofNat (a - b) | false => Int.negSucc (b - a - 1)) = Int.ofNat a - Int.ofNat b
      cases h : Nat.ble b a with
      | true => have := Nat.le_of_ble_eq_true h; simp only [Int.ofNat_eq_natCast]; omega
      | false => have : ¬ b ≤ a := fun q => by rw [Nat.ble_eq_true_of_le q] at h; cases h
                 simp only [Int.ofNat_eq_natCast, Int.negSucc_eq]; omega
    | _ => rfl
  | _ => rfl
def beqI (x y : Int) : Bool := match x with | .ofNat a => (match y with | .ofNat b => Nat.beq a b | .negSucc _ => false) | .negSucc a => (match y with | .ofNat _ => false | .negSucc b => Nat.beq a b)
theorem beqI_eq (x y : Int) : beqI x y = (x == y) := by
  rw [Bool.eq_iff_iff]
  simp only [beq_iff_eq]
  cases x <;> cases y <;> simp only [beqI, Nat.beq_eq, Int.ofNat_eq_natCast, Int.negSucc_eq, Bool.false_eq_true, false_iff] <;> omega
def leI (x y : Int) : Bool := match x with | .ofNat a => (match y with | .ofNat b => Nat.ble a b | .negSucc _ => false) | .negSucc a => (match y with | .ofNat _ => true | .negSucc b => Nat.ble b a)
theorem leI_eq (x y : Int) : leI x y = decide (x ≤ y) := by
  rw [Bool.eq_iff_iff, decide_eq_true_eq]
  cases x <;> cases y <;> simp only [leI, Nat.ble_eq, Int.ofNat_eq_natCast, Int.negSucc_eq, Bool.false_eq_true, false_iff, true_iff] <;> omega
def wrap64 (n : Int) : Int := match n with
  | .ofNat m => (match Nat.ble m 9223372036854775807 with | true => .ofNat m | false => IntKind.i64.wrap (.ofNat m))
  | .negSucc m => (match Nat.ble m 9223372036854775807 with | true => .negSucc m | false => IntKind.i64.wrap (.negSucc m))
def wrapE (k : IntKind) (n : Int) : Int := match k with | .i64 => wrap64 n | k => k.wrap n
theorem wrapE_eq (k : IntKind) (n : Int) : wrapE k n = k.wrap n := by
  cases k with
  | i64 =>
    show wrap64 n = _
    unfold wrap64
    split
    · split
      · rename_i h; have := Nat.le_of_ble_eq_true h; exact (w64 (by simp only [Int.ofNat_eq_natCast]; omega) (by simp only [Int.ofNat_eq_natCast]; omega)).symm
      · rfl
    · split
      · rename_i h; have := Nat.le_of_ble_eq_true h; exact (w64 (by simp only [Int.negSucc_eq]; omega) (by simp only [Int.negSucc_eq]; omega)).symm
      · rfl
  | _ => rfl
def eqK (a b : IntKind) : Bool := match a with
  | .i64 => (match b with | .i64 => true | _ => false)
  | .u8 => (match b with | .u8 => true | _ => false)
  | a => decide (a = b)
theorem eqK_eq (a b : IntKind) : eqK a b = decide (a = b) := by cases a <;> cases b <;> rfl
def nK (k k' : IntKind) (r : AV) : Option AV := match eqK k k' with | true => some r | false => none
def intE (op : BinOp) (k k' : IntKind) (x y : Int) : Option AV := match op with
  | .add => nK k k' (.i k (wrapE k (addI x y)))
  | .sub => nK k k' (.i k (wrapE k (subI x y)))
  | .eql => nK k k' (.b (beqI x y))
  | .neq => nK k k' (.b (!beqI x y))
  | .lss => nK k k' (.b (!leI y x))
  | .leq => nK k k' (.b (leI x y))
  | .gtr => nK k k' (.b (!leI x y))
  | .geq => nK k k' (.b (leI y x))
  | .shl => shA .shl k x y
  | .shr => shA .shr k x y
  | op => match eqK k k' with | true => intA op k x y | false => none
theorem intE_eq (op : BinOp) (k k' : IntKind) (x y : Int) (P : Program) (t : TypeId) : intE op k k' x y = binA P op t (.i k x) (.i k' y) := by
  have key : ∀ r : Option AV, (match eqK k k' with | true => r | false => none) = if k = k' then r else none := fun r => by
    rw [eqK_eq]
    by_cases h : k = k' <;> simp [h]
  have hlt : ∀ x y : Int, (!decide (y ≤ x)) = decide (x < y) := fun x y => by
    rw [Bool.eq_iff_iff]
    simp
  cases op <;> simp only [intE, binA, nK, key, addI_eq, subI_eq, beqI_eq, hlt, wrapE_eq, intA, leI_eq] <;> first | rfl | skip
def byteE (x y : UInt8) : Bool := Nat.beq x.toNat y.toNat
noncomputable def beqS (x : List UInt8) : List UInt8 → Bool := List.rec (fun y => match y with | [] => true | _ => false) (fun a _ ih y => match y with | [] => false | b :: y => match byteE a b with | true => ih y | false => false) x
theorem beqS_eq : ∀ x y : List UInt8, beqS x y = (x == y)
  | [], [] => rfl
  | [], _ :: _ => rfl
  | _ :: _, [] => rfl
  | a :: x, b :: y => by
    show (match byteE a b with | true => beqS x y | false => false) = (a == b && x == y)
    rw [beqS_eq x y]
    have : byteE a b = (a == b) := by
      rw [Bool.eq_iff_iff]
      simp only [byteE, Nat.beq_eq, beq_iff_eq, UInt8.toNat_inj]
    rw [this]
    cases a == b <;> rfl
noncomputable def strE (op : BinOp) (x y : List UInt8) : Option AV := match op with
  | .eql => some (.b (beqS x y))
  | .neq => some (.b (!beqS x y))
  | op => strA op x y
theorem strE_eq (op : BinOp) (x y : List UInt8) : strE op x y = strA op x y := by cases op <;> simp only [strE, strA, beqS_eq]
noncomputable def binE (P : Program) (op : BinOp) (t : TypeId) (a b : AV) : Option AV := match a with
  | .i k x => (match b with | .i k' y => intE op k k' x y | b => binA P op t (.i k x) b)
  | .s x => (match b with | .s y => strE op x y | b => binA P op t (.s x) b)
  | a => binA P op t a b
theorem binE_eq (P : Program) (op : BinOp) (t : TypeId) (a b : AV) : binE P op t a b = binA P op t a b := by
  cases a with
  | i k x => cases b with
    | i k' y => exact intE_eq op k k' x y P t
    | _ => rfl
  | s x => cases b with
    | s y => exact strE_eq op x y
    | _ => rfl
  | _ => rfl
noncomputable def binOE (P : Program) (op : BinOp) (t : TypeId) (a b : AV) (y : Operand) : Option AV := match y with | .tmp _ => binE P op t a b | .const (.int _ _) => binE P op t a b | .const (.string _) => binE P op t a b | y => binO P op t a b y
theorem binOE_eq (P : Program) (op : BinOp) (t : TypeId) (a b : AV) (y : Operand) : binOE P op t a b y = binO P op t a b y := by
  cases y with
  | tmp j => exact binE_eq ..
  | const v => cases v <;> first | rfl | exact binE_eq ..
  | _ => rfl
noncomputable def unE (op : UnOp) (a : AV) : Option AV := match op with | .not => (match a with | .b x => some (.b (!x)) | a => unA .not a) | op => unA op a
theorem unE_eq (op : UnOp) (a : AV) : unE op a = unA op a := by cases op <;> cases a <;> rfl
def ofE (h : Hp) (r : Option AV) : OR := match r with | some v => .val v h | none => .bad
noncomputable def pickE (E : Env) (S : St) (c a b : Operand) : OR := match ev E S c with | .b t => .val (match t with | true => ev E S a | false => ev E S b) S.h | _ => .bad
noncomputable def allocE (P : Program) (h : Hp) (t : TypeId) : OR := match zeroT P t with | some z => newT h (bif selfT P t then some t else none) z.length [z] fun id => .ptr id 0 0 | none => .bad
def nilE (h : Hp) (v : AV) : OR := match v with | .ptr id r c => .val (.ptr id r c) h | .ip row c => .val (.ip row c) h | .fn f a b => .val (.fn f a b) h | _ => .bad
noncomputable def faE (P : Program) (h : Hp) (s f : Nat) (v : AV) : OR := match fldT P s f with
  | some (off, _) => (match v with | .ptr id r c => .val (.ptr id r (Nat.add c off)) h | .ip row c => .val (.ip row (Nat.add c off)) h | _ => .bad)
  | none => .bad
noncomputable def fldE (P : Program) (h : Hp) (s f : Nat) (v : AV) : OR := match fldT P s f with
  | some (off, t) => (match v with | .agg cs => (match aggT P t, szT P t with | some ag, some n => .of h (part ag n cs off) | _, _ => .bad) | _ => .bad)
  | none => .bad
noncomputable def iaE (P : Program) (h : Hp) (t : TypeId) (x ix : AV) : OR := match ix with
  | .i _ i => (match elT P t with | some (k, _) => .of h (idxA h k x i) | none => (match arT P t with | some (n, k) => .of h (arA n k x i) | none => .bad))
  | _ => .bad
def strIx (h : Hp) (l : List UInt8) (i : Nat) : OR := match l[i]? with | some b => .val (.i .u8 b.toNat) h | none => .bad
noncomputable def ixE (E : Env) (S : St) (t : TypeId) (x ix : Operand) : OR := match ev E S ix with
  | .i _ i => (match ev E S x with
    | .s l => (match E.P.underlying t with | some .string => (match i with | .ofNat n => strIx S.h l n | .negSucc _ => .bad) | _ => .bad)
    | _ => opA E S (.index t x ix))
  | _ => opA E S (.index t x ix)
def exE (h : Hp) (v : AV) (i : Nat) : OR := match v with | .tup cs => .of h cs[i]? | _ => .bad
noncomputable def callE (E : Env) (S : St) (v : AV) (args : List Operand) : OR := match v with | .fn g a b => callA E S.h g (a ++ args.map (ev E S) ++ b) | _ => .bad
noncomputable def callC (E : Env) (S : St) (c : Call) : OR := match c with
  | ⟨.builtin b, args, ts⟩ => bltA E S b ts (args.toList.map (ev E S))
  | ⟨.value f, args, ts⟩ => callE E S (ev E S f) args.toList
  | c => .bad
noncomputable def opE (E : Env) (S : St) (op : Op) : OR := match op with
  | .move x => .val (ev E S x) S.h
  | .assign x => .val (ev E S x) S.h
  | .pick c a b => pickE E S c a b
  | .alloc t => allocE E.P S.h t
  | .load t a => ofE S.h (loadA E.P t S.h (ev E S a))
  | .store t a x => storeA E.P t S.h (ev E S a) (ev E S x)
  | .nilCheck x => nilE S.h (ev E S x)
  | .binOp op t x y _ => ofE S.h (binOE E.P op t (ev E S x) (ev E S y) y)
  | .unOp op _ x => ofE S.h (unE op (ev E S x))
  | .fieldAddr s x f => faE E.P S.h s f (ev E S x)
  | .field s x f => fldE E.P S.h s f (ev E S x)
  | .indexAddr t x ix => iaE E.P S.h t (ev E S x) (ev E S ix)
  | .index t x ix => ixE E S t x ix
  | .extract x i => exE S.h (ev E S x) i
  | .call c => callC E S c
  | op => opA E S op
theorem opE_eq (E : Env) (S : St) (op : Op) : opE E S op = opA E S op := by
  cases op with
  | move x => rfl
  | assign x => rfl
  | pick c a b =>
    simp only [opE, opA, pickE]
    cases ev E S c with
    | b t => cases t <;> rfl
    | _ => rfl
  | alloc t => rfl
  | load t a => simp only [opE, opA, ofE]; cases loadA E.P t S.h (ev E S a) <;> rfl
  | store t a x => rfl
  | nilCheck x => simp only [opE, opA, nilE]; cases ev E S x <;> rfl
  | binOp op t x y ty => simp only [opE, opA, ofE, binOE_eq]; cases binO E.P op t (ev E S x) (ev E S y) y <;> rfl
  | unOp op ty x => simp only [opE, opA, ofE, unE_eq]; cases unA op (ev E S x) <;> rfl
  | fieldAddr s x f => simp only [opE, opA, faE]; cases fldT E.P s f with
    | none => rfl
    | some p => obtain ⟨off, t⟩ := p; cases ev E S x <;> rfl
  | field s x f => simp only [opE, opA, fldE]; cases fldT E.P s f with
    | none => rfl
    | some p => obtain ⟨off, t⟩ := p; cases ev E S x <;> rfl
  | indexAddr t x ix =>
    simp only [opE, opA, iaE]
    cases ev E S ix with
    | i k n => cases elT E.P t with
      | none => cases arT E.P t <;> rfl
      | some p => rfl
    | _ => rfl
  | index t x ix =>
    simp only [opE, ixE]
    split
    · rename_i k i hi
      split
      · rename_i l hl
        simp only [opA, hi, hl]
        cases E.P.underlying t with
        | none => rfl
        | some d => cases d with
          | string =>
            cases i with
            | ofNat n => simp only [strIx, Int.ofNat_eq_natCast, Int.natCast_nonneg, if_true, Int.toNat_natCast]; rfl
            | negSucc n => simp only [show ¬ (0 : Int) ≤ Int.negSucc n by omega, if_false]
          | _ => rfl
      · rfl
    · rfl
  | extract x i => simp only [opE, opA, exE]; cases ev E S x <;> rfl
  | call c =>
    obtain ⟨callee, args, ts⟩ := c
    cases callee <;> rfl
  | _ => rfl
def guardV (v : AV) (want : Bool) : Option Bool := match v with | .b x => some (match x with | true => want | false => !want) | .tup _ => some false | _ => none
noncomputable def guardE (all : List Oper) (t : List (Nat × AV)) (j : Nat) (want : Bool) : Option Bool := match (all[j]?).bind (·.dst) with | some d => guardV (getE t d) want | none => none
theorem guardE_eq (E : Env) (all : List Oper) (S : St) (j : Nat) (want : Bool) : guardE all S.t j want = guardA E all S (some (j, want)) := by
  simp only [guardE, guardA]
  cases (all[j]?).bind (·.dst) with
  | none => rfl
  | some d =>
    simp only [getE_eq]
    cases get S.t d with
    | b x => simp only [guardV]; cases x <;> cases want <;> rfl
    | _ => rfl
def putE (t : List (Nat × AV)) (N : Nat) (d : Option Nat) (v : AV) (h : Hp) : St := match d with
  | none => ⟨t, N, h⟩
  | some d => match Nat.ble N d with | true => ⟨t, N, h⟩ | false => ⟨(d, v) :: t, N, h⟩
theorem putE_eq (t : List (Nat × AV)) (N : Nat) (d : Option Nat) (v : AV) (h : Hp) : putE t N d v h = St.put ⟨t, N, h⟩ d v := by
  cases d with
  | none => rfl
  | some d =>
    simp only [putE, St.put]
    cases hb : Nat.ble N d with
    | true => rw [if_neg (Nat.not_lt.2 (Nat.le_of_ble_eq_true hb))]
    | false => rw [if_pos (Nat.lt_of_not_le fun q => by rw [Nat.ble_eq_true_of_le q] at hb; cases hb)]
noncomputable def stepR (S : St) (d : Option Nat) (os : List Oper) (rec : St → RR) (r : OR) : RR := match S with
  | ⟨t, N, h⟩ => match r with
    | .val v h' => rec (putE t N d v h')
    | .call f args => .call f args d os ⟨t, N, h⟩
    | .pan x => .pan x ⟨t, N, h⟩
    | .bad => .bad
noncomputable def stepG (S : St) (d : Option Nat) (rec : St → RR) (g : Option Bool) (r : RR) : RR := match g with
  | some true => r
  | some false => rec (S.put d (.tup []))
  | none => .bad
noncomputable def stepO (E : Env) (all : List Oper) (o : Oper) (os : List Oper) (rec : St → RR) (S : St) : RR := match o with
  | ⟨d, op, _, _, _, g⟩ => match g with
    | none => stepR S d os rec (opE E S op)
    | some (j, want) => stepG S d rec (guardE all S.t j want) (stepR S d os rec (opE E S op))
noncomputable def runE (E : Env) (all ops : List Oper) : St → RR := List.rec (fun S => .done S) (fun o os rec S => stepO E all o os rec S) ops
theorem runE_eq (E : Env) (all : List Oper) : ∀ (ops : List Oper) (S : St), runE E all ops S = runA E all ops S
  | [], S => rfl
  | o :: os, S => by
    show stepO E all o os (runE E all os) S = _
    have ih : runE E all os = fun S => runA E all os S := funext (runE_eq E all os)
    rw [ih]
    obtain ⟨d, op, ty, pos, af, g⟩ := o
    obtain ⟨t, N, h⟩ := S
    have key : ∀ r : OR, stepR ⟨t, N, h⟩ d os (fun S => runA E all os S) r = (match r with | .val v h' => runA E all os (St.put ⟨t, N, h'⟩ d v) | .call f args => .call f args d os ⟨t, N, h⟩ | .pan x => .pan x ⟨t, N, h⟩ | .bad => .bad) := fun r => by
      cases r with
      | val v h' => simp only [stepR, putE_eq]
      | _ => rfl
    cases g with
    | none =>
      simp only [stepO, key, opE_eq, runA, guardA, stepA]
      cases opA E ⟨t, N, h⟩ op <;> rfl
    | some jw =>
      obtain ⟨j, want⟩ := jw
      have hg : guardE all t j want = guardA E all ⟨t, N, h⟩ (some (j, want)) := guardE_eq E all ⟨t, N, h⟩ j want
      simp only [stepO, key, opE_eq, runA, stepA, hg]
      cases guardA E all ⟨t, N, h⟩ (some (j, want)) with
      | none => rfl
      | some b =>
        cases b with
        | false => rfl
        | true => simp only [stepG]; cases opA E ⟨t, N, h⟩ op <;> rfl
end Go.Proofs.YtkokongbnemkhaaGreatDoorA
