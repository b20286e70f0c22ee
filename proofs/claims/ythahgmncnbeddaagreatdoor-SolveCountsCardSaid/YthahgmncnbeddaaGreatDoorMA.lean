/- Values by what they hold: a value of the model reads as a plain one. -/
import Derived.Calls
import Derived.Below
import Derived.KernelRfl
import Derived.Laws.Sem
import Derived.Laws.Rows
import Derived.Laws.CopyRow
import Derived.Laws.StructEq
import Derived.Laws.Strings
import Derived.Laws.AppendOwn
set_option linter.unusedVariables false
set_option linter.unusedSimpArgs false
namespace Go.Proofs.YthahgmncnbeddaaGreatDoorA
open Go
/-- A plain value. -/
inductive AV where
  | b (x : Bool)
  | i (k : IntKind) (n : Int)
  | s (l : List UInt8)
  | np | nf | ni | nils
  | ptr (id r c : Nat)
  | ip (row : List AV) (c : Nat)
  | isl (nn : Bool) (k : Nat) (rows : List (List AV))
  | osl (id off len : Nat)
  | itr (id : Nat)
  | fn (f : FuncId) (first caps : List AV)
  | ifc (t : TypeId) (v : AV)
  | agg (cs : List AV)
  | tup (cs : List AV)
  | un
instance : Inhabited AV := ⟨.un⟩
/-- Where a block of the call's own lies: block, first cell, cells of a row, cells of the block. -/
structure Pl where
  (b base k sz : Nat)
abbrev Gh := Nat → Option Pl
abbrev Okc := Nat → Nat → Prop
def G0 : Gh := fun _ => none
/-- What a value reads as: own blocks through G, lasting cells (ok) of the world w. -/
inductive Rep (ok : Okc) (w : World) : Gh → Value → AV → Prop
  | b (G : Gh) (x : Bool) : Rep ok w G (.bool x) (.b x)
  | i (G : Gh) (k : IntKind) (n : Int) : Rep ok w G (.int k n) (.i k n)
  | s (G : Gh) (x : ByteArray) : Rep ok w G (.string x) (.s x.data.toList)
  | np (G : Gh) : Rep ok w G (.pointer none) .np
  | nf (G : Gh) : Rep ok w G .nilFunc .nf
  | ni (G : Gh) : Rep ok w G .nilIface .ni
  | nils (G : Gh) : Rep ok w G (.slice none 0 0) .nils
  | ptr (G : Gh) (id r c : Nat) (p : Pl) (h : G id = some p) : Rep ok w G (.pointer (some ⟨p.b, p.base + r * p.k + c, none⟩)) (.ptr id r c)
  | ip (G : Gh) (row : List AV) (c bb o : Nat) (vs : Nat → Value)
      (h1 : ∀ j, j < row.length → w.cell? ⟨bb, o + j, none⟩ = some (vs j) ∧ ok bb (o + j) ∧ (vs j).oneCell' = true) (h2 : ∀ j a, row[j]? = some a → Rep ok w G0 (vs j) a) :
      Rep ok w G (.pointer (some ⟨bb, o + c, none⟩)) (.ip row c)
  | isln (G : Gh) (k : Nat) : Rep ok w G (.slice none 0 0) (.isl false k [])
  | isle (G : Gh) (k : Nat) (A : Addr) (cap : Nat) : Rep ok w G (.slice (some A) 0 cap) (.isl false k [])
  | isl (G : Gh) (nn : Bool) (k : Nat) (rows : List (List AV)) (n bb o cap : Nat) (vs : Nat → Nat → Value) (hn : n = rows.length) (hc : rows.length ≤ cap) (hk : ∀ row ∈ rows, row.length = k)
      (h1 : ∀ i row, rows[i]? = some row → ∀ j, j < row.length → w.cell? ⟨bb, o + i * k + j, none⟩ = some (vs i j) ∧ ok bb (o + i * k + j) ∧ (vs i j).oneCell' = true)
      (h2 : ∀ i row, rows[i]? = some row → ∀ j a, row[j]? = some a → Rep ok w G0 (vs i j) a) :
      Rep ok w G (.slice (some ⟨bb, o, none⟩) n cap) (.isl nn k rows)
  | osl (G : Gh) (id off n cap : Nat) (p : Pl) (h : G id = some p) (h1 : n ≤ cap) (h2 : p.base + off * p.k + cap * p.k = p.sz) :
      Rep ok w G (.slice (some ⟨p.b, p.base + off * p.k, none⟩) n cap) (.osl id off n)
  | itr (G : Gh) (id : Nat) (p : Pl) (h : G id = some p) : Rep ok w G (.pointer (some ⟨p.b, 0, none⟩)) (.itr id)
  | fn (G : Gh) (f : FuncId) (vs us : Array Value) (as bs : List AV) (l1 : vs.size = as.length) (l2 : us.size = bs.length)
      (h1 : ∀ (j : Nat) v a, vs[j]? = some v → as[j]? = some a → Rep ok w G v a) (h2 : ∀ (j : Nat) v a, us[j]? = some v → bs[j]? = some a → Rep ok w G v a) :
      Rep ok w G (.func (.func f) vs us) (.fn f as bs)
  | ifc (G : Gh) (t : TypeId) (v : Value) (a : AV) (h : Rep ok w G v a) : Rep ok w G (.iface t v) (.ifc t a)
  | agg (G : Gh) (vs : Array Value) (as : List AV) (l : vs.size = as.length) (h : ∀ (j : Nat) v a, vs[j]? = some v → as[j]? = some a → Rep ok w G v a) : Rep ok w G (.agg vs) (.agg as)
  | tup (G : Gh) (vs : Array Value) (as : List AV) (l : vs.size = as.length) (h : ∀ (j : Nat) v a, vs[j]? = some v → as[j]? = some a → Rep ok w G v a) : Rep ok w G (.tuple vs) (.tup as)
  | un (G : Gh) (v : Value) : Rep ok w G v .un
/-- Whatever lasts, lasts; the own blocks lie where they lay. -/
structure Adv (G : Gh) (ok : Okc) (w : World) (G' : Gh) (ok' : Okc) (w' : World) : Prop where
  g : ∀ id p, G id = some p → G' id = some p
  c : ∀ b i, ok b i → ok' b i ∧ w'.cell? ⟨b, i, none⟩ = w.cell? ⟨b, i, none⟩
  sh : ∀ b s, w.shape? b = some s → w'.shape? b = some s
theorem Adv.refl (G : Gh) (ok : Okc) (w : World) : Adv G ok w G ok w := ⟨fun _ _ h => h, fun _ _ h => ⟨h, rfl⟩, fun _ _ h => h⟩
theorem Adv.trans {G G' G'' : Gh} {ok ok' ok'' : Okc} {w w' w'' : World} (h : Adv G ok w G' ok' w') (k : Adv G' ok' w' G'' ok'' w'') : Adv G ok w G'' ok'' w'' :=
  ⟨fun id p e => k.g id p (h.g id p e), fun b i e => ⟨(k.c b i (h.c b i e).1).1, (k.c b i (h.c b i e).1).2.trans (h.c b i e).2⟩, fun b s e => k.sh b s (h.sh b s e)⟩
theorem Rep.mono {ok ok' : Okc} {w w' : World} {G : Gh} {v : Value} {a : AV} (r : Rep ok w G v a) (hc : ∀ b i, ok b i → ok' b i ∧ w'.cell? ⟨b, i, none⟩ = w.cell? ⟨b, i, none⟩) :
    ∀ G' : Gh, (∀ id p, G id = some p → G' id = some p) → Rep ok' w' G' v a := by
  induction r with
  | b G x => exact fun _ _ => .b _ _
  | i G k n => exact fun _ _ => .i _ _ _
  | s G x => exact fun _ _ => .s _ _
  | np G => exact fun _ _ => .np _
  | nf G => exact fun _ _ => .nf _
  | ni G => exact fun _ _ => .ni _
  | nils G => exact fun _ _ => .nils _
  | ptr G id r c p h => exact fun G' hg => .ptr _ id r c p (hg _ _ h)
  | ip G row c bb o vs h1 h2 ih => exact fun G' hg => .ip _ row c bb o vs (fun j hj => ⟨(hc _ _ (h1 j hj).2.1).2.trans (h1 j hj).1, (hc _ _ (h1 j hj).2.1).1, (h1 j hj).2.2⟩) (fun j a hj => ih j a hj G0 (fun _ _ e => e))
  | isln G k => exact fun _ _ => .isln _ k
  | isle G k A cap => exact fun _ _ => .isle _ k A cap
  | isl G nn k rows n bb o cap vs hn hcap hk h1 h2 ih =>
    exact fun G' hg => .isl _ nn k rows n bb o cap vs hn hcap hk (fun i row hi j hj => ⟨(hc _ _ (h1 i row hi j hj).2.1).2.trans (h1 i row hi j hj).1, (hc _ _ (h1 i row hi j hj).2.1).1, (h1 i row hi j hj).2.2⟩) (fun i row hi j a hj => ih i row hi j a hj G0 (fun _ _ e => e))
  | osl G id off n cap p h h1 h2 => exact fun G' hg => .osl _ id off n cap p (hg _ _ h) h1 h2
  | itr G id p h => exact fun G' hg => .itr _ id p (hg _ _ h)
  | fn G f vs us as bs l1 l2 h1 h2 ih1 ih2 => exact fun G' hg => .fn _ f vs us as bs l1 l2 (fun j v a e e' => ih1 j v a e e' G' hg) (fun j v a e e' => ih2 j v a e e' G' hg)
  | ifc G t v a h ih => exact fun G' hg => .ifc _ t v a (ih G' hg)
  | agg G vs as l h ih => exact fun G' hg => .agg _ vs as l (fun j v a e e' => ih j v a e e' G' hg)
  | tup G vs as l h ih => exact fun G' hg => .tup _ vs as l (fun j v a e e' => ih j v a e e' G' hg)
  | un G v => exact fun _ _ => .un _ _
theorem Rep.adv {ok ok' : Okc} {w w' : World} {G G' : Gh} {v : Value} {a : AV} (r : Rep ok w G v a) (h : Adv G ok w G' ok' w') : Rep ok' w' G' v a := r.mono h.c G' h.g
theorem Rep.of0 {ok : Okc} {w : World} {G : Gh} {v : Value} {a : AV} (r : Rep ok w G0 v a) : Rep ok w G v a := r.mono (fun _ _ h => ⟨h, rfl⟩) G (fun _ _ e => by cases e)
/-- A block of the call's own holds rows, or goes through a string. -/
inductive Ent where
  | rows (k : Nat) (l : List (List AV))
  | iter (l : List UInt8) (pos : Nat)
  | tr (t : TypeId) (k : Nat) (l : List (List AV))
/-- Without the type of the block. -/
def Ent.plain : Ent → Ent
  | .tr _ k l => .rows k l
  | e => e
structure Hp where
  c : List (Nat × Ent)
  n : Nat
def HoldsR (ok : Okc) (w : World) (G : Gh) (p : Pl) (k : Nat) (l : List (List AV)) : Prop :=
  p.k = k ∧ ∃ cs t fz, w.heap[p.b]? = some (.cells cs t fz) ∧ cs.size = p.sz ∧ p.base + l.length * p.k ≤ p.sz ∧ (∀ o, p.base ≤ o → (decide (fz.1 ≤ o) && decide (o < fz.2)) = true → p.sz ≤ o) ∧
      (∀ row ∈ l, row.length = p.k) ∧ ∀ i row, l[i]? = some row → ∀ j a, row[j]? = some a → ∃ v, cs[p.base + i * p.k + j]? = some v ∧ Rep ok w G v a ∧ v.oneCell' = true
def Holds (ok : Okc) (w : World) (G : Gh) (p : Pl) : Ent → Prop
  | .rows k l => HoldsR ok w G p k l
  | .tr t k l => HoldsR ok w G p k l ∧ p.base = 0 ∧ ∃ n, w.shape? p.b = some (t, n)
  | .iter l pos => w.heap[p.b]? = some (.stringIter ⟨l.toArray⟩ pos)
/-- The call's own blocks: apart, not lasting, and nothing of them is lost. -/
structure RelH (G : Gh) (ok : Okc) (w : World) (h : Hp) : Prop where
  look : ∀ id e, (id, e) ∈ h.c → ∃ p, G id = some p ∧ Holds ok w G p e ∧ (∀ o, p.base ≤ o → ¬ ok p.b o)
  inj : ∀ id id' e e' p p', (id, e) ∈ h.c → (id', e') ∈ h.c → id ≠ id' → G id = some p → G id' = some p' → p.b ≠ p'.b
  nodup : (h.c.map (·.1)).Nodup
  fresh : ∀ id, h.n ≤ id → G id = none
/-- The frame of a function's run: blocks that it may change, the world in which it began. -/
structure Fr where
  D : Nat → Prop
  w0 : World
  ok0 : Okc
  G0 : Gh
structure Inv (F : Fr) (G : Gh) (ok : Okc) (w : World) (h : Hp) : Prop where
  os : w.os = F.w0.os
  tape : w.tape = F.w0.tape
  output : w.output = F.w0.output
  size : F.w0.heap.size ≤ w.heap.size
  keep : ∀ b, b < F.w0.heap.size → ¬ F.D b → w.heap[b]? = F.w0.heap[b]?
  okeep : ∀ b, b < F.w0.heap.size → ¬ F.D b → ∀ i, ok b i → F.ok0 b i
  adv : Adv F.G0 F.ok0 F.w0 G ok w
  lt : ∀ b i, ok b i → b < w.heap.size
  own : ∀ id e p, (id, e) ∈ h.c → G id = some p → F.D p.b ∨ F.w0.heap.size ≤ p.b
  rel : RelH G ok w h
end Go.Proofs.YthahgmncnbeddaaGreatDoorA
/- What the operations do to plain values. -/
set_option linter.unusedVariables false
set_option linter.unusedSimpArgs false
namespace Go.Proofs.YthahgmncnbeddaaGreatDoorA
open Go
/-- A state: the temporaries (the newest first), how many there are, the call's own blocks. -/
structure St where
  t : List (Nat × AV)
  N : Nat
  h : Hp
def get : List (Nat × AV) → Nat → AV
  | [], _ => .un
  | (i, v) :: r, j => if i = j then v else get r j
def St.put (S : St) (d : Option Nat) (v : AV) : St :=
  match d with
  | none => S
  | some d => if d < S.N then { S with t := (d, v) :: S.t } else S
/-- What a run leans on: the program, tables that lie in its variables, the models of pure functions. -/
structure Env where
  P : Program
  gl : Nat → Option (List AV)
  M : FuncId → List AV → Option AV
def ofV1 : Value → AV
  | .bool b => .b b
  | .int k n => .i k n
  | .string x => .s x.data.toList
  | .pointer none => .np
  | .slice none 0 0 => .nils
  | .nilFunc => .nf
  | .nilIface => .ni
  | _ => .un
def ofV : Value → AV
  | .agg cs => .agg (cs.toList.map ofV1)
  | v => ofV1 v
def ev (E : Env) (S : St) : Operand → AV
  | .tmp t => get S.t t
  | .const v => ofV v
  | .global g => match E.gl g with | some row => .ip row 0 | none => .un
  | .func f => .fn f [] []
/-- A value of one cell. -/
def one : AV → Bool
  | .agg _ => false
  | .tup _ => false
  | .un => false
  | _ => true
/-- The cells of a value. -/
def cellsA : AV → Option (List AV)
  | .agg cs => if cs.all one then some cs else none
  | .un => none
  | .tup _ => none
  | v => some [v]
def szT (P : Program) (t : TypeId) : Option Nat := (P.info? t).map (·.size)
def zeroT (P : Program) (t : TypeId) : Option (List AV) := (P.info? t).bind fun i => match i.zero with | some v => if v.cells.toList.all Value.oneCell' then some (v.cells.toList.map ofV1) else none | none => none
/-- Where the parts of a struct or an array lie. -/
def plT (P : Program) (t : TypeId) : Option (List (Nat × Nat) ⊕ Nat) :=
  match P.underlying t with
  | some (.array _ e) => (szT P e).map .inr
  | some (.struct fs) => (fs.toList.mapM fun f => (P.info? f.type).map fun i => (f.offset, i.size)).map .inl
  | _ => none
def plA : List (Nat × Nat) ⊕ Nat → Nat → Option (Nat × Nat)
  | .inl l, i => l[i]?
  | .inr k, i => some (i * k, k)
def aggT (P : Program) (t : TypeId) : Option Bool := match P.underlying t with | some (.struct _) => some true | some (.array _ _) => some true | some _ => some false | none => none
def fldT (P : Program) (s : TypeId) (f : Nat) : Option (Nat × TypeId) := match P.underlying s with | some (.struct fs) => (match fs[f]? with | some fd => (match szT P fd.type with | some (_ + 1) => some (fd.offset, fd.type) | _ => none) | none => none) | _ => none
def elT (P : Program) (t : TypeId) : Option (Nat × TypeId) := match P.underlying t with | some (.slice e) => (szT P e).map fun k => (k, e) | _ => none
def arT (P : Program) (t : TypeId) : Option (Nat × Nat) := match P.underlying t with | some (.array n e) => (szT P e).map fun k => (n, k) | _ => none
def u8T (P : Program) (t : TypeId) : Bool := match P.underlying t with | some (.int k) => decide (k = .u8) | _ => false
def look (c : List (Nat × Ent)) (id : Nat) : Option Ent := match c with | [] => none | (i, e) :: r => if i = id then some e.plain else look r id
/-- The type of a block, where it is known. -/
def Ent.ty : Ent → Option TypeId
  | .tr t _ _ => some t
  | _ => none
def tyOf (c : List (Nat × Ent)) (id : Nat) : Option TypeId := match c with | [] => none | (i, e) :: r => if i = id then e.ty else tyOf r id
def Ent.keep : Ent → Ent → Ent
  | .tr t _ _, .rows k l => .tr t k l
  | _, e => e
def entT (ty : Option TypeId) (k : Nat) (l : List (List AV)) : Ent := match ty with | some t => .tr t k l | none => .rows k l
def keepT : Option TypeId → Option TypeId → Option TypeId
  | some a, some b => if a = b then some a else none
  | _, _ => none
def rmv (c : List (Nat × Ent)) (id : Nat) : List (Nat × Ent) := match c with | [] => [] | (i, e) :: r => if i = id then r else (i, e) :: rmv r id
def upd (c : List (Nat × Ent)) (id : Nat) (e : Ent) : List (Nat × Ent) := match c with | [] => [] | (i, e') :: r => if i = id then (i, e'.keep e) :: r else (i, e') :: upd r id e
/-- What a part of a row reads as. -/
def part (agg : Bool) (n : Nat) (row : List AV) (c : Nat) : Option AV := if agg then (if c + n ≤ row.length then some (.agg ((row.drop c).take n)) else none) else row[c]?
def putRow (row : List AV) (c : Nat) (cs : List AV) : Option (List AV) := if c + cs.length ≤ row.length then some (row.take c ++ cs ++ row.drop (c + cs.length)) else none
/-- What an operation comes to. -/
inductive OR where
  | val (v : AV) (h : Hp)
  | call (f : FuncId) (args : List AV)
  | pan (x : AV)
  | bad
def OR.of (h : Hp) : Option AV → OR
  | some v => .val v h
  | none => .bad
def newA (h : Hp) (k : Nat) (l : List (List AV)) (mk : Nat → AV) : OR := .val (mk h.n) ⟨(h.n, .rows k l) :: h.c, h.n + 1⟩
def newT (h : Hp) (ty : Option TypeId) (k : Nat) (l : List (List AV)) (mk : Nat → AV) : OR := .val (mk h.n) ⟨(h.n, entT ty k l) :: h.c, h.n + 1⟩
/-- A struct of two fields, the first one a pointer to its own type: strings.Builder. -/
def selfT (P : Program) (t : TypeId) : Bool := match P.underlying t with | some (.struct fs) => (match fs.toList with | [f, _] => (match P.underlying f.type with | some (.pointer u) => Nat.beq u t | _ => false) | _ => false) | _ => false
def loadA (P : Program) (t : TypeId) (h : Hp) (a : AV) : Option AV :=
  match aggT P t, szT P t with
  | some ag, some n => (match a with
    | .ptr id r c => (match look h.c id with | some (.rows _ l) => (match l[r]? with | some row => part ag n row c | none => none) | _ => none)
    | .ip row c => part ag n row c
    | _ => none)
  | _, _ => none
def storeA (P : Program) (t : TypeId) (h : Hp) (a x : AV) : OR :=
  match a, cellsA x, szT P t with
  | .ptr id r c, some cs, some n => if cs.length = n then (match look h.c id with
    | some (.rows k l) => (match l[r]? with
      | some row => (match putRow row c cs with | some row' => .val (.tup []) ⟨upd h.c id (.rows k (l.set r row')), h.n⟩ | none => .bad)
      | none => .bad)
    | _ => .bad) else .bad
  | _, _, _ => .bad
def intA (op : BinOp) (k : IntKind) (x y : Int) : Option AV :=
  match op with
  | .add => some (.i k (k.wrap (x + y)))
  | .sub => some (.i k (k.wrap (x - y)))
  | .mul => some (.i k (k.wrap (x * y)))
  | .quo => if y = 0 then none else some (.i k (k.wrap (x.tdiv y)))
  | .rem => if y = 0 then none else some (.i k (x.tmod y))
  | .eql => some (.b (x == y))
  | .neq => some (.b (x != y))
  | .lss => some (.b (decide (x < y)))
  | .leq => some (.b (decide (x ≤ y)))
  | .gtr => some (.b (decide (x > y)))
  | .geq => some (.b (decide (x ≥ y)))
  | .and => some (.i k (k.wrap (BitVec.ofInt k.bits x &&& BitVec.ofInt k.bits y).toNat))
  | .or => some (.i k (k.wrap (BitVec.ofInt k.bits x ||| BitVec.ofInt k.bits y).toNat))
  | .xor => some (.i k (k.wrap (BitVec.ofInt k.bits x ^^^ BitVec.ofInt k.bits y).toNat))
  | .andNot => some (.i k (k.wrap (BitVec.ofInt k.bits x &&& ~~~BitVec.ofInt k.bits y).toNat))
  | _ => none
def shA (op : BinOp) (k : IntKind) (x y : Int) : Option AV :=
  if y < 0 then none else match op with
  | .shl => some (.i k (k.wrap (x * 2 ^ (min y.toNat k.bits))))
  | .shr => some (.i k (x.fdiv (2 ^ (min y.toNat k.bits))))
  | _ => none
def strA (op : BinOp) (x y : List UInt8) : Option AV :=
  match op with
  | .add => if x.length + y.length ≤ 9223372036854775807 then some (.s (x ++ y)) else none
  | .eql => some (.b (x == y))
  | .neq => some (.b (!(x == y)))
  | .lss => some (.b (Op.bytesLess x y))
  | .leq => some (.b (Op.bytesLess x y || x == y))
  | .gtr => some (.b (!(Op.bytesLess x y || x == y)))
  | .geq => some (.b (!Op.bytesLess x y))
  | _ => none
/-- A comparison with nil. -/
def nilA : AV → AV → Option Bool
  | .nils, .nils => some true
  | .isl true _ _, .nils => some false
  | .isl false _ (_ :: _), .nils => some false
  | .osl _ _ _, .nils => some false
  | _, _ => none
def eqB : BinOp → Bool → Option AV
  | .eql, x => some (.b x)
  | .neq, x => some (.b (!x))
  | _, _ => none
def tagT (P : Program) (t : TypeId) : Option Nat := match P.underlying t with | some .bool => some 0 | some (.int _) => some 1 | some .string => some 2 | _ => none
/-- The fields of a struct whose == looks at numbers, truth values and strings alone. -/
def eqL (P : Program) (t : TypeId) : Option (List (Nat × Nat)) := match P.underlying t with
  | some (.struct fs) => if P.stoodInHeld t = false ∧ P.eqGuardType P.depth t = false then fs.toList.mapM fun f => if f.name ≠ "_" then (tagT P f.type).map fun g => (f.offset, g) else none else none
  | _ => none
def eqG : Nat → AV → AV → Option Bool
  | 0, .b a, .b b => some (a == b)
  | 1, .i k a, .i k' b => if k = k' then some (a == b) else none
  | 2, .s a, .s b => some (a == b)
  | _, _, _ => none
def eqC (xs ys : List AV) : List (Nat × Nat) → Option Bool
  | [] => some true
  | (o, g) :: r => match xs[o]?, ys[o]? with
    | some x, some y => (match eqG g x y with | some true => eqC xs ys r | some false => some false | none => none)
    | _, _ => none
def eqA (P : Program) (op : BinOp) (t : TypeId) (xs ys : List AV) : Option AV := match eqL P t with
  | some l => (match eqC xs ys l with | some r => eqB op r | none => none)
  | none => none
def ptrT (P : Program) (t : TypeId) : Bool := match P.underlying t with | some (.pointer _) => true | _ => false
def ifcT (P : Program) (t : TypeId) : Bool := match P.underlying t with | some (.interface _) => true | _ => false
def nilP (P : Program) (op : BinOp) (t : TypeId) (r : Bool) : Option AV := if ptrT P t then eqB op r else none
/-- A comparison of an interface with nil itself. -/
def niA (P : Program) (op : BinOp) (t : TypeId) : AV → Option AV
  | .ni => if ifcT P t then eqB op true else none
  | .ifc _ _ => if ifcT P t then eqB op false else none
  | _ => none
def binA (P : Program) (op : BinOp) (t : TypeId) (a b : AV) : Option AV :=
  match a, b with
  | .i k x, .i k' y => (match op with
    | .shl => shA op k x y
    | .shr => shA op k x y
    | _ => if k = k' then intA op k x y else none)
  | .s x, .s y => strA op x y
  | .b x, .b y => (match P.underlying t with | some .bool => eqB op (x == y) | _ => none)
  | .agg xs, .agg ys => eqA P op t xs ys
  | .np, .np => nilP P op t true
  | .ptr _ _ _, .np => nilP P op t false
  | .ip _ _, .np => nilP P op t false
  | x, .nils => (match P.underlying t, nilA x .nils with | some (.slice _), some r => eqB op r | _, _ => none)
  | _, _ => none
def binO (P : Program) (op : BinOp) (t : TypeId) (a b : AV) : Operand → Option AV
  | .const .nilIface => niA P op t a
  | _ => binA P op t a b
def unA (op : UnOp) (a : AV) : Option AV :=
  match op, a with
  | .neg, .i k n => some (.i k (k.wrap (0 - n)))
  | .not, .b x => some (.b (!x))
  | .xor, .i k n => some (.i k (k.wrap (BitVec.ofInt k.bits (if k.signed then -1 else k.max) ^^^ BitVec.ofInt k.bits n).toNat))
  | _, _ => none
def idxA (h : Hp) (k : Nat) (a : AV) (i : Int) : Option AV :=
  match a with
  | .isl _ k' rows => if k' = k ∧ 0 ≤ i then (match rows[i.toNat]? with | some row => some (.ip row 0) | none => none) else none
  | .osl id off n => (match look h.c id with | some (.rows k' _) => if k' = k ∧ 0 ≤ i ∧ i < (n : Int) then some (.ptr id (off + i.toNat) 0) else none | _ => none)
  | _ => none
def arA (n k : Nat) (a : AV) (i : Int) : Option AV :=
  if 0 ≤ i ∧ i < (n : Int) then (match a with
    | .ptr id r c => some (.ptr id r (c + i.toNat * k))
    | .ip row c => some (.ip row (c + i.toNat * k))
    | _ => none) else none
def bndA (d : Nat) (S : St) (E : Env) : Option Operand → Option Int
  | none => some (d : Int)
  | some x => match ev E S x with | .i _ n => some n | _ => none
/-- x[l:h]. -/
def slA (h : Hp) (k : Nat) (a : AV) (lo hi : Int) : Option AV :=
  match a with
  | .s x => if 0 ≤ lo ∧ lo ≤ hi ∧ hi ≤ (x.length : Int) then some (.s ((x.take hi.toNat).drop lo.toNat)) else none
  | .nils => if lo = 0 ∧ hi = 0 then some .nils else none
  | .isl nn k' rows => if k' = k ∧ 0 ≤ lo ∧ lo ≤ hi ∧ hi ≤ (rows.length : Int) then some (.isl nn k ((rows.take hi.toNat).drop lo.toNat)) else none
  | .osl id off n => (match look h.c id with | some (.rows k' _) => if k' = k ∧ 0 ≤ lo ∧ lo ≤ hi ∧ hi ≤ (n : Int) then (if lo = hi then some (.isl true k []) else some (.osl id (off + lo.toNat) (hi.toNat - lo.toNat))) else none | _ => none)
  | _ => none
def lenA : AV → Option Int
  | .s x => some (x.length : Int)
  | .nils => some 0
  | .isl _ _ rows => some (rows.length : Int)
  | .osl _ _ n => some (n : Int)
  | _ => none
/-- The rows that a slice or a string brings. -/
def rowsA (h : Hp) (k : Nat) : AV → Option (List (List AV))
  | .nils => some []
  | .isl _ k' rows => if k' = k then some rows else none
  | .osl id off n => (match look h.c id with | some (.rows k' l) => if k' = k ∧ off + n ≤ l.length then some ((l.drop off).take n) else none | _ => none)
  | .s x => if k = 1 then some (x.map fun b => [.i .u8 b.toNat]) else none
  | _ => none
def appA (h : Hp) (k bytes : Nat) (ty : Option TypeId) (s x : AV) : OR :=
  match rowsA h k x with
  | none => .bad
  | some new => match s with
    | .nils => if new.length * bytes ≤ 70368744177664 ∧ 1 ≤ bytes then (if new = [] then .val .nils h else newT h ty k new fun id => .osl id 0 new.length) else .bad
    | .osl id off n => (match look h.c id with
      | some (.rows k' l) => if k' = k ∧ off + n = l.length ∧ (n + new.length) * bytes ≤ 70368744177664 ∧ 1 ≤ bytes then .val (.osl h.n 0 (n + new.length)) ⟨(h.n, entT (keepT (bif Nat.beq off 0 then ty else none) (tyOf h.c id)) k (l.drop off ++ new)) :: rmv h.c id, h.n + 1⟩ else .bad
      | _ => .bad)
    | _ => .bad
/-- No own block is named. -/
def noid : Nat → AV → Bool
  | 0, _ => false
  | d + 1, a => match a with
    | .b _ => true | .i _ _ => true | .s _ => true | .np => true | .nf => true | .ni => true | .nils => true | .un => true
    | .ip _ _ => true | .isl _ _ _ => true
    | .agg cs => cs.all (noid d)
    | .tup cs => cs.all (noid d)
    | .ifc _ v => noid d v
    | .fn _ a b => a.all (noid d) && b.all (noid d)
    | _ => false
/-- Own slices made lasting: what a pure function is given, and what a function answers. -/
def fz (h : Hp) : Nat → AV → AV
  | 0, a => a
  | d + 1, a => match a with
    | .osl id off n => (match look h.c id with
      | some (.rows k l) => if off + n ≤ l.length ∧ (((l.drop off).take n).map fun row => row.map (fz h d)).all (fun row => row.all (noid d)) = true then .isl true k (((l.drop off).take n).map fun row => row.map (fz h d)) else a
      | _ => a)
    | .agg cs => .agg (cs.map (fz h d))
    | .tup cs => .tup (cs.map (fz h d))
    | a => a
/-- No memory is named. -/
def scal : Nat → AV → Bool
  | 0, _ => false
  | d + 1, a => match a with
    | .b _ => true | .i _ _ => true | .s _ => true | .np => true | .nf => true | .ni => true | .nils => true | .un => true
    | .agg cs => cs.all (scal d)
    | .tup cs => cs.all (scal d)
    | _ => false
def callA (E : Env) (h : Hp) (f : FuncId) (args : List AV) : OR :=
  if args.all (noid 12) then (match E.M f args with | some r => .val r h | none => .call f args)
  else if (args.map (fz h 12)).all (noid 12) then (match E.M f (args.map (fz h 12)) with | some r => if scal 12 r then .val r h else .call f args | none => .call f args)
  else .call f args
/-- The least, or the greatest, of whole numbers. -/
def mmA (lo : Bool) : AV → List AV → Option AV
  | .i k x, [] => some (.i k x)
  | .i k x, .i _ y :: r => mmA lo (.i k (match lo with | true => if y < x then y else x | false => if x < y then y else x)) r
  | _, _ => none
def bltA (E : Env) (S : St) (b : Builtin) (ts : Array TypeId) (args : List AV) : OR :=
  match b, args with
  | .len, [x] => (match ts[0]? with
    | some t => (match E.P.underlying t with
      | some .string => (match x with | .s l => .val (.i .i64 l.length) S.h | _ => .bad)
      | some (.array n _) => .val (.i .i64 n) S.h
      | some (.slice _) => (match x with | .s _ => .bad | x => (match lenA x with | some n => .val (.i .i64 n) S.h | none => .bad))
      | _ => .bad)
    | none => .bad)
  | .append, [s, x] => (match ts[0]?, ts[1]? with
    | some t, some u => (match elT E.P t, E.P.underlying u with
      | some (k, e), some d => (match d, E.P.info? e, zeroT E.P e with | .int _, _, _ => .bad | _, some i, some z => if z.length = k then appA S.h k i.bytes (bif u8T E.P e then some e else none) s x else .bad | _, _, _ => .bad)
      | _, _ => .bad)
    | _, _ => .bad)
  | .min, x :: l => .of S.h (mmA true x l)
  | .max, x :: l => .of S.h (mmA false x l)
  | _, _ => .bad
def partsA (E : Env) (S : St) (pl : Nat → Option (Nat × Nat)) (row : List AV) : List (Nat × Operand) → Option (List AV)
  | [] => some row
  | (i, x) :: r => match pl i, cellsA (ev E S x) with
    | some (off, size), some cs => if cs.length = size then (match putRow row off cs with | some row' => partsA E S pl row' r | none => none) else none
    | _, _ => none
def bsA (E : Env) (S : St) (k : Nat) : List (List AV) → List (Nat × Operand) → Option (List (List AV))
  | rows, [] => some rows
  | rows, (i, x) :: r => match cellsA (ev E S x) with
    | some cs => if cs.length = k ∧ i < rows.length then bsA E S k (rows.set i cs) r else none
    | none => none
def opA (E : Env) (S : St) : Op → OR
  | .move x => .val (ev E S x) S.h
  | .assign x => .val (ev E S x) S.h
  | .pick c a b => (match ev E S c with | .b t => .val (bif t then ev E S a else ev E S b) S.h | _ => .bad)
  | .alloc t => (match zeroT E.P t with | some z => newT S.h (bif selfT E.P t then some t else none) z.length [z] fun id => .ptr id 0 0 | none => .bad)
  | .box t x => (match cellsA (ev E S x) with | some cs => newA S.h cs.length [cs] fun id => .ptr id 0 0 | none => .bad)
  | .build t parts => (match zeroT E.P t, plT E.P t with
    | some z, some pl => .of S.h ((partsA E S (plA pl) z parts.toList).map .agg)
    | _, _ => .bad)
  | .buildSlice t len parts => (match elT E.P t with
    | some (k, e) => (match zeroT E.P e with
      | some z => if z.length = k ∧ len * k ≤ 16777216 then (match bsA E S k (List.replicate len z) parts.toList with
        | some rows => newA S.h k rows fun id => .osl id 0 rows.length
        | none => .bad) else .bad
      | none => .bad)
    | none => .bad)
  | .load t a => .of S.h (loadA E.P t S.h (ev E S a))
  | .store t a x => storeA E.P t S.h (ev E S a) (ev E S x)
  | .nilCheck x => (match ev E S x with | .ptr id r c => .val (.ptr id r c) S.h | .ip row c => .val (.ip row c) S.h | .fn f a b => .val (.fn f a b) S.h | _ => .bad)
  | .binOp op t x y _ => .of S.h (binO E.P op t (ev E S x) (ev E S y) y)
  | .unOp op _ x => .of S.h (unA op (ev E S x))
  | .convert src dst x => (match E.P.underlying src, E.P.underlying dst, ev E S x with
    | some (.int _), some (.int k), .i _ n => .val (.i k (k.wrap n)) S.h
    | some .string, some .string, .s l => .val (.s l) S.h
    | some .string, some (.slice e), .s l => if u8T E.P e then newA S.h 1 (l.map fun b => [.i .u8 b.toNat]) fun id => .osl id 0 l.length else .bad
    | _, _, _ => .bad)
  | .makeInterface t x => (match ifcT E.P t, E.P.underlying t with | false, some _ => .val (.ifc t (ev E S x)) S.h | _, _ => .bad)
  | .typeAssert x _ a ok => (match ifcT E.P a, E.P.underlying a, ev E S x with | false, some _, .ifc t v => if t = a then .val (bif ok then .tup [v, .b true] else v) S.h else .bad | _, _, _ => .bad)
  | .panic x => (match ev E S x with | .ifc t v => .pan (.ifc t v) | _ => .bad)
  | .makeFunc (.func f) a b => .val (.fn f (a.toList.map (ev E S)) (b.toList.map (ev E S))) S.h
  | .makeSlice t l c => (match elT E.P t, ev E S l, ev E S c with
    | some (k, e), .i _ n, .i _ m => (match zeroT E.P e, E.P.info? e with
      | some z, some i => if z.length = k ∧ n = m ∧ 0 ≤ n ∧ i.bytes * n ≤ 70368744177664 ∧ n ≤ 9223372036854775807 then newA S.h k (List.replicate n.toNat z) fun id => .osl id 0 n.toNat else .bad
      | _, _ => .bad)
    | _, _, _ => .bad)
  | .slice t x lo hi none => (match E.P.underlying t with
    | some .string => (match ev E S x with
      | .s l => (match bndA 0 S E lo, bndA l.length S E hi with | some a, some b => .of S.h (slA S.h 1 (.s l) a b) | _, _ => .bad)
      | _ => .bad)
    | some (.slice e) => (match szT E.P e, ev E S x with
      | _, .s _ => .bad
      | some k, x => (match lenA x with
        | some n => (match bndA 0 S E lo, bndA n.toNat S E hi with | some a, some b => .of S.h (slA S.h k x a b) | _, _ => .bad)
        | none => .bad)
      | _, _ => .bad)
    | _ => .bad)
  | .fieldAddr s x f => (match fldT E.P s f, ev E S x with
    | some (off, _), .ptr id r c => .val (.ptr id r (c + off)) S.h
    | some (off, _), .ip row c => .val (.ip row (c + off)) S.h
    | _, _ => .bad)
  | .field s x f => (match fldT E.P s f, ev E S x with
    | some (off, t), .agg cs => (match aggT E.P t, szT E.P t with | some ag, some n => .of S.h (part ag n cs off) | _, _ => .bad)
    | _, _ => .bad)
  | .indexAddr t x ix => (match ev E S ix with
    | .i _ i => (match elT E.P t with
      | some (k, _) => .of S.h (idxA S.h k (ev E S x) i)
      | none => (match arT E.P t with | some (n, k) => .of S.h (arA n k (ev E S x) i) | none => .bad))
    | _ => .bad)
  | .index t x ix => (match ev E S ix, ev E S x with
    | .i _ i, .s l => (match E.P.underlying t with | some .string => if 0 ≤ i then (match l[i.toNat]? with | some b => .val (.i .u8 b.toNat) S.h | none => .bad) else .bad | _ => .bad)
    | .i _ i, .agg cs => (match E.P.underlying t with
      | some (.array n e) => (match aggT E.P e, szT E.P e with | some ag, some k => if 0 ≤ i ∧ i < (n : Int) then .of S.h (part ag k cs (i.toNat * k)) else .bad | _, _ => .bad)
      | _ => .bad)
    | _, _ => .bad)
  | .extract x i => (match ev E S x with | .tup cs => .of S.h cs[i]? | _ => .bad)
  | .call c => (match c.callee with
    | .builtin b => bltA E S b c.argTypes (c.args.toList.map (ev E S))
    | .value f => (match ev E S f with | .fn g a b => callA E S.h g (a ++ c.args.toList.map (ev E S) ++ b) | _ => .bad)
    | _ => .bad)
  | _ => .bad
def guardA (E : Env) (all : List Oper) (S : St) : Option (Nat × Bool) → Option Bool
  | none => some true
  | some (j, want) => match (all[j]?).bind (·.dst) with
    | some d => (match get S.t d with | .b x => some (x == want) | .tup _ => some false | _ => none)
    | none => none
/-- What a region comes to: its end, a call that stands next, or nothing that is known. -/
inductive RR where
  | done (S : St)
  | call (f : FuncId) (args : List AV) (d : Option Nat) (rest : List Oper) (S : St)
  | pan (x : AV) (S : St)
  | bad
def stepA (E : Env) (all : List Oper) (S : St) (o : Oper) (k : St → RR) (os : List Oper) : RR :=
  match opA E S o.op with
  | .val v h => k (St.put { S with h := h } o.dst v)
  | .call f args => .call f args o.dst os S
  | .pan x => .pan x S
  | .bad => .bad
def runA (E : Env) (all : List Oper) : List Oper → St → RR
  | [], S => .done S
  | o :: os, S => match guardA E all S o.guard with
    | some true => stepA E all S o (fun S => runA E all os S) os
    | some false => runA E all os (S.put o.dst (.tup []))
    | none => .bad
end Go.Proofs.YthahgmncnbeddaaGreatDoorA
/- The worlds behind an allocation, a store, an append: what stays. -/
set_option linter.unusedVariables false
set_option linter.unusedSimpArgs false
namespace Go.Proofs.YthahgmncnbeddaaGreatDoorA
open Go Go.RowKit
theorem look_mem {id : Nat} {e : Ent} : ∀ {c : List (Nat × Ent)}, look c id = some e → ∃ e0, (id, e0) ∈ c ∧ e0.plain = e
  | [], h => by cases h
  | (i, e') :: r, h => by
    unfold look at h
    split at h
    · rename_i hi; subst hi; cases h; exact ⟨_, List.mem_cons_self .., rfl⟩
    · obtain ⟨e0, h1, h2⟩ := look_mem h; exact ⟨e0, List.mem_cons_of_mem _ h1, h2⟩
theorem RelH.look' {G : Gh} {ok : Okc} {w : World} {h : Hp} (R : RelH G ok w h) {id : Nat} {e : Ent} (hl : Go.Proofs.YthahgmncnbeddaaGreatDoorA.look h.c id = some e) : ∃ p, G id = some p ∧ Holds ok w G p e ∧ (∀ o, p.base ≤ o → ¬ ok p.b o) := by
  obtain ⟨e0, hm, rfl⟩ := look_mem hl
  obtain ⟨p, h1, h2, h3⟩ := R.look id e0 hm
  refine ⟨p, h1, ?_, h3⟩
  cases e0 with
  | tr t k l => exact h2.1
  | _ => exact h2
theorem mem_upd {id j : Nat} {e e' : Ent} : ∀ {c : List (Nat × Ent)}, (c.map (·.1)).Nodup → (j, e') ∈ upd c id e → (j = id ∧ ∃ e0, e' = Ent.keep e0 e ∧ (id, e0) ∈ c) ∨ (j ≠ id ∧ (j, e') ∈ c)
  | [], _, h => by cases h
  | (i, e0) :: r, hn, h => by
    have hn' : i ∉ r.map (·.1) ∧ (r.map (·.1)).Nodup := by simpa using hn
    unfold upd at h
    split at h
    · rename_i hi
      subst hi
      cases h with
      | head => exact .inl ⟨rfl, e0, rfl, List.mem_cons_self ..⟩
      | tail _ h => exact .inr ⟨fun q => hn'.1 (q ▸ List.mem_map.2 ⟨_, h, rfl⟩), List.mem_cons_of_mem _ h⟩
    · rename_i hi
      cases h with
      | head => exact .inr ⟨hi, List.mem_cons_self ..⟩
      | tail _ h =>
        rcases mem_upd hn'.2 h with ⟨a, b, c, d⟩ | ⟨a, b⟩
        · exact .inl ⟨a, b, c, List.mem_cons_of_mem _ d⟩
        · exact .inr ⟨a, List.mem_cons_of_mem _ b⟩
theorem keys_upd (id : Nat) (e : Ent) : ∀ c : List (Nat × Ent), (upd c id e).map (·.1) = c.map (·.1)
  | [] => rfl
  | (i, e0) :: r => by
    unfold upd
    split
    · rfl
    · simp [keys_upd id e r]
theorem mem_rmv {id j : Nat} {e' : Ent} : ∀ {c : List (Nat × Ent)}, (c.map (·.1)).Nodup → (j, e') ∈ rmv c id → j ≠ id ∧ (j, e') ∈ c
  | [], _, h => by cases h
  | (i, e0) :: r, hn, h => by
    have hn' : i ∉ r.map (·.1) ∧ (r.map (·.1)).Nodup := by simpa using hn
    unfold rmv at h
    split at h
    · rename_i hi
      subst hi
      exact ⟨fun q => hn'.1 (q ▸ List.mem_map.2 ⟨_, h, rfl⟩), List.mem_cons_of_mem _ h⟩
    · rename_i hi
      cases h with
      | head => exact ⟨hi, List.mem_cons_self ..⟩
      | tail _ h => have := mem_rmv hn'.2 h; exact ⟨this.1, List.mem_cons_of_mem _ this.2⟩
theorem sub_rmv (id : Nat) : ∀ c : List (Nat × Ent), ((rmv c id).map (·.1)).Sublist (c.map (·.1))
  | [] => .slnil
  | (i, e0) :: r => by
    unfold rmv
    split
    · exact .cons _ (List.Sublist.refl _)
    · exact .cons_cons _ (sub_rmv id r)
theorem Holds.adv {G G' : Gh} {ok ok' : Okc} {w w' : World} {p : Pl} {e : Ent} (h : Holds ok w G p e) (A : Adv G ok w G' ok' w') (hb : w'.heap[p.b]? = w.heap[p.b]?) : Holds ok' w' G' p e := by
  have key : ∀ k l, HoldsR ok w G p k l → HoldsR ok' w' G' p k l := fun k l h => by
    obtain ⟨hk, cs, t, fz, h1, h2, h3, h4, h5, h6⟩ := h
    exact ⟨hk, cs, t, fz, hb.trans h1, h2, h3, h4, h5, fun i row hi j a hj => let ⟨v, hv, r, o⟩ := h6 i row hi j a hj; ⟨v, hv, r.adv A, o⟩⟩
  cases e with
  | rows k l => exact key k l h
  | tr t k l => exact ⟨key k l h.1, h.2.1, h.2.2.imp fun n q => A.sh _ _ q⟩
  | iter l pos => exact hb.trans h
theorem Holds.lt {G : Gh} {ok : Okc} {w : World} {p : Pl} {e : Ent} (h : Holds ok w G p e) : p.b < w.heap.size := by
  cases e with
  | rows k l => obtain ⟨hk, cs, t, fz, h1, _⟩ := h; exact (Array.getElem?_eq_some_iff.1 h1).1
  | tr _ k l => obtain ⟨⟨hk, cs, t, fz, h1, _⟩, _⟩ := h; exact (Array.getElem?_eq_some_iff.1 h1).1
  | iter l pos => exact (Array.getElem?_eq_some_iff.1 h).1
/-- G, with a new block at a new number. -/
def ext (G : Gh) (n : Nat) (p : Pl) : Gh := fun id => if id = n then some p else G id
theorem ext_new (G : Gh) (n : Nat) (p : Pl) : ext G n p n = some p := if_pos rfl
theorem ext_old {G : Gh} {n id : Nat} {p q : Pl} (hn : G n = none) (h : G id = some q) : ext G n p id = some q := by
  unfold ext; rw [if_neg (fun e => by rw [e, hn] at h; cases h)]; exact h
theorem cell_push {w w' : World} {o : Obj} (hh : w'.heap = w.heap.push o) {b i : Nat} (hb : b < w.heap.size) : w'.cell? ⟨b, i, none⟩ = w.cell? ⟨b, i, none⟩ := by
  unfold World.cell?; rw [hh, Array.getElem?_push, if_neg (show ¬ b = w.heap.size by omega)]
theorem heap_push {w w' : World} {o : Obj} (hh : w'.heap = w.heap.push o) {b : Nat} (hb : b < w.heap.size) : w'.heap[b]? = w.heap[b]? := by
  rw [hh, Array.getElem?_push, if_neg (by omega)]
theorem shape_push {w w' : World} {o : Obj} (hh : w'.heap = w.heap.push o) {b : Nat} {s : TypeId × Nat} (h : w.shape? b = some s) : w'.shape? b = some s := by
  have hb : b < w.heap.size := by
    rcases Nat.lt_or_ge b w.heap.size with q | q
    · exact q
    · unfold World.shape? at h; rw [Array.getElem?_eq_none q] at h; cases h
  unfold World.shape? at h ⊢
  rw [heap_push hh hb]; exact h
theorem adv_new {F : Fr} {G : Gh} {ok : Okc} {w w' : World} {h : Hp} (I : Inv F G ok w h) {o : Obj} (hh : w'.heap = w.heap.push o) (p : Pl) : Adv G ok w (ext G h.n p) ok w' :=
  ⟨fun id q e => ext_old (I.rel.fresh _ (Nat.le_refl _)) e, fun b i e => ⟨e, cell_push hh (I.lt b i e)⟩, fun b s e => shape_push hh e⟩
/-- A new block, of a new number. -/
theorem Inv.new {F : Fr} {G : Gh} {ok : Okc} {w w' : World} {h : Hp} (I : Inv F G ok w h) {o : Obj} (hh : w'.heap = w.heap.push o) (ho : w'.os = w.os) (ht : w'.tape = w.tape) (hu : w'.output = w.output)
    (p : Pl) (e : Ent) (hp : p.b = w.heap.size) (he : Holds ok w' (ext G h.n p) p e) : Inv F (ext G h.n p) ok w' ⟨(h.n, e) :: h.c, h.n + 1⟩ := by
  have hs : w'.heap.size = w.heap.size + 1 := by rw [hh]; simp
  have A := adv_new I hh p
  have hf := I.rel.fresh h.n (Nat.le_refl _)
  have hne : ∀ id e', (id, e') ∈ h.c → id ≠ h.n := fun id e' hm q => by
    obtain ⟨p', hp', _⟩ := I.rel.look id e' hm
    rw [q, hf] at hp'; cases hp'
  have hold : ∀ id e' q, (id, e') ∈ h.c → ext G h.n p id = some q → G id = some q := fun id e' q hm hq => by
    unfold ext at hq; rw [if_neg (hne id e' hm)] at hq; exact hq
  refine ⟨ho.trans I.os, ht.trans I.tape, hu.trans I.output, by have := I.size; omega, fun b hb hd => (heap_push hh (by have := I.size; omega)).trans (I.keep b hb hd), I.okeep, I.adv.trans A, fun b i hb => by have := I.lt b i hb; omega, ?_, ?_, ?_, ?_, ?_⟩
  · intro id e' q hm hq
    cases hm with
    | head => rw [ext_new] at hq; cases hq; have := I.size; exact .inr (by omega)
    | tail _ hm => exact I.own id e' q hm (hold id e' q hm hq)
  · intro id e' hm
    cases hm with
    | head => exact ⟨p, ext_new .., he, fun o _ hok => by have := I.lt _ _ hok; omega⟩
    | tail _ hm =>
      obtain ⟨q, hq, h1, h2⟩ := I.rel.look id e' hm
      exact ⟨q, ext_old hf hq, h1.adv A (heap_push hh h1.lt), h2⟩
  · intro id id' e1 e2 q q' hm hm' hn hq hq'
    cases hm with
    | head =>
      cases hm' with
      | head => exact absurd rfl hn
      | tail _ hm' =>
        rw [ext_new] at hq; cases hq
        obtain ⟨q2, hq2, h1, h2⟩ := I.rel.look id' e2 hm'
        rw [hold id' e2 q' hm' hq'] at hq2; cases hq2
        have := h1.lt; omega
    | tail _ hm =>
      cases hm' with
      | head =>
        rw [ext_new] at hq'; cases hq'
        obtain ⟨q2, hq2, h1, h2⟩ := I.rel.look id e1 hm
        rw [hold id e1 q hm hq] at hq2; cases hq2
        have := h1.lt; omega
      | tail _ hm' => exact I.rel.inj id id' e1 e2 q q' hm hm' hn (hold _ _ _ hm hq) (hold _ _ _ hm' hq')
  · simp only [List.map_cons, List.nodup_cons]
    refine ⟨fun hm => ?_, I.rel.nodup⟩
    obtain ⟨⟨i, e'⟩, hm', rfl⟩ := List.mem_map.1 hm
    exact hne _ _ hm' rfl
  · intro id hid
    simp only at hid
    unfold ext; rw [if_neg (by omega)]; exact I.rel.fresh id (by omega)
/-- A new block of rows. -/
theorem Inv.alloc {F : Fr} {G : Gh} {ok : Okc} {w w' : World} {h : Hp} (I : Inv F G ok w h) {cs : Array Value} {t : TypeId} {fz : Nat × Nat} (hh : w'.heap = w.heap.push (.cells cs t fz)) (ho : w'.os = w.os) (ht : w'.tape = w.tape) (hu : w'.output = w.output)
    (hfz : fz.1 = fz.2 ∨ cs.size ≤ fz.1) (ty : Option TypeId) (hty : ∀ u, ty = some u → u = t) (k : Nat) (l : List (List AV)) (hk : ∀ row ∈ l, row.length = k) (hs : l.length * k ≤ cs.size)
    (hc : ∀ i row, l[i]? = some row → ∀ j a, row[j]? = some a → ∃ v, cs[i * k + j]? = some v ∧ Rep ok w G v a ∧ v.oneCell' = true) :
    Adv G ok w (ext G h.n ⟨w.heap.size, 0, k, cs.size⟩) ok w' ∧ Inv F (ext G h.n ⟨w.heap.size, 0, k, cs.size⟩) ok w' ⟨(h.n, entT ty k l) :: h.c, h.n + 1⟩ := by
  have A := adv_new I hh ⟨w.heap.size, 0, k, cs.size⟩
  have hpu : w'.heap[w.heap.size]? = some (.cells cs t fz) := by rw [hh, Array.getElem?_push]; simp
  have lift : HoldsR ok w' (ext G h.n ⟨w.heap.size, 0, k, cs.size⟩) ⟨w.heap.size, 0, k, cs.size⟩ k l → Holds ok w' (ext G h.n ⟨w.heap.size, 0, k, cs.size⟩) ⟨w.heap.size, 0, k, cs.size⟩ (entT ty k l) := fun q => by
    cases ty with
    | none => exact q
    | some u => refine ⟨q, rfl, cs.size, ?_⟩; unfold World.shape?; rw [hpu, hty u rfl]
  refine ⟨A, I.new hh ho ht hu ⟨w.heap.size, 0, k, cs.size⟩ _ rfl (lift ⟨rfl, cs, t, fz, hpu, rfl, by simpa using hs, ?_, hk, fun i row hi j a hj => ?_⟩)⟩
  · intro o _ hz
    simp only [Bool.and_eq_true, decide_eq_true_eq] at hz
    show cs.size ≤ o
    omega
  · obtain ⟨v, hv, r, o⟩ := hc i row hi j a hj
    exact ⟨v, by simpa using hv, r.adv A, o⟩
theorem heap_setRow (w : World) (g b : Nat) (cs : Array Value) (h : b ≠ g) : (w.setRow g cs).heap[b]? = w.heap[b]? := setRow_other w g b cs h
theorem cell_setRow {w : World} {g : Nat} {cs cs' : Array Value} {t : TypeId} {fz : Nat × Nat} (hg : w.heap[g]? = some (.cells cs t fz)) (b i : Nat) (h : b ≠ g ∨ cs'[i]? = cs[i]?) : (w.setRow g cs').cell? ⟨b, i, none⟩ = w.cell? ⟨b, i, none⟩ := by
  by_cases hb : b = g
  · subst hb
    rcases h with h | h
    · exact absurd rfl h
    · rw [cell_of_row w b i cs t fz hg, cell_of_row _ b i cs' t fz (setRow_heap w b cs cs' t fz hg)]; exact h
  · unfold World.cell?; rw [heap_setRow w g b cs' hb]
theorem shape_setRow {w : World} {g : Nat} {cs cs' : Array Value} {t : TypeId} {fz : Nat × Nat} (hg : w.heap[g]? = some (.cells cs t fz)) (hs : cs'.size = cs.size) {b : Nat} {s : TypeId × Nat} (h : w.shape? b = some s) : (w.setRow g cs').shape? b = some s := by
  unfold World.shape? at h ⊢
  by_cases hb : b = g
  · subst hb
    rw [hg] at h
    rw [setRow_heap w b cs cs' t fz hg]
    cases h
    simp only [hs]
  · rw [heap_setRow w g b cs' hb]; exact h
/-- A store into a block of the call's own. -/
theorem Inv.store {F : Fr} {G : Gh} {ok : Okc} {w : World} {h : Hp} (I : Inv F G ok w h) {id k : Nat} {l l' : List (List AV)} {p : Pl} {cs cs' : Array Value} {t : TypeId} {fz : Nat × Nat}
    (hl : look h.c id = some (.rows k l)) (hp : G id = some p) (hg : w.heap[p.b]? = some (.cells cs t fz)) (hs : cs'.size = cs.size) (hb : ∀ i, i < p.base → cs'[i]? = cs[i]?)
    (hlen : l'.length = l.length) (hk : ∀ row ∈ l', row.length = k) (hc : ∀ i row, l'[i]? = some row → ∀ j a, row[j]? = some a → ∃ v, cs'[p.base + i * p.k + j]? = some v ∧ Rep ok w G v a ∧ v.oneCell' = true) :
    Adv G ok w G ok (w.setRow p.b cs') ∧ Inv F G ok (w.setRow p.b cs') ⟨upd h.c id (.rows k l'), h.n⟩ := by
  obtain ⟨e00, hm, hpl⟩ := look_mem hl
  obtain ⟨p0, hp0, ⟨hpk, cs0, t0, fz0, e1, e2, e3, e4, e5, e6⟩, hno⟩ := I.rel.look' hl
  rw [hp] at hp0; cases hp0
  rw [hg] at e1; cases e1
  have hok : ∀ b i, ok b i → b ≠ p.b ∨ cs'[i]? = cs[i]? := fun b i hok => by
    by_cases hb' : b = p.b
    · subst hb'
      by_cases hi : p.base ≤ i
      · exact absurd hok (hno i hi)
      · exact .inr (hb i (by omega))
    · exact .inl hb'
  have A : Adv G ok w G ok (w.setRow p.b cs') := ⟨fun _ _ e => e, fun b i e => ⟨e, cell_setRow hg b i (hok b i e)⟩, fun b s e => shape_setRow hg hs e⟩
  have hsz : (w.setRow p.b cs').heap.size = w.heap.size := setRow_size ..
  refine ⟨A, I.os, I.tape, I.output, by rw [hsz]; exact I.size, fun b hb1 hd => ?_, I.okeep, I.adv.trans A, fun b i e => by rw [hsz]; exact I.lt b i e, ?_, ?_, ?_, ?_, I.rel.fresh⟩
  · rw [heap_setRow _ _ _ _ (fun q => ?_)]
    · exact I.keep b hb1 hd
    · subst q
      rcases I.own id _ p hm hp with q | q
      · exact hd q
      · omega
  · intro id' e' q hm' hq
    rcases mem_upd I.rel.nodup hm' with ⟨rfl, e9, rfl, _⟩ | ⟨hne, hm'⟩
    · rw [hp] at hq; cases hq; exact I.own _ _ p hm hp
    · exact I.own _ _ q hm' hq
  · intro id' e' hm'
    rcases mem_upd I.rel.nodup hm' with ⟨rfl, e9, rfl, hm9⟩ | ⟨hne, hm'⟩
    · have lift : HoldsR ok (w.setRow p.b cs') G p k l' → Holds ok (w.setRow p.b cs') G p (e9.keep (.rows k l')) := fun q => by
        cases e9 with
        | tr t9 k9 l9 =>
          obtain ⟨p9, hp9, h9, _⟩ := I.rel.look _ _ hm9
          rw [hp] at hp9; cases hp9
          exact ⟨q, h9.2.1, h9.2.2.imp fun n q => A.sh _ _ q⟩
        | _ => exact q
      refine ⟨p, hp, lift ⟨hpk, cs', t, fz, setRow_heap w p.b cs cs' t fz hg, by omega, by rw [hlen]; exact e3, e4, by rw [hpk]; exact hk, fun i row hi j a hj => ?_⟩, hno⟩
      obtain ⟨v, hv, r, o⟩ := hc i row hi j a hj
      exact ⟨v, hv, r.adv A, o⟩
    · obtain ⟨q, hq, h1, h2⟩ := I.rel.look id' e' hm'
      exact ⟨q, hq, h1.adv A (heap_setRow _ _ _ _ (I.rel.inj id' id _ _ q p hm' hm hne hq hp)), h2⟩
  · intro i1 i2 a1 a2 q1 q2 m1 m2 hn g1 g2
    have f : ∀ i a, (i, a) ∈ upd h.c id (.rows k l') → ∃ a', (i, a') ∈ h.c := fun i a m => by
      rcases mem_upd I.rel.nodup m with ⟨rfl, _, rfl, _⟩ | ⟨_, m⟩
      · exact ⟨_, hm⟩
      · exact ⟨_, m⟩
    obtain ⟨b1, n1⟩ := f i1 a1 m1
    obtain ⟨b2, n2⟩ := f i2 a2 m2
    exact I.rel.inj i1 i2 b1 b2 q1 q2 n1 n2 hn g1 g2
  · rw [keys_upd]; exact I.rel.nodup
/-- Less is known of the call's own blocks. -/
theorem Inv.less {F : Fr} {G : Gh} {ok : Okc} {w : World} {h : Hp} (I : Inv F G ok w h) (c : List (Nat × Ent)) (hc : ∀ x ∈ c, x ∈ h.c) (hn : (c.map (·.1)).Nodup) (n : Nat) (hle : h.n ≤ n) : Inv F G ok w ⟨c, n⟩ :=
  ⟨I.os, I.tape, I.output, I.size, I.keep, I.okeep, I.adv, I.lt, fun id e p hm => I.own id e p (hc _ hm), fun id e hm => I.rel.look id e (hc _ hm), fun i1 i2 a1 a2 q1 q2 m1 m2 => I.rel.inj i1 i2 a1 a2 q1 q2 (hc _ m1) (hc _ m2), hn, fun id hid => I.rel.fresh id (Nat.le_trans hle hid)⟩
theorem Inv.without {F : Fr} {G : Gh} {ok : Okc} {w : World} {h : Hp} (I : Inv F G ok w h) (id : Nat) : Inv F G ok w ⟨rmv h.c id, h.n⟩ :=
  I.less _ (fun x hx => (mem_rmv I.rel.nodup hx).2) ((sub_rmv id h.c).nodup I.rel.nodup) _ (Nat.le_refl _)
/-- A draw. -/
theorem Inv.drawn {F : Fr} {G : Gh} {ok : Okc} {w w' : World} {h : Hp} (I : Inv F G ok w h) (hh : w'.heap = w.heap) (ho : w'.os = w.os) (ht : w'.tape = w.tape) (hu : w'.output = w.output) : Adv G ok w G ok w' ∧ Inv F G ok w' h := by
  have hc : ∀ a, w'.cell? a = w.cell? a := fun a => by unfold World.cell?; rw [hh]
  have A : Adv G ok w G ok w' := ⟨fun _ _ e => e, fun b i e => ⟨e, hc _⟩, fun b s e => by unfold World.shape? at *; rw [hh]; exact e⟩
  exact ⟨A, ho.trans I.os, ht.trans I.tape, hu.trans I.output, by rw [hh]; exact I.size, fun b h1 h2 => by rw [hh]; exact I.keep b h1 h2, I.okeep, I.adv.trans A, fun b i e => by rw [hh]; exact I.lt b i e, I.own,
    fun id e hm => let ⟨q, hq, h1, h2⟩ := I.rel.look id e hm; ⟨q, hq, h1.adv A (by rw [hh]), h2⟩, I.rel.inj, I.rel.nodup, I.rel.fresh⟩
end Go.Proofs.YthahgmncnbeddaaGreatDoorA
/- The operations over plain values tell what the model's operations do. -/
set_option linter.unusedVariables false
set_option linter.unusedSimpArgs false
namespace Go.Proofs.YthahgmncnbeddaaGreatDoorA
open Go Go.RowKit
structure RelT (G : Gh) (ok : Okc) (w : World) (S : St) (a : Act) : Prop where
  size : a.tmps.size = S.N
  r : ∀ j, Rep ok w G (a.tmps.getD j undef) (get S.t j)
def Globs (gl : Nat → Option (List AV)) (ok : Okc) (w : World) : Prop := ∀ g row, gl g = some row → Rep ok w G0 (.pointer (some ⟨g, 0, none⟩)) (.ip row 0) ∧ ∃ t, w.shape? g = some (t, row.length)
theorem Globs.adv {gl : Nat → Option (List AV)} {G G' : Gh} {ok ok' : Okc} {w w' : World} (h : Globs gl ok w) (A : Adv G ok w G' ok' w') : Globs gl ok' w' := fun g row e => ⟨(h g row e).1.mono A.c _ (fun _ _ e => e), let ⟨t, q⟩ := (h g row e).2; ⟨t, A.sh _ _ q⟩⟩
theorem RelT.adv {G G' : Gh} {ok ok' : Okc} {w w' : World} {S : St} {a : Act} (h : RelT G ok w S a) (A : Adv G ok w G' ok' w') (hp : Hp) : RelT G' ok' w' { S with h := hp } a := ⟨h.size, fun j => (h.r j).adv A⟩
theorem RelT.put {G : Gh} {ok : Okc} {w : World} {S : St} {a : Act} (h : RelT G ok w S a) (d : Option Nat) {x : Value} {v : AV} (r : Rep ok w G x v) : RelT G ok w (S.put d v) (a.put d x) := by
  cases d with
  | none => exact h
  | some d =>
    unfold St.put Act.put
    by_cases hd : d < S.N
    · simp only [hd, if_true]
      refine ⟨by simp [h.size], fun j => ?_⟩
      simp only [get]
      by_cases hj : d = j
      · subst hj
        have hd' : d < a.tmps.size := by rw [h.size]; exact hd
        rw [if_pos rfl, Array.getD_eq_getD_getElem?, Array.getElem?_setIfInBounds_self_of_lt hd']; exact r
      · rw [if_neg hj, Array.getD_eq_getD_getElem?, Array.getElem?_setIfInBounds_ne hj, ← Array.getD_eq_getD_getElem?]; exact h.r j
    · simp only [hd, if_false]
      refine ⟨by simp [h.size], fun j => ?_⟩
      have e : a.tmps.setIfInBounds d x = a.tmps := Array.setIfInBounds_eq_of_size_le (by rw [h.size]; omega)
      rw [e]; exact h.r j
theorem ofV1_rep (ok : Okc) (w : World) (G : Gh) (v : Value) : Rep ok w G v (ofV1 v) := by
  unfold ofV1
  split <;> constructor
theorem ofV_rep (ok : Okc) (w : World) (G : Gh) (v : Value) : Rep ok w G v (ofV v) := by
  unfold ofV
  split
  · rename_i cs
    refine .agg _ cs _ (by simp) (fun j v a h1 h2 => ?_)
    rw [List.getElem?_map, Array.getElem?_toList, h1] at h2
    cases h2
    exact ofV1_rep ..
  · exact ofV1_rep ..
theorem ev_rep {E : Env} {G : Gh} {ok : Okc} {w : World} {S : St} {a : Act} (h : RelT G ok w S a) (hg : Globs E.gl ok w) (x : Operand) : Rep ok w G (a.eval x) (ev E S x) := by
  cases x with
  | tmp t => exact h.r t
  | const v => exact ofV_rep ..
  | global g =>
    simp only [Act.eval, ev]
    split
    · rename_i row e; exact (hg g row e).1.of0
    · exact .un ..
  | func f => exact .fn _ f #[] #[] [] [] rfl rfl (fun j v a h => by simp at h) (fun j v a h => by simp at h)
/-- What an operation does. -/
def Does (E : Env) (F : Fr) (G : Gh) (ok : Okc) (w : World) (o : Oper) (a : Act) (v : AV) (h' : Hp) : Prop :=
  ∃ n x w' G' ok', (execOp a.eval o).run E.P w = .ok n w' ∧ (n = .value x ∨ n = .skip ∧ x = undef) ∧ Adv G ok w G' ok' w' ∧ Inv F G' ok' w' h' ∧ Rep ok' w' G' x v
theorem Does.pure {E : Env} {F : Fr} {G : Gh} {ok : Okc} {w : World} {o : Oper} {a : Act} {v : AV} {h : Hp} {x : Value} (I : Inv F G ok w h) (e : (execOp a.eval o).run E.P w = .ok (.value x) w) (r : Rep ok w G x v) : Does E F G ok w o a v h :=
  ⟨_, x, w, G, ok, e, .inl rfl, .refl .., I, r⟩
theorem size_run {P : Program} {t n : Nat} (h : szT P t = some n) (w : World) : (sizeOf t).run P w = .ok n w := by
  unfold szT at h
  cases hi : P.info? t with
  | none => rw [hi] at h; cases h
  | some i => rw [hi] at h; cases h; simp [sizeOf, typeInfo, hi]
theorem agg_run {P : Program} {t : Nat} {b : Bool} (h : aggT P t = some b) (w : World) : (isAgg t).run P w = .ok b w := by
  unfold aggT at h
  unfold isAgg
  split at h <;> first
    | (rename_i e; cases h; simp [run_underlying e])
    | (cases h; done)
    | skip
  all_goals
    rename_i d n1 n2 e
    cases h
    rw [Sem.run_bind, run_underlying e]
    cases d <;> first | rfl | exact absurd rfl (n1 _) | exact absurd rfl (n2 _ _)
theorem add_off (b o j : Nat) : (⟨b, o, none⟩ : Addr).add j = ⟨b, o + j, none⟩ := by unfold Addr.add; split <;> simp_all
theorem agg_ofFn {ok : Okc} {w : World} {G : Gh} {n : Nat} {f : Nat → Value} {as : List AV} (hl : as.length = n) (h : ∀ j a, as[j]? = some a → Rep ok w G (f j) a) : Rep ok w G (.agg ((List.range n).map f).toArray) (.agg as) := by
  refine .agg _ _ _ (by simp [hl]) (fun j v a h1 h2 => ?_)
  have hj : j < n := by
    rcases Nat.lt_or_ge j n with q | q
    · exact q
    · rw [List.getElem?_eq_none (by omega)] at h2; cases h2
  simp [hj] at h1
  subst h1
  exact h j a h2
/-- A part of a row that can be read. -/
theorem loadVar_ok {P : Program} {ok : Okc} {w : World} {G : Gh} {t n b o c : Nat} {ag : Bool} {row : List AV} {vs : Nat → Value} {v : AV} (ha : aggT P t = some ag) (hs : szT P t = some n)
    (h1 : ∀ j, j < row.length → w.cell? ⟨b, o + j, none⟩ = some (vs j)) (h2 : ∀ j a, row[j]? = some a → Rep ok w G (vs j) a) (hp : part ag n row c = some v) :
    ∃ x, (loadVar t ⟨b, o + c, none⟩).run P w = .ok x w ∧ Rep ok w G x v := by
  unfold part at hp
  cases ag with
  | true =>
    simp only [if_true] at hp
    split at hp
    · rename_i hle
      cases hp
      refine ⟨.agg ((List.range n).map fun j => vs (c + j)).toArray, by simp [loadVar, agg_run ha, size_run hs, run_loadCells (P := P) w ⟨b, o + c, none⟩ n (fun j => vs (c + j)) (fun j hj => by rw [add_off, Nat.add_assoc]; exact h1 _ (by omega))], agg_ofFn ?_ (fun j a hj => ?_)⟩
      · simp; omega
      · rw [List.getElem?_take] at hj
        split at hj
        · rw [List.getElem?_drop] at hj; exact h2 _ _ hj
        · cases hj
    · cases hp
  | false =>
    simp only [Bool.false_eq_true, if_false] at hp
    have hlt : c < row.length := by
      rcases Nat.lt_or_ge c row.length with q | q
      · exact q
      · rw [List.getElem?_eq_none q] at hp; cases hp
    exact ⟨vs c, by simp [loadVar, agg_run ha, h1 c hlt], h2 c v hp⟩
theorem load_ok {P : Program} {F : Fr} {G : Gh} {ok : Okc} {w : World} {h : Hp} (I : Inv F G ok w h) {t : TypeId} {x : Value} {p v : AV} (r : Rep ok w G x p) (e : loadA P t h p = some v) :
    ∃ y, (Instr.loadAt t x).run P w = .ok y w ∧ Rep ok w G y v := by
  unfold loadA at e
  split at e
  · rename_i ag n ha hs
    split at e
    · rename_i id rr c
      cases r with
      | ptr _ _ _ _ q hq =>
      split at e
      · rename_i k l hl
        obtain ⟨q', hq', ⟨hk, cs, tt, fz, e1, e2, e3, e4, e5, e6⟩, hno⟩ := I.rel.look' hl
        rw [hq] at hq'; cases hq'
        split at e
        · rename_i row hrow
          have hc : ∀ j a, row[j]? = some a → ∃ u, cs[q.base + rr * q.k + j]? = some u ∧ Rep ok w G u a := fun j a hj => let ⟨u, hu, ru, _⟩ := e6 rr row hrow j a hj; ⟨u, hu, ru⟩
          obtain ⟨y, hy, ry⟩ := loadVar_ok (P := P) (ok := ok) (w := w) (G := G) (b := q.b) (o := q.base + rr * q.k) (vs := fun j => (cs[q.base + rr * q.k + j]?).getD undef) ha hs
            (fun j hj => by
              obtain ⟨u, hu, _⟩ := hc j row[j] (by simp [hj])
              rw [cell_of_row w q.b _ cs tt fz e1, hu]; rfl)
            (fun j a hj => by
              obtain ⟨u, hu, ru⟩ := hc j a hj
              rw [hu]; exact ru) e
          exact ⟨y, by simpa [Instr.loadAt, Instr.sureAddr] using hy, ry⟩
        · cases e
      · cases e
    · rename_i row c
      cases r with
      | ip _ _ _ bb o vs h1 h2 =>
      obtain ⟨y, hy, ry⟩ := loadVar_ok (P := P) (ok := ok) (w := w) (G := G) (b := bb) (o := o) (vs := vs) ha hs (fun j hj => (h1 j hj).1) (fun j a hj => (h2 j a hj).of0) e
      exact ⟨y, by simpa [Instr.loadAt, Instr.sureAddr] using hy, ry⟩
    · cases e
  · cases e
theorem one_rep {ok : Okc} {w : World} {G : Gh} {v : Value} {a : AV} (r : Rep ok w G v a) (h : one a = true) : v.oneCell' = true := by
  cases r <;> first | rfl | (cases h; done)
theorem cells_one {ok : Okc} {w : World} {G : Gh} {v : Value} {a : AV} (r : Rep ok w G v a) (h : one a = true) : v.cells = #[v] := by
  cases r <;> first | rfl | (cases h; done)
theorem cellsA_rep {ok : Okc} {w : World} {G : Gh} {v : Value} {a : AV} {cs : List AV} (r : Rep ok w G v a) (h : cellsA a = some cs) :
    v.cells.size = cs.length ∧ (∀ (j : Nat) (u : Value) b, v.cells[j]? = some u → cs[j]? = some b → Rep ok w G u b) ∧ ∀ u ∈ v.cells.toList, u.oneCell' = true := by
  have key : one a = true → cs = [a] → v.cells.size = cs.length ∧ (∀ (j : Nat) (u : Value) b, v.cells[j]? = some u → cs[j]? = some b → Rep ok w G u b) ∧ ∀ u ∈ v.cells.toList, u.oneCell' = true := by
    rintro h1 rfl
    rw [cells_one r h1]
    refine ⟨rfl, fun j u b hj hb => ?_, fun u hu => by simp at hu; subst hu; exact one_rep r h1⟩
    cases j with
    | zero => simp at hj hb; subst hj; subst hb; exact r
    | succ j => simp at hj
  cases r with
  | agg _ vs as hl hr =>
    simp only [cellsA] at h
    split at h
    · rename_i ha
      cases h
      refine ⟨hl, hr, fun u hu => ?_⟩
      obtain ⟨j, hj, rfl⟩ := List.mem_iff_getElem.1 hu
      have hj' : j < vs.size := by simpa [Value.cells] using hj
      have hja : j < cs.length := by omega
      exact one_rep (hr j _ cs[j] (by simp [Value.cells, hj']) (by simp [hja])) (List.all_eq_true.1 ha _ (List.getElem_mem hja))
    · cases h
  | tup => cases h
  | un => cases h
  | _ => exact key rfl (by cases h; rfl)
end Go.Proofs.YthahgmncnbeddaaGreatDoorA
/- The operations over plain values tell what the model's operations do (further). -/
set_option linter.unusedVariables false
set_option linter.unusedSimpArgs false
namespace Go.Proofs.YthahgmncnbeddaaGreatDoorA
open Go Go.RowKit
theorem storeCells_run (P : Program) (g o : Nat) (t : TypeId) (fz : Nat × Nat) : ∀ (vs : List Value) (i : Nat) (cur : Array Value) (w : World), w.heap[g]? = some (.cells cur t fz) →
    (∀ j, o + i ≤ j → j < o + i + vs.length → (decide (fz.1 ≤ j) && decide (j < fz.2)) = false) → o + i + vs.length ≤ cur.size → (∀ v ∈ vs, v.oneCell' = true) →
    (storeCells ⟨g, o, none⟩ vs i).run P w = .ok () (w.setRow g (cur.toList.take (o + i) ++ vs ++ cur.toList.drop (o + i + vs.length)).toArray) := by
  intro vs
  induction vs with
  | nil =>
    intro i cur w hg _ _ _
    simp only [storeCells, List.append_nil, List.length_nil, Nat.add_zero, List.take_append_drop, Array.toArray_toList]
    rw [setRow_self w g cur t fz hg]
    rfl
  | cons v rest ih =>
    intro i cur w hg hf hl h1
    have hi : o + i < cur.size := by simp at hl; omega
    have hst : (store ((⟨g, o, none⟩ : Addr).add i) v).run P w = .ok () (w.setRow g (cur.setIfInBounds (o + i) v)) := by
      rw [add_off, run_store P w _ v _ (h1 v (by simp)), cell_of_row w g (o + i) cur t fz hg, Array.getElem?_eq_getElem hi]
      have : w.frozen? ⟨g, o + i, none⟩ = false := by
        obtain ⟨lo, hi'⟩ := fz
        simp only [World.frozen?, hg]
        exact hf (o + i) (Nat.le_refl _) (by simp)
      simp [this, setCell_eq_setRow w g (o + i) cur t fz v hg]
    simp only [storeCells, Sem.run_bind, hst, Result.andThen_ok]
    rw [ih (i + 1) _ _ (setRow_heap w g cur _ t _ hg) (fun j h2 h3 => hf j (by omega) (by simp at h3 ⊢; omega)) (by simp at hl ⊢; omega) (fun x hx => h1 x (by simp [hx])), setRow_setRow]
    congr 3
    have e := list_seg_step cur.toList (o + i) v rest (by simp at hl ⊢; omega)
    simpa [Array.toList_setIfInBounds, Nat.add_assoc] using e
theorem splice_get {cs vs : List Value} {o j : Nat} (hle : o + vs.length ≤ cs.length) : (cs.take o ++ vs ++ cs.drop (o + vs.length))[j]? = if j < o then cs[j]? else if j < o + vs.length then vs[j - o]? else cs[j]? := by
  have hm : (cs.take o).length = o := by simp; omega
  by_cases h1 : j < o
  · rw [if_pos h1, List.append_assoc, List.getElem?_append_left (by omega), List.getElem?_take, if_pos h1]
  · rw [if_neg h1]
    by_cases h2 : j < o + vs.length
    · rw [if_pos h2, List.append_assoc, List.getElem?_append_right (by omega), List.getElem?_append_left (by omega), hm]
    · rw [if_neg h2, List.getElem?_append_right (by simp; omega), List.getElem?_drop]
      congr 1
      simp
      omega
theorem splice_length {α : Type} {cs vs : List α} {o : Nat} (hle : o + vs.length ≤ cs.length) : (cs.take o ++ vs ++ cs.drop (o + vs.length)).length = cs.length := by simp; omega
theorem splice_getA {cs vs : List AV} {o j : Nat} (hle : o + vs.length ≤ cs.length) : (cs.take o ++ vs ++ cs.drop (o + vs.length))[j]? = if j < o then cs[j]? else if j < o + vs.length then vs[j - o]? else cs[j]? := by
  have hm : (cs.take o).length = o := by simp; omega
  by_cases h1 : j < o
  · rw [if_pos h1, List.append_assoc, List.getElem?_append_left (by omega), List.getElem?_take, if_pos h1]
  · rw [if_neg h1]
    by_cases h2 : j < o + vs.length
    · rw [if_pos h2, List.append_assoc, List.getElem?_append_right (by omega), List.getElem?_append_left (by omega), hm]
    · rw [if_neg h2, List.getElem?_append_right (by simp; omega), List.getElem?_drop]
      congr 1
      simp
      omega
theorem rows_apart {i r k j : Nat} (h : i ≠ r) (hj : j < k) : i * k + j < r * k ∨ r * k + k ≤ i * k + j := by
  rcases Nat.lt_or_ge i r with q | q
  · have := Nat.mul_le_mul_right k (show i + 1 ≤ r by omega)
    rw [Nat.add_mul] at this; omega
  · have := Nat.mul_le_mul_right k (show r + 1 ≤ i by omega)
    rw [Nat.add_mul] at this; omega
theorem row_in {i n k j : Nat} (h : i < n) (hj : j < k) : i * k + j < n * k := by
  have := Nat.mul_le_mul_right k (show i + 1 ≤ n by omega)
  rw [Nat.add_mul] at this; omega
theorem lt_of_get {α : Type} {l : List α} {i : Nat} {a : α} (h : l[i]? = some a) : i < l.length := (List.getElem?_eq_some_iff.1 h).1
theorem store_does {E : Env} {F : Fr} {G : Gh} {ok : Okc} {w : World} {h h' : Hp} (I : Inv F G ok w h) {t : TypeId} {x y : Value} {p z v : AV} (rx : Rep ok w G x p) (ry : Rep ok w G y z) (e : storeA E.P t h p z = .val v h') :
    v = .tup [] ∧ ∃ w', (Instr.storeAt t x y).run E.P w = .ok () w' ∧ Adv G ok w G ok w' ∧ Inv F G ok w' h' := by
  unfold storeA at e
  split at e
  · rename_i id r c cs' n hcs hsz
    split at e
    · rename_i hn
      split at e
      · rename_i k l hl
        split at e
        · rename_i row hrow
          unfold putRow at e
          split at e
          · rename_i row' hput
            split at hput
            rotate_left
            · cases hput
            rename_i hle
            cases hput
            cases e
            refine ⟨rfl, ?_⟩
            cases rx with
            | ptr _ _ _ _ q hq =>
            obtain ⟨q', hq', ⟨hk, cs, tt, fz, e1, e2, e3, e4, e5, e6⟩, hno⟩ := I.rel.look' hl
            rw [hq] at hq'; cases hq'
            obtain ⟨c1, c2, c3⟩ := cellsA_rep ry hcs
            have hr := lt_of_get hrow
            have hrk : row.length = q.k := e5 row (List.mem_of_getElem? hrow)
            have hin := Nat.mul_le_mul_right q.k (show r + 1 ≤ l.length by omega)
            rw [Nat.add_mul] at hin
            have hlen : y.cells.toList.length = cs'.length := by simpa using c1
            have hcl : cs.toList.length = q.sz := by simpa using e2
            have hfit : q.base + r * q.k + c + y.cells.toList.length ≤ cs.toList.length := by omega
            refine ⟨_, by
              simp only [Instr.storeAt, Instr.sureAddr, Sem.run_bind, Sem.run_pure, Result.andThen_ok, storeVar, size_run hsz]
              rw [if_neg (by rw [c1, hn]; simp)]
              exact storeCells_run E.P q.b (q.base + r * q.k + c) tt fz y.cells.toList 0 cs w e1 (fun j h1 h2 => by
                rw [Bool.eq_false_iff]; intro hf
                have := e4 j (by omega) hf
                omega) (by simp at hfit ⊢; omega) c3, ?_⟩
            rw [Nat.add_zero]
            refine I.store hl hq e1 (by simp; omega) (fun i hi => ?_) (by simp) (fun row2 hm => ?_) (fun i row2 hi j a hj => ?_)
            · rw [List.getElem?_toArray, splice_get hfit, if_pos (by omega)]; simp
            · rcases List.mem_or_eq_of_mem_set hm with h2 | rfl
              · rw [← hk]; exact e5 _ h2
              · rw [splice_length hle, ← hk]; exact hrk
            · rw [List.getElem?_toArray, splice_get hfit, Nat.add_assoc, Nat.add_assoc]
              by_cases hir : i = r
              · subst hir
                rw [List.getElem?_set_self hr] at hi
                cases hi
                rw [splice_getA hle] at hj
                by_cases h1 : j < c
                · rw [if_pos h1] at hj
                  rw [if_pos (by omega)]
                  simpa [Nat.add_assoc] using e6 i row hrow j a hj
                · rw [if_neg h1] at hj
                  rw [if_neg (by omega)]
                  by_cases h2 : j < c + cs'.length
                  · rw [if_pos h2] at hj
                    rw [if_pos (by omega)]
                    have hlt : j - c < y.cells.size := by omega
                    refine ⟨y.cells[j - c], ?_, c2 (j - c) _ a (by simp [hlt]) hj, c3 _ (by simp)⟩
                    rw [show q.base + (i * q.k + j) - (q.base + (i * q.k + c)) = j - c by omega]
                    simp [hlt]
                  · rw [if_neg h2] at hj
                    rw [if_neg (by omega)]
                    simpa [Nat.add_assoc] using e6 i row hrow j a hj
              · rw [List.getElem?_set_ne (Ne.symm hir)] at hi
                have hj' := lt_of_get hj
                have hk2 : row2.length = q.k := e5 _ (List.mem_of_getElem? hi)
                have hap := rows_apart (k := q.k) hir (by omega : j < q.k)
                obtain ⟨u, hu, ru, ro⟩ := e6 i row2 hi j a hj
                refine ⟨u, ?_, ru, ro⟩
                have hu' : cs.toList[q.base + (i * q.k + j)]? = some u := by simpa [Nat.add_assoc] using hu
                rcases hap with hap | hap
                · rw [if_pos (by omega)]; exact hu'
                · rw [if_neg (by omega), if_neg (by omega)]; exact hu'
          · cases e
        · cases e
      · cases e
    · cases e
  · cases e
end Go.Proofs.YthahgmncnbeddaaGreatDoorA
/- The operations over plain values tell what the model's operations do (further). -/
set_option linter.unusedVariables false
set_option linter.unusedSimpArgs false
namespace Go.Proofs.YthahgmncnbeddaaGreatDoorA
open Go Go.RowKit
theorem int_run {P : Program} {ok : Okc} {w : World} {G : Gh} {op : BinOp} {k : IntKind} {x y : Int} {v : AV} (e : intA op k x y = some v) (t : TypeId) :
    ∃ z, (binOp op t (.int k x) (.int k y)).run P w = .ok z w ∧ Rep ok w G z v := by
  cases op <;> simp only [intA] at e <;> first
    | (cases e; done)
    | (cases e; simp only [binOp, Op.intArith, Op.intCmp, Op.intBits, ne_eq, not_true_eq_false, if_false]; exact ⟨_, rfl, by constructor⟩)
    | (split at e
       · cases e
       · rename_i h0; cases e; simp only [binOp, Op.intDiv, ne_eq, not_true_eq_false, if_false, h0]; exact ⟨_, rfl, by constructor⟩)
theorem sh_run {P : Program} {ok : Okc} {w : World} {G : Gh} {op : BinOp} {k k' : IntKind} {x y : Int} {v : AV} (e : shA op k x y = some v) (t : TypeId) :
    ∃ z, (binOp op t (.int k x) (.int k' y)).run P w = .ok z w ∧ Rep ok w G z v := by
  unfold shA at e
  split at e
  · cases e
  · rename_i h0
    cases op <;> simp only [] at e <;> first
      | (cases e; done)
      | (cases e; simp only [binOp, Op.shift, h0, if_false]; exact ⟨_, rfl, by constructor⟩)
theorem toList_str (x : ByteArray) : x.toList = x.data.toList := ByteArray.toList_eq x
theorem size_str (x : ByteArray) : x.size = x.data.toList.length := by cases x; rfl
theorem str_run {P : Program} {ok : Okc} {w : World} {G : Gh} {op : BinOp} {x y : ByteArray} {v : AV} (e : strA op x.data.toList y.data.toList = some v) (t : TypeId) :
    ∃ z, (binOp op t (.string x) (.string y)).run P w = .ok z w ∧ Rep ok w G z v := by
  cases op <;> simp only [strA] at e <;> first
    | (cases e; done)
    | (cases e; simp only [binOp, Op.stringOp, toList_str]; exact ⟨_, rfl, .b ..⟩)
    | (split at e
       · rename_i h0
         cases e
         rw [← size_str, ← size_str] at h0
         refine ⟨.string (x ++ y), ?_, ?_⟩
         · simp only [binOp, Op.stringOp]
           rw [if_neg (by simp only [IntKind.max, IntKind.bits, IntKind.signed]; simp; omega)]
           rfl
         · have := Rep.s (ok := ok) (w := w) G (x ++ y)
           rwa [show (x ++ y).data.toList = x.data.toList ++ y.data.toList by simp] at this
       · cases e)
theorem eqB_rep {ok : Okc} {w : World} {G : Gh} {op : BinOp} {r : Bool} {v : AV} (e : eqB op r = some v) : (op = .eql ∧ v = .b r) ∨ (op = .neq ∧ v = .b (!r)) := by
  cases op <;> simp [eqB] at e <;> simp [e]
def plainV : Value → Bool
  | .nilIface => false
  | .agg _ => false
  | _ => true
theorem guard_run (P : Program) (w : World) (op : BinOp) (t : TypeId) (xo yo : Operand) (x y : Value) (h : plainV x = true) : (eqGuard op t xo yo x y).run P w = .ok () w := by
  unfold eqGuard
  cases x <;> first
    | (cases h; done)
    | (cases op <;> rfl)
theorem eq_run {P : Program} {ok : Okc} {w : World} {G : Gh} {op : BinOp} {t : TypeId} {x y : Value} {r : Bool} {v : AV} (e : eqB op r = some v) (hb : ∀ op', op' = .eql ∨ op' = .neq → binOp op' t x y = (if op' = .eql then (do pure (.bool (← Op.equal t x y))) else (do pure (.bool (!(← Op.equal t x y))))))
    (he : (Op.equal t x y).run P w = .ok r w) : ∃ z, (binOp op t x y).run P w = .ok z w ∧ Rep ok w G z v := by
  rcases eqB_rep (ok := ok) (w := w) (G := G) e with ⟨rfl, rfl⟩ | ⟨rfl, rfl⟩
  · exact ⟨.bool r, by rw [hb _ (.inl rfl), if_pos rfl, Sem.run_bind, he]; rfl, .b ..⟩
  · exact ⟨.bool (!r), by rw [hb _ (.inr rfl), if_neg (by simp), Sem.run_bind, he]; rfl, .b ..⟩
theorem equal_bool {P : Program} {w : World} {t : TypeId} {a b : Bool} (hu : P.underlying t = some .bool) : (Op.equal t (.bool a) (.bool b)).run P w = .ok (a == b) w := by
  have key : ∀ n, (Op.equalIn (n + 1) t (.bool a) (.bool b)).run P w = .ok (a == b) w := fun n => by
    unfold Op.equalIn
    rw [Sem.run_bind, run_underlying hu]; rfl
  exact key 9999
theorem equal_slice {P : Program} {w : World} {t e : TypeId} {A : Option Addr} {n c m d : Nat} (hu : P.underlying t = some (.slice e)) : (Op.equal t (.slice A n c) (.slice none m d)).run P w = .ok A.isNone w := by
  have key : ∀ k, (Op.equalIn (k + 1) t (.slice A n c) (.slice none m d)).run P w = .ok A.isNone w := fun k => by
    unfold Op.equalIn
    rw [Sem.run_bind, run_underlying hu]
    cases A <;> rfl
  exact key 9999
theorem infoU {P : Program} {t : TypeId} {d : TypeDesc} (h : P.underlying t = some d) : ∃ i, P.info? t = some i := by
  cases hi : P.info? t with
  | some i => exact ⟨i, rfl⟩
  | none => simp [Program.underlying, hi] at h
def isNi : Value → Bool
  | .nilIface => true
  | _ => false
theorem tag_agg {P : Program} {t g : Nat} (h : tagT P t = some g) : aggT P t = some false ∧ ∃ n, szT P t = some n := by
  unfold tagT at h
  unfold aggT
  split at h
  · rename_i hu; rw [hu]; obtain ⟨i, hi⟩ := infoU hu; exact ⟨rfl, i.size, by simp [szT, hi]⟩
  · rename_i hu; rw [hu]; obtain ⟨i, hi⟩ := infoU hu; exact ⟨rfl, i.size, by simp [szT, hi]⟩
  · rename_i hu; rw [hu]; obtain ⟨i, hi⟩ := infoU hu; exact ⟨rfl, i.size, by simp [szT, hi]⟩
  · cases h
theorem eqG_run {P : Program} {ok : Okc} {w : World} {G : Gh} {t g d : Nat} {x y : Value} {a b : AV} {r : Bool} (h : tagT P t = some g) (rx : Rep ok w G x a) (ry : Rep ok w G y b) (e : eqG g a b = some r) : (Op.equalIn (d + 1) t x y).run P w = .ok r w := by
  unfold tagT at h
  split at h
  · rename_i hu
    cases h
    unfold eqG at e
    split at e <;> first | (cases e; done) | skip
    all_goals rename_i hq
    all_goals first | (cases hq; done) | skip
    cases e; cases rx; cases ry
    exact run_equalIn_bool' w d t _ _ hu
  · rename_i k hu
    cases h
    unfold eqG at e
    split at e <;> first | (cases e; done) | skip
    all_goals rename_i hq
    all_goals first | (cases hq; done) | skip
    split at e
    · rename_i hk
      subst hk
      cases e; cases rx; cases ry
      exact run_equalIn_int w d t _ _ _ _ hu
    · cases e
  · rename_i hu
    cases h
    unfold eqG at e
    split at e <;> first | (cases e; done) | skip
    all_goals rename_i hq
    all_goals first | (cases hq; done) | skip
    cases e; cases rx; cases ry
    rw [run_equalIn_string w d t _ _ hu, ByteArray.toList_eq, ByteArray.toList_eq]
  · cases h
theorem eqC_run {P : Program} {ok : Okc} {w : World} {G : Gh} {d : Nat} {xs ys : Array Value} {as bs : List AV} (lx : xs.size = as.length) (hx : ∀ (j : Nat) v a, xs[j]? = some v → as[j]? = some a → Rep ok w G v a) (ly : ys.size = bs.length) (hy : ∀ (j : Nat) v a, ys[j]? = some v → bs[j]? = some a → Rep ok w G v a) :
    ∀ (fs : List Field) (l : List (Nat × Nat)) (r : Bool), (fs.mapM fun f => if f.name ≠ "_" then (tagT P f.type).map fun g => (f.offset, g) else none) = some l → eqC as bs l = some r → (Op.eqFields (d + 1) xs ys fs).run P w = .ok r w
  | [], l, r, hl, e => by
    simp at hl
    subst hl
    cases e
    rfl
  | f :: fs, l, r, hl, e => by
    rw [List.mapM_cons] at hl
    simp only [bind, Option.bind_eq_some_iff, pure, Option.some.injEq] at hl
    obtain ⟨⟨o, g⟩, h1, l', h2, rfl⟩ := hl
    split at h1
    · rename_i hn
      cases ht : tagT P f.type with
      | none => rw [ht] at h1; cases h1
      | some g' =>
        rw [ht] at h1
        cases h1
        simp only [eqC] at e
        split at e
        · rename_i x y hxo hyo
          obtain ⟨ha, n, hs⟩ := tag_agg ht
          have hlx : f.offset < xs.size := by have := (List.getElem?_eq_some_iff.1 hxo).1; omega
          have hly : f.offset < ys.size := by have := (List.getElem?_eq_some_iff.1 hyo).1; omega
          have px : (_root_.Go.part f.type xs f.offset).run P w = .ok xs[f.offset] w := by simp [_root_.Go.part, agg_run ha, hlx]
          have py : (_root_.Go.part f.type ys f.offset).run P w = .ok ys[f.offset] w := by simp [_root_.Go.part, agg_run ha, hly]
          have rx := hx f.offset xs[f.offset] x (by simp [hlx]) hxo
          have ry := hy f.offset ys[f.offset] y (by simp [hly]) hyo
          unfold Op.eqFields
          rw [if_pos hn]
          simp only [Sem.run_bind, px, py, Result.andThen_ok]
          split at e
          · rename_i hg
            rw [eqG_run ht rx ry hg]
            exact eqC_run lx hx ly hy fs l' r h2 e
          · rename_i hg
            cases e
            rw [eqG_run ht rx ry hg]
            rfl
          · cases e
        · cases e
    · cases h1
theorem eqA_run {P : Program} {ok : Okc} {w : World} {G : Gh} {op : BinOp} {t : TypeId} {xs ys : Array Value} {as bs : List AV} {v : AV} (lx : xs.size = as.length) (hx : ∀ (j : Nat) v a, xs[j]? = some v → as[j]? = some a → Rep ok w G v a) (ly : ys.size = bs.length) (hy : ∀ (j : Nat) v a, ys[j]? = some v → bs[j]? = some a → Rep ok w G v a)
    (e : eqA P op t as bs = some v) (xo yo : Operand) : ∃ z, (do eqGuard op t xo yo (.agg xs) (.agg ys); binOp op t (.agg xs) (.agg ys) : Sem Value).run P w = .ok z w ∧ Rep ok w G z v := by
  unfold eqA at e
  split at e
  · rename_i l hl
    split at e
    · rename_i r hr
      unfold eqL at hl
      split at hl
      · rename_i fs hu
        split at hl
        · rename_i hc
          have hf : P.fieldsOf t = fs := by simp [Program.fieldsOf, hu]
          have he : (Op.equal t (.agg xs) (.agg ys)).run P w = .ok r w := by
            show (Op.equalIn (9999 + 1) t (.agg xs) (.agg ys)).run P w = .ok r w
            rw [run_equalIn_struct w 9999 t xs ys (by rw [hf]; exact hu) hc.1, hf]
            exact eqC_run (d := 9998) lx hx ly hy fs.toList l r hl hr
          obtain ⟨z, hz, rz⟩ := eq_run (ok := ok) (G := G) e (fun op' h => by rcases h with rfl | rfl <;> rfl) he
          refine ⟨z, ?_, rz⟩
          have hg : (eqGuard op t xo yo (.agg xs) (.agg ys)).run P w = .ok () w := by
            unfold eqGuard
            rcases eqB_rep (ok := ok) (w := w) (G := G) e with ⟨rfl, _⟩ | ⟨rfl, _⟩
            all_goals simp [hc.2]
          rw [Sem.run_bind, hg]
          exact hz
        · cases hl
      · cases hl
    · cases e
  · cases e
theorem equal_ptr {P : Program} {w : World} {t : TypeId} {p : Option Addr} (hu : ptrT P t = true) : (Op.equal t (.pointer p) (.pointer none)).run P w = .ok p.isNone w := by
  have key : ∀ k, (Op.equalIn (k + 1) t (.pointer p) (.pointer none)).run P w = .ok p.isNone w := fun k => by
    unfold ptrT at hu
    split at hu
    · rename_i u hq
      unfold Op.equalIn
      rw [Sem.run_bind, run_underlying hq]
      cases p <;> rfl
    · cases hu
  exact key 9999
theorem nilP_run {P : Program} {ok : Okc} {w : World} {G : Gh} {op : BinOp} {t : TypeId} {p : Option Addr} {v : AV} (e : nilP P op t p.isNone = some v) : ∃ z, (binOp op t (.pointer p) (.pointer none)).run P w = .ok z w ∧ Rep ok w G z v := by
  unfold nilP at e
  split at e
  · rename_i hu
    exact eq_run e (fun op' h => by rcases h with rfl | rfl <;> rfl) (equal_ptr hu)
  · cases e
theorem niA_run {P : Program} {ok : Okc} {w : World} {G : Gh} {op : BinOp} {t : TypeId} {x : Value} {a v : AV} (rx : Rep ok w G x a) (e : niA P op t a = some v) (xo : Operand) :
    ∃ z, (do eqGuard op t xo (.const .nilIface) x .nilIface; binOp op t x .nilIface : Sem Value).run P w = .ok z w ∧ Rep ok w G z v := by
  have eqn : ∀ x : Value, (x = .nilIface ∨ ∃ u y, x = .iface u y) → ifcT P t = true → (Op.equal t x .nilIface).run P w = .ok (isNi x) w := fun x hx hu => by
    have key : ∀ k, (Op.equalIn (k + 1) t x .nilIface).run P w = .ok (isNi x) w := fun k => by
      unfold ifcT at hu
      split at hu
      · rename_i u hq
        unfold Op.equalIn
        rw [Sem.run_bind, run_underlying hq]
        rcases hx with rfl | ⟨u', y, rfl⟩ <;> rfl
      · cases hu
    exact key 9999
  have gd : ∀ x : Value, (x = .nilIface ∨ ∃ u y, x = .iface u y) → (eqGuard op t xo (.const .nilIface) x .nilIface).run P w = .ok () w := fun x hx => by
    unfold eqGuard
    rcases hx with rfl | ⟨u', y, rfl⟩ <;> cases op <;> simp
  unfold niA at e
  split at e
  · cases rx
    split at e
    · rename_i hu
      obtain ⟨z, hz, rz⟩ := eq_run (ok := ok) (G := G) (x := .nilIface) (y := .nilIface) e (fun op' h => by rcases h with rfl | rfl <;> rfl) (eqn _ (.inl rfl) hu)
      exact ⟨z, by rw [Sem.run_bind, gd _ (.inl rfl)]; exact hz, rz⟩
    · cases e
  · cases rx
    split at e
    · rename_i hu
      obtain ⟨z, hz, rz⟩ := eq_run (ok := ok) (G := G) (y := .nilIface) e (fun op' h => by rcases h with rfl | rfl <;> rfl) (eqn (.iface _ _) (.inr ⟨_, _, rfl⟩) hu)
      exact ⟨z, by rw [Sem.run_bind, gd _ (.inr ⟨_, _, rfl⟩)]; exact hz, rz⟩
    · cases e
  · cases e
theorem bin_run {P : Program} {ok : Okc} {w : World} {G : Gh} {op : BinOp} {t : TypeId} {x y : Value} {a b v : AV} (rx : Rep ok w G x a) (ry : Rep ok w G y b) (e : binA P op t a b = some v) (xo yo : Operand) :
    ∃ z, (do eqGuard op t xo yo x y; binOp op t x y : Sem Value).run P w = .ok z w ∧ Rep ok w G z v := by
  have fin : plainV x = true → (∃ z, (binOp op t x y).run P w = .ok z w ∧ Rep ok w G z v) → ∃ z, (do eqGuard op t xo yo x y; binOp op t x y : Sem Value).run P w = .ok z w ∧ Rep ok w G z v := by
    rintro h ⟨z, hz, r⟩
    exact ⟨z, by rw [Sem.run_bind, guard_run P w op t xo yo x y h]; exact hz, r⟩
  unfold binA at e
  split at e
  · rename_i k n k' m
    cases rx; cases ry
    refine fin rfl ?_
    split at e
    · exact sh_run e t
    · exact sh_run e t
    · split at e
      · rename_i h0; subst h0; exact int_run e t
      · cases e
  · cases rx; cases ry
    exact fin rfl (str_run e t)
  · cases rx; cases ry
    refine fin rfl ?_
    split at e
    · rename_i n m hu
      refine eq_run e (fun op' h => ?_) ?_
      · rcases h with rfl | rfl <;> rfl
      · exact equal_bool hu
    · cases e
  · cases rx with
    | agg _ vs as l1 h1 => cases ry with
      | agg _ us bs l2 h2 => exact eqA_run l1 h1 l2 h2 e xo yo
  · cases rx; cases ry
    exact fin rfl (nilP_run (p := none) e)
  · cases rx; cases ry
    exact fin rfl (nilP_run (p := some _) e)
  · cases rx; cases ry
    exact fin rfl (nilP_run (p := some _) e)
  · split at e
    · rename_i el r hu hn
      have key : (∃ A n c, x = .slice A n c ∧ A.isNone = r) ∧ y = .slice none 0 0 := by
        cases ry
        refine ⟨?_, rfl⟩
        unfold nilA at hn
        split at hn <;> first
          | (cases hn; done)
          | (cases hn; cases rx; exact ⟨_, _, _, rfl, rfl⟩)
      obtain ⟨⟨A, n, c, rfl, hA⟩, rfl⟩ := key
      refine fin rfl (eq_run e (fun op' h => ?_) ?_)
      · rcases h with rfl | rfl <;> rfl
      · rw [← hA]; exact equal_slice hu
    · cases e
  · cases e
theorem un_run {P : Program} {ok : Okc} {w : World} {G : Gh} {op : UnOp} {x : Value} {a v : AV} (rx : Rep ok w G x a) (e : unA op a = some v) : ∃ z, (Op.unary op x).run P w = .ok z w ∧ Rep ok w G z v := by
  unfold unA at e
  split at e
  · cases e; cases rx; exact ⟨_, rfl, .i ..⟩
  · cases e; cases rx; exact ⟨_, rfl, .b ..⟩
  · cases e; cases rx; exact ⟨_, rfl, .i ..⟩
  · cases e
end Go.Proofs.YthahgmncnbeddaaGreatDoorA
/- Indexes and slices. -/
set_option linter.unusedVariables false
set_option linter.unusedSimpArgs false
namespace Go.Proofs.YthahgmncnbeddaaGreatDoorA
open Go Go.RowKit
theorem elT_spec {P : Program} {t k e : Nat} (h : elT P t = some (k, e)) : P.underlying t = some (.slice e) ∧ szT P e = some k := by
  unfold elT at h
  split at h
  · rename_i e' hu
    cases hs : szT P e' with
    | none => rw [hs] at h; cases h
    | some k' => rw [hs] at h; cases h; exact ⟨hu, hs⟩
  · cases h
theorem arT_spec {P : Program} {t n k : Nat} (h : arT P t = some (n, k)) : ∃ e, P.underlying t = some (.array n e) ∧ szT P e = some k := by
  unfold arT at h
  split at h
  · rename_i n' e hu
    cases hs : szT P e with
    | none => rw [hs] at h; cases h
    | some k' => rw [hs] at h; cases h; exact ⟨e, hu, hs⟩
  · cases h
theorem idx_run {P : Program} {F : Fr} {G : Gh} {ok : Okc} {w : World} {h : Hp} (I : Inv F G ok w h) {t k e : Nat} {x : Value} {a v : AV} {ik : IntKind} {i : Int} (ht : elT P t = some (k, e)) (r : Rep ok w G x a) (hv : idxA h k a i = some v) :
    ∃ z, (Instr.indexAt t x (.int ik i)).run P w = .ok z w ∧ Rep ok w G z v := by
  obtain ⟨hu, hs⟩ := elT_spec ht
  have go : ∀ (A : Addr) (n c : Nat), 0 ≤ i → i < (n : Int) → (Instr.indexAt t (.slice (some A) n c) (.int ik i)).run P w = .ok (.pointer (some (A.add (i.toNat * k)))) w := fun A n c h0 h1 => by
    unfold Instr.indexAt
    simp only [asIntOf, pure_bind, Sem.run_bind, run_underlying hu, Result.andThen_ok, Sem.run_pure, if_pos (And.intro h0 h1), size_run hs]
  unfold idxA at hv
  split at hv
  · rename_i nn k' rows
    split at hv
    · rename_i hk
      obtain ⟨rfl, h0⟩ := hk
      split at hv
      · rename_i row hrow
        cases hv
        have hlt := lt_of_get hrow
        cases r with
        | isln => cases hrow
        | isle => cases hrow
        | isl _ _ _ _ n bb o cap vs hn hc hk h1 h2 =>
        refine ⟨_, go _ _ _ h0 (by omega), ?_⟩
        rw [add_off]
        exact .ip G row 0 bb (o + i.toNat * k') (fun j => vs i.toNat j) (h1 _ row hrow) (h2 _ row hrow)
      · cases hv
    · cases hv
  · rename_i id off n
    split at hv
    · rename_i k' l hl
      split at hv
      · rename_i hk
        obtain ⟨rfl, h0, h1⟩ := hk
        cases hv
        cases r with
        | osl _ _ _ _ cap p hp q1 q2 =>
        obtain ⟨q', hq', ⟨hk, _⟩, _⟩ := I.rel.look' hl
        rw [hp] at hq'; cases hq'
        refine ⟨_, go _ _ _ h0 h1, ?_⟩
        rw [add_off, ← hk, Nat.add_assoc, ← Nat.add_mul]
        exact .ptr G id _ 0 p hp
      · cases hv
    · cases hv
  · cases hv
theorem ar_run {P : Program} {ok : Okc} {w : World} {G : Gh} {t n k : Nat} {x : Value} {a v : AV} {ik : IntKind} {i : Int} (ht : arT P t = some (n, k)) (r : Rep ok w G x a) (hv : arA n k a i = some v) :
    ∃ z, (Instr.indexAt t x (.int ik i)).run P w = .ok z w ∧ Rep ok w G z v := by
  obtain ⟨e, hu, hs⟩ := arT_spec ht
  unfold arA at hv
  split at hv
  · rename_i h0
    have go : ∀ (A : Addr), (Instr.indexAt t (.pointer (some A)) (.int ik i)).run P w = .ok (.pointer (some (A.add (i.toNat * k)))) w := fun A => by
      unfold Instr.indexAt
      simp only [asIntOf, pure_bind, Sem.run_bind, run_underlying hu, Result.andThen_ok, Sem.run_pure, Instr.sureAddr, if_pos h0, size_run hs]
    split at hv
    · cases hv
      cases r with
      | ptr _ id rr c p hp =>
      refine ⟨_, go _, ?_⟩
      rw [add_off, Nat.add_assoc]
      exact .ptr G _ _ _ p hp
    · cases hv
      cases r with
      | ip _ row c bb o vs h1 h2 =>
      refine ⟨_, go _, ?_⟩
      rw [add_off, Nat.add_assoc]
      exact .ip G _ _ bb o vs h1 h2
    · cases hv
  · cases hv
theorem bnd_run {E : Env} {G : Gh} {ok : Okc} {w : World} {S : St} {a : Act} (R : RelT G ok w S a) (hg : Globs E.gl ok w) {d : Nat} {o : Option Operand} {n : Int} (h : bndA d S E o = some n) :
    (o = none ∧ n = d) ∨ ∃ x k, o = some x ∧ a.eval x = .int k n := by
  unfold bndA at h
  split at h
  · cases h; exact .inl ⟨rfl, rfl⟩
  · rename_i x
    split at h
    · rename_i k m he
      cases h
      have r := ev_rep R hg x
      rw [he] at r
      refine .inr ⟨x, k, rfl, ?_⟩
      generalize a.eval x = y at r
      cases r
      rfl
    · cases h
/-- The bounds of x[l:h] where h is not above the length. -/
theorem bounds_run {P : Program} {w : World} {b : Bool} {len cap : Nat} {lo hi : Option Value} {l h : Int} (hlo : (lo = none ∧ l = 0) ∨ ∃ k, lo = some (.int k l)) (hhi : (hi = none ∧ h = len) ∨ ∃ k, hi = some (.int k h))
    (h0 : 0 ≤ l) (h1 : l ≤ h) (h2 : h ≤ (len : Int)) (hc : len ≤ cap) : (Instr.sliceBounds b len cap lo hi none).run P w = .ok (l.toNat, h.toNat, cap) w := by
  unfold Instr.sliceBounds
  rcases hhi with ⟨rfl, rfl⟩ | ⟨k, rfl⟩
  · rcases hlo with ⟨rfl, rfl⟩ | ⟨k', rfl⟩
    · simp
    · simp only [pure_bind, Sem.run_bind, Sem.run_pure, Result.andThen_ok, Instr.sliceBound, asIntOf, if_pos (And.intro h0 h1), Int.toNat_natCast]
  · have : 0 ≤ h ∧ h ≤ (cap : Int) := ⟨by omega, by omega⟩
    rcases hlo with ⟨rfl, rfl⟩ | ⟨k', rfl⟩
    · simp only [pure_bind, Sem.run_bind, Sem.run_pure, Result.andThen_ok, Instr.sliceBound, asIntOf, if_pos this]; rfl
    · have h3 : 0 ≤ l ∧ l ≤ ((h.toNat : Nat) : Int) := ⟨h0, by omega⟩
      simp only [pure_bind, Sem.run_bind, Sem.run_pure, Result.andThen_ok, Instr.sliceBound, asIntOf, if_pos this, if_pos h3]
theorem sl_str {P : Program} {ok : Okc} {w : World} {G : Gh} {hp : Hp} {k t : Nat} {x : ByteArray} {lo hi : Option Value} {l h : Int} {v : AV} (hu : P.underlying t = some .string)
    (hlo : (lo = none ∧ l = 0) ∨ ∃ k, lo = some (.int k l)) (hhi : (hi = none ∧ h = x.size) ∨ ∃ k, hi = some (.int k h)) (hv : slA hp k (.s x.data.toList) l h = some v) :
    ∃ z, (Instr.sliceAt t (.string x) lo hi none).run P w = .ok z w ∧ Rep ok w G z v := by
  simp only [slA] at hv
  split at hv
  · rename_i h0
    cases hv
    refine ⟨.string (x.extract l.toNat h.toNat), ?_, ?_⟩
    · unfold Instr.sliceAt Instr.slice
      simp only [Sem.run_bind, run_underlying hu, Result.andThen_ok, Option.isSome_none, Bool.false_eq_true, if_false, pure_bind, Sem.run_pure,
        bounds_run (P := P) (w := w) (b := false) (len := x.size) (cap := x.size) hlo hhi h0.1 h0.2.1 (by rw [size_str]; exact h0.2.2) (Nat.le_refl _)]
    · have := Rep.s (ok := ok) (w := w) G (x.extract l.toNat h.toNat)
      rwa [show (x.extract l.toNat h.toNat).data.toList = (x.data.toList.take h.toNat).drop l.toNat by simp [ByteArray.data_extract, List.drop_take]] at this
  · cases hv
theorem sl_run {P : Program} {F : Fr} {G : Gh} {ok : Okc} {w : World} {hp : Hp} (I : Inv F G ok w hp) {k t e : Nat} {x : Value} {a : AV} {lo hi : Option Value} {l h : Int} {v : AV} {n : Int} (hu : P.underlying t = some (.slice e)) (hs : szT P e = some k) (r : Rep ok w G x a)
    (hn : lenA a = some n) (hlo : (lo = none ∧ l = 0) ∨ ∃ k, lo = some (.int k l)) (hhi : (hi = none ∧ h = n.toNat) ∨ ∃ k, hi = some (.int k h)) (hns : ∀ y, a ≠ .s y) (hv : slA hp k a l h = some v) :
    ∃ z, (Instr.sliceAt t x lo hi none).run P w = .ok z w ∧ Rep ok w G z v := by
  have go : ∀ (A : Option Addr) (n c : Nat), ((hi = none ∧ h = n) ∨ ∃ k, hi = some (.int k h)) → 0 ≤ l → l ≤ h → h ≤ (n : Int) → n ≤ c →
      (Instr.sliceAt t (.slice A n c) lo hi none).run P w = .ok (.slice (if c = l.toNat then A else A.map (·.add (l.toNat * k))) (h.toNat - l.toNat) (c - l.toNat)) w := fun A n c hh h0 h1 h2 hc => by
    unfold Instr.sliceAt Instr.slice
    simp only [Sem.run_bind, run_underlying hu, Result.andThen_ok, pure_bind, Sem.run_pure, bounds_run (P := P) (w := w) (b := true) (len := n) (cap := c) hlo hh h0 h1 h2 hc, size_run hs]
  cases r with
  | s => exact absurd rfl (hns _)
  | nils =>
    simp only [slA] at hv
    simp only [lenA] at hn
    cases hn
    split at hv
    · rename_i h0
      obtain ⟨rfl, rfl⟩ := h0
      cases hv
      exact ⟨_, go none 0 0 (hhi.imp (fun q => ⟨q.1, by simp⟩) id) (by omega) (by omega) (by simp) (by omega), by simpa using Rep.nils G⟩
    · cases hv
  | isln _ k' =>
    simp only [slA] at hv
    simp only [lenA] at hn
    cases hn
    split at hv
    · rename_i h0
      obtain ⟨rfl, h0, h1, h2⟩ := h0
      cases hv
      have e1 : l = 0 := by simp at h2; omega
      have e2 : h = 0 := by simp at h2; omega
      subst e1; subst e2
      exact ⟨_, go none 0 0 (hhi.imp (fun q => ⟨q.1, by simp⟩) id) (by omega) (by omega) (by simp) (by omega), by simpa using Rep.isln G k'⟩
    · cases hv
  | isle _ k' A cap =>
    simp only [slA] at hv
    simp only [lenA] at hn
    cases hn
    split at hv
    · rename_i h0
      obtain ⟨rfl, h0, h1, h2⟩ := h0
      cases hv
      have e1 : l = 0 := by simp at h2; omega
      have e2 : h = 0 := by simp at h2; omega
      subst e1; subst e2
      refine ⟨_, go (some A) 0 cap (hhi.imp (fun q => ⟨q.1, by simp⟩) id) (by omega) (by omega) (by simp) (by omega), ?_⟩
      have e3 : Addr.add A 0 = A := rfl
      simp only [Int.toNat_zero, Nat.zero_mul, Option.map_some, e3, ite_self, Nat.sub_zero, List.take_zero, List.drop_nil]
      exact Rep.isle G k' A cap
    · cases hv
  | isl _ nn k' rows m bb o cap vs hm hc hk h1 h2 =>
    simp only [slA] at hv
    simp only [lenA] at hn
    cases hn
    split at hv
    · rename_i h0
      obtain ⟨rfl, h0, h3, h4⟩ := h0
      cases hv
      refine ⟨_, go _ m cap (by simpa [hm] using hhi) h0 h3 (by omega) (by omega), ?_⟩
      have hlen : ((rows.take h.toNat).drop l.toNat).length = h.toNat - l.toNat := by simp; omega
      by_cases he : h.toNat = l.toNat
      · have : (rows.take h.toNat).drop l.toNat = [] := List.eq_nil_of_length_eq_zero (by omega)
        rw [this]
        have hz : h.toNat - l.toNat = ([] : List (List AV)).length := by simp; omega
        split
        · exact .isl G nn k' [] _ bb o _ (fun _ _ => .nilFunc) hz (by simp) (by simp) (by simp) (by simp)
        · rw [Option.map_some, add_off]
          exact .isl G nn k' [] _ bb _ _ (fun _ _ => .nilFunc) hz (by simp) (by simp) (by simp) (by simp)
      · rw [if_neg (by omega), Option.map_some, add_off]
        have hget : ∀ i row, ((rows.take h.toNat).drop l.toNat)[i]? = some row → rows[l.toNat + i]? = some row := fun i row hi => by
          rw [List.getElem?_drop, List.getElem?_take] at hi
          split at hi
          · exact hi
          · cases hi
        refine .isl G nn k' _ _ bb _ _ (fun i j => vs (l.toNat + i) j) hlen.symm (by omega) (fun row hr => hk row (List.mem_of_mem_take (List.mem_of_mem_drop hr))) (fun i row hi j hj => ?_) (fun i row hi j a hj => h2 _ row (hget i row hi) j a hj)
        have := h1 _ row (hget i row hi) j hj
        rw [Nat.add_mul] at this
        simpa [Nat.add_assoc] using this
    · cases hv
  | osl _ id off m cap p hp' q1 q2 =>
    simp only [slA] at hv
    simp only [lenA] at hn
    cases hn
    split at hv
    · rename_i k' L hl
      split at hv
      · rename_i h0
        obtain ⟨rfl, h0, h3, h4⟩ := h0
        obtain ⟨q', hq', ⟨hk, _⟩, _⟩ := I.rel.look' hl
        rw [hp'] at hq'; cases hq'
        refine ⟨_, go _ m cap (by simpa using hhi) h0 h3 h4 q1, ?_⟩
        split at hv
        · rename_i he
          cases hv
          have hz : h.toNat - l.toNat = ([] : List (List AV)).length := by simp; omega
          split
          · exact .isl G true k' [] _ p.b _ _ (fun _ _ => .nilFunc) hz (by simp) (by simp) (by simp) (by simp)
          · rw [Option.map_some, add_off]
            exact .isl G true k' [] _ p.b _ _ (fun _ _ => .nilFunc) hz (by simp) (by simp) (by simp) (by simp)
        · rename_i he
          cases hv
          rw [if_neg (by omega), Option.map_some, add_off, ← hk, Nat.add_assoc, ← Nat.add_mul]
          refine .osl G id _ _ _ p hp' (by omega) ?_
          rw [← q2, Nat.add_assoc, ← Nat.add_mul, Nat.add_assoc, Nat.add_assoc, ← Nat.add_mul]
          congr 2
          omega
      · cases hv
    · cases hv
  | _ => simp only [lenA] at hn; cases hn
theorem lenA_run {P : Program} {ok : Okc} {w : World} {G : Gh} {t : TypeId} {e : Nat} {ty : TypeId} {x : Value} {a : AV} {n : Int} (hu : P.underlying t = some (.slice e)) (r : Rep ok w G x a) (hn : lenA a = some n) (hns : ∀ y, a ≠ .s y) (ts : Array TypeId) (ht : ts[0]? = some t) :
    (Builtin.len_ ts ty #[x]).run P w = .ok (.int .i64 n) w := by
  have go : ∀ A m c, (Builtin.len_ ts ty #[.slice A m c]).run P w = .ok (goInt m) w := fun A m c => by
    simp [Builtin.len_, ht, run_underlying hu]
  cases r with
  | s => exact absurd rfl (hns _)
  | nils => cases hn; exact go _ _ _
  | isln => cases hn; exact go _ _ _
  | isle => cases hn; exact go _ _ _
  | isl _ nn k' rows m bb o cap vs hm hc hk h1 h2 => cases hn; rw [go, hm]; rfl
  | osl => cases hn; exact go _ _ _
  | _ => cases hn
end Go.Proofs.YthahgmncnbeddaaGreatDoorA
/- Appends; values that are put together. -/
set_option linter.unusedVariables false
set_option linter.unusedSimpArgs false
namespace Go.Proofs.YthahgmncnbeddaaGreatDoorA
open Go Go.RowKit
/-- Rows that a list of cells holds. -/
def RowsIn (ok : Okc) (w : World) (G : Gh) (k : Nat) (cells : List Value) (l : List (List AV)) : Prop :=
  cells.length = l.length * k ∧ (∀ row ∈ l, row.length = k) ∧ ∀ i row, l[i]? = some row → ∀ j a, row[j]? = some a → ∃ v, cells[i * k + j]? = some v ∧ Rep ok w G v a ∧ v.oneCell' = true
theorem rowsIn_ofFn {ok : Okc} {w : World} {G : Gh} {k : Nat} {l : List (List AV)} {f : Nat → Nat → Value} (hk : ∀ row ∈ l, row.length = k)
    (h : ∀ i row, l[i]? = some row → ∀ j a, row[j]? = some a → Rep ok w G (f i j) a ∧ (f i j).oneCell' = true) : RowsIn ok w G k ((List.range (l.length * k)).map fun n => f (n / k) (n % k)) l := by
  refine ⟨by simp, hk, fun i row hi j a hj => ?_⟩
  have hi' := lt_of_get hi
  have hj' := lt_of_get hj
  have hrow := hk row (List.mem_of_getElem? hi)
  have hlt : i * k + j < l.length * k := row_in hi' (by omega)
  have e1 : (i * k + j) / k = i := by rw [Nat.mul_comm, Nat.mul_add_div (by omega), Nat.div_eq_of_lt (by omega)]; rfl
  have e2 : (i * k + j) % k = j := by rw [Nat.mul_comm, Nat.mul_add_mod, Nat.mod_eq_of_lt (by omega)]
  refine ⟨f i j, ?_, h i row hi j a hj⟩
  rw [List.getElem?_map, List.getElem?_range hlt]
  simp [e1, e2]
theorem firstCells_ok (P : Program) {F : Fr} {G : Gh} {ok : Okc} {w : World} {hp : Hp} (I : Inv F G ok w hp) {k : Nat} {x : Value} {a : AV} {new : List (List AV)} (r : Rep ok w G x a) (h : rowsA hp k a = some new) :
    (Builtin.lenOf x).run P w = .ok new.length w ∧ ∃ cells : List Value, (Builtin.firstCells k new.length x).run P w = .ok cells.toArray w ∧ RowsIn ok w G k cells new := by
  cases r with
  | nils => cases h; exact ⟨rfl, [], rfl, by simp [RowsIn]⟩
  | s _ x =>
    simp only [rowsA] at h
    split at h
    · rename_i hk
      cases h
      subst hk
      refine ⟨by rw [List.length_map, ← size_str]; rfl, x.data.toList.map (fun b => Value.int .u8 b.toNat), ?_, by simp, by simp, ?_⟩
      · have : ByteArray.extract x 0 (List.map (fun b : UInt8 => [AV.i IntKind.u8 ↑b.toNat]) x.data.toList).length = x := by
          rw [List.length_map, ← size_str]; exact ByteArray.extract_zero_size
        simp only [Builtin.firstCells, this]
        rw [Sem.run_pure]
        congr 1
        apply Array.ext'
        simp
      · intro i row hi j a hj
        rw [List.getElem?_map] at hi
        cases hb : x.data.toList[i]? with
        | none => rw [hb] at hi; cases hi
        | some b =>
          rw [hb] at hi
          cases hi
          cases j with
          | zero =>
            cases hj
            exact ⟨.int .u8 b.toNat, by rw [Nat.mul_one, Nat.add_zero, List.getElem?_map, hb]; rfl, .i .., rfl⟩
          | succ j => cases hj
    · cases h
  | isln _ k' =>
    simp only [rowsA] at h
    split at h
    · cases h; exact ⟨rfl, [], rfl, by simp [RowsIn]⟩
    · cases h
  | isle _ k' A cap =>
    simp only [rowsA] at h
    split at h
    · cases h
      refine ⟨rfl, [], ?_, by simp [RowsIn]⟩
      simp only [Builtin.firstCells, List.length_nil, Nat.zero_mul]
      exact run_loadCells_list (P := P) w A [] (fun j v e => by simp at e)
    · cases h
  | isl _ nn k' rows m bb o cap vs hm hc hk h1 h2 =>
    simp only [rowsA] at h
    split at h
    · rename_i hkk
      injection h with h
      subst h
      subst hkk
      have hRows : RowsIn ok w G k' ((List.range (rows.length * k')).map fun n => vs (n / k') (n % k')) rows :=
        rowsIn_ofFn hk (fun i row hi j a hj => ⟨(h2 i row hi j a hj).of0, (h1 i row hi j (lt_of_get hj)).2.2⟩)
      refine ⟨by rw [hm]; rfl, _, ?_, hRows⟩
      simp only [Builtin.firstCells]
      have key := run_loadCells_list (P := P) w ⟨bb, o, none⟩ ((List.range (rows.length * k')).map fun n => vs (n / k') (n % k')) (fun j v hj => ?_)
      · rw [hRows.1] at key
        exact key
      rw [List.getElem?_map] at hj
      have hj' : j < rows.length * k' := by
        rcases Nat.lt_or_ge j (rows.length * k') with q | q
        · exact q
        · rw [List.getElem?_eq_none (by simpa using q)] at hj; cases hj
      rw [List.getElem?_range hj'] at hj
      cases hj
      have hk0 : 0 < k' := by
        rcases Nat.eq_zero_or_pos k' with q | q
        · subst q; simp at hj'
        · exact q
      have hd : j / k' < rows.length := Nat.div_lt_of_lt_mul (by rw [Nat.mul_comm]; exact hj')
      have hrow : rows[j / k']? = some rows[j / k'] := List.getElem?_eq_getElem hd
      have := h1 _ _ hrow (j % k') (by rw [hk _ (List.getElem_mem hd)]; exact Nat.mod_lt _ hk0)
      rw [add_off, show o + j = o + j / k' * k' + j % k' by rw [Nat.mul_comm (j / k'), Nat.add_assoc, Nat.div_add_mod]]
      exact this.1
    · cases h
  | osl _ id off m cap p hpg q1 q2 =>
    simp only [rowsA] at h
    split at h
    · rename_i k' L hl
      split at h
      · rename_i h0
        obtain ⟨rfl, h0⟩ := h0
        cases h
        obtain ⟨q', hq', ⟨hk, cs, tt, fz, e1, e2, e3, e4, e5, e6⟩, hno⟩ := I.rel.look' hl
        rw [hpg] at hq'; cases hq'
        have hln : ((L.drop off).take m).length = m := by simp; omega
        have hget : ∀ i row, ((L.drop off).take m)[i]? = some row → L[off + i]? = some row := fun i row hi => by
          rw [List.getElem?_take] at hi
          split at hi
          · rw [List.getElem?_drop] at hi; exact hi
          · cases hi
        have hfit : p.base + off * p.k + m * p.k ≤ cs.size := by
          have := Nat.mul_le_mul_right p.k q1
          omega
        refine ⟨by rw [hln]; rfl, (cs.toList.drop (p.base + off * p.k)).take (m * p.k), ?_, ?_, ?_, ?_⟩
        · simp only [Builtin.firstCells]
          have hlen : ((cs.toList.drop (p.base + off * p.k)).take (m * p.k)).length = m * p.k := by simp; omega
          have key := run_loadCells_list (P := P) w ⟨p.b, p.base + off * p.k, none⟩ ((cs.toList.drop (p.base + off * p.k)).take (m * p.k)) (fun j v hj => ?_)
          · rw [hlen] at key
            rw [hln, ← hk]
            exact key
          rw [add_off, cell_of_row w p.b _ cs tt fz e1]
          rw [List.getElem?_take] at hj
          split at hj
          · rw [List.getElem?_drop] at hj; simpa using hj
          · cases hj
        · rw [hln, ← hk]; simp; omega
        · intro row hr
          rw [← hk]
          exact e5 row (List.mem_of_mem_drop (List.mem_of_mem_take hr))
        · intro i row hi j a hj
          have hi' := lt_of_get hi
          have hj' := lt_of_get hj
          obtain ⟨v, hv, rv, ro⟩ := e6 _ row (hget i row hi) j a hj
          refine ⟨v, ?_, rv, ro⟩
          have hrow := e5 row (List.mem_of_getElem? (hget i row hi))
          have hlt : i * p.k + j < m * p.k := row_in (by omega) (by omega)
          rw [← hk, List.getElem?_take, if_pos hlt, List.getElem?_drop]
          rw [Nat.add_mul] at hv
          simpa [Nat.add_assoc] using hv
      · cases h
    · cases h
  | _ => cases h
theorem RowsIn.adv {ok ok' : Okc} {w w' : World} {G G' : Gh} {k : Nat} {cells : List Value} {l : List (List AV)} (h : RowsIn ok w G k cells l) (A : Adv G ok w G' ok' w') : RowsIn ok' w' G' k cells l :=
  ⟨h.1, h.2.1, fun i row hi j a hj => let ⟨v, hv, r, o⟩ := h.2.2 i row hi j a hj; ⟨v, hv, r.adv A, o⟩⟩
theorem RowsIn.append {ok : Okc} {w : World} {G : Gh} {k : Nat} {c1 c2 : List Value} {l1 l2 : List (List AV)} (h1 : RowsIn ok w G k c1 l1) (h2 : RowsIn ok w G k c2 l2) : RowsIn ok w G k (c1 ++ c2) (l1 ++ l2) := by
  refine ⟨by rw [List.length_append, h1.1, h2.1, List.length_append, Nat.add_mul], fun row hr => (List.mem_append.1 hr).elim (h1.2.1 row) (h2.2.1 row), fun i row hi j a hj => ?_⟩
  by_cases hlt : i < l1.length
  · rw [List.getElem?_append_left hlt] at hi
    obtain ⟨v, hv, r⟩ := h1.2.2 i row hi j a hj
    exact ⟨v, by rw [List.getElem?_append_left (lt_of_get hv)]; exact hv, r⟩
  · rw [List.getElem?_append_right (by omega)] at hi
    obtain ⟨v, hv, r⟩ := h2.2.2 _ row hi j a hj
    refine ⟨v, ?_, r⟩
    have := Nat.mul_le_mul_right k (show l1.length ≤ i by omega)
    rw [List.getElem?_append_right (by rw [h1.1]; omega), h1.1, ← hv, Nat.sub_mul]
    congr 1
    omega
theorem RowsIn.one {ok : Okc} {w : World} {G : Gh} {k : Nat} {cells : List Value} {l : List (List AV)} (h : RowsIn ok w G k cells l) : ∀ v ∈ cells, v.oneCell' = true := by
  intro v hv
  obtain ⟨n, hn, rfl⟩ := List.mem_iff_getElem.1 hv
  have hn' : n < l.length * k := by rw [← h.1]; exact hn
  have hk0 : 0 < k := by
    rcases Nat.eq_zero_or_pos k with q | q
    · subst q; simp at hn'
    · exact q
  have hd : n / k < l.length := Nat.div_lt_of_lt_mul (by rw [Nat.mul_comm]; exact hn')
  have hm : n % k < l[n / k].length := by rw [h.2.1 _ (List.getElem_mem hd)]; exact Nat.mod_lt _ hk0
  obtain ⟨v, hv, _, o⟩ := h.2.2 (n / k) _ (List.getElem?_eq_getElem hd) (n % k) _ (List.getElem?_eq_getElem hm)
  rw [Nat.mul_comm, Nat.div_add_mod, List.getElem?_eq_getElem hn] at hv
  cases hv
  exact o
theorem tyOf_mem {id : Nat} {t : TypeId} : ∀ {c : List (Nat × Ent)}, tyOf c id = some t → ∃ k l, (id, Ent.tr t k l) ∈ c
  | [], h => by cases h
  | (i, e') :: r, h => by
    unfold tyOf at h
    split at h
    · rename_i hi; subst hi
      cases e' with
      | tr t' k l => cases h; exact ⟨k, l, List.mem_cons_self ..⟩
      | _ => cases h
    · obtain ⟨k, l, q⟩ := tyOf_mem h; exact ⟨k, l, List.mem_cons_of_mem _ q⟩
theorem Inv.ty {F : Fr} {G : Gh} {ok : Okc} {w : World} {h : Hp} (I : Inv F G ok w h) {id : Nat} {t : TypeId} {p : Pl} (ht : tyOf h.c id = some t) (hp : G id = some p) : p.base = 0 ∧ ∃ n, w.shape? p.b = some (t, n) := by
  obtain ⟨k, l, hm⟩ := tyOf_mem ht
  obtain ⟨p', hp', h1, _⟩ := I.rel.look _ _ hm
  rw [hp] at hp'; cases hp'
  exact h1.2
/-- A block of the call's own goes on under a new number. -/
theorem Inv.renew {F : Fr} {G : Gh} {ok : Okc} {w : World} {h : Hp} (I : Inv F G ok w h) {id k : Nat} {l l' : List (List AV)} {p : Pl} {cs cs' : Array Value} {t : TypeId} {fz : Nat × Nat}
    (hl : look h.c id = some (.rows k l)) (hp : G id = some p) (hg : w.heap[p.b]? = some (.cells cs t fz)) (base : Nat) (hbase : p.base ≤ base) (hs : cs'.size = cs.size) (hb : ∀ i, i < base → cs'[i]? = cs[i]?)
    (ty : Option TypeId) (hty : ∀ u, ty = some u → tyOf h.c id = some u ∧ base = p.base) (hfit : base + l'.length * p.k ≤ cs.size) (hk : ∀ row ∈ l', row.length = p.k) (hc : ∀ i row, l'[i]? = some row → ∀ j a, row[j]? = some a → ∃ v, cs'[base + i * p.k + j]? = some v ∧ Rep ok w G v a ∧ v.oneCell' = true) :
    Adv G ok w (ext G h.n ⟨p.b, base, p.k, p.sz⟩) ok (w.setRow p.b cs') ∧ Inv F (ext G h.n ⟨p.b, base, p.k, p.sz⟩) ok (w.setRow p.b cs') ⟨(h.n, entT ty p.k l') :: rmv h.c id, h.n + 1⟩ := by
  obtain ⟨e00, hm, hpl⟩ := look_mem hl
  obtain ⟨p0, hp0, ⟨hpk, cs0, t0, fz0, e1, e2, e3, e4, e5, e6⟩, hno⟩ := I.rel.look' hl
  rw [hp] at hp0; cases hp0
  rw [hg] at e1; cases e1
  have hf := I.rel.fresh h.n (Nat.le_refl _)
  have hok : ∀ b i, ok b i → b ≠ p.b ∨ cs'[i]? = cs[i]? := fun b i hok => by
    by_cases hb' : b = p.b
    · subst hb'
      by_cases hi : p.base ≤ i
      · exact absurd hok (hno i hi)
      · exact .inr (hb i (by omega))
    · exact .inl hb'
  have A : Adv G ok w (ext G h.n ⟨p.b, base, p.k, p.sz⟩) ok (w.setRow p.b cs') := ⟨fun _ _ e => ext_old hf e, fun b i e => ⟨e, cell_setRow hg b i (hok b i e)⟩, fun b s e => shape_setRow hg hs e⟩
  have hsz : (w.setRow p.b cs').heap.size = w.heap.size := setRow_size ..
  have hne : ∀ id e', (id, e') ∈ h.c → id ≠ h.n := fun id e' hm q => by
    obtain ⟨p', hp', _⟩ := I.rel.look id e' hm
    rw [q, hf] at hp'; cases hp'
  have hold : ∀ id e' q, (id, e') ∈ h.c → ext G h.n ⟨p.b, base, p.k, p.sz⟩ id = some q → G id = some q := fun id e' q hm hq => by
    unfold ext at hq; rw [if_neg (hne id e' hm)] at hq; exact hq
  refine ⟨A, I.os, I.tape, I.output, by rw [hsz]; exact I.size, fun b hb1 hd => ?_, I.okeep, I.adv.trans A, fun b i e => by rw [hsz]; exact I.lt b i e, ?_, ?_, ?_, ?_, ?_⟩
  · rw [heap_setRow _ _ _ _ (fun q => ?_)]
    · exact I.keep b hb1 hd
    · subst q
      rcases I.own id _ p hm hp with q | q
      · exact hd q
      · omega
  · intro id' e' q hm' hq
    cases hm' with
    | head => rw [ext_new] at hq; cases hq; exact I.own _ _ p hm hp
    | tail _ hm' => exact I.own id' e' q (mem_rmv I.rel.nodup hm').2 (hold id' e' q (mem_rmv I.rel.nodup hm').2 hq)
  · intro id' e' hm'
    cases hm' with
    | head =>
      have lift : HoldsR ok (w.setRow p.b cs') (ext G h.n ⟨p.b, base, p.k, p.sz⟩) ⟨p.b, base, p.k, p.sz⟩ p.k l' → Holds ok (w.setRow p.b cs') (ext G h.n ⟨p.b, base, p.k, p.sz⟩) ⟨p.b, base, p.k, p.sz⟩ (entT ty p.k l') := fun q => by
        cases ty with
        | none => exact q
        | some u =>
          obtain ⟨h0, n, hsh⟩ := I.ty (hty u rfl).1 hp
          exact ⟨q, (hty u rfl).2.trans h0, n, A.sh _ _ hsh⟩
      refine ⟨_, ext_new .., lift ⟨rfl, cs', t, fz, setRow_heap w p.b cs cs' t fz hg, by show cs'.size = p.sz; omega, by rw [← e2]; exact hfit, fun o ho => e4 o (by simp only at ho; omega), hk, fun i row hi j a hj => ?_⟩, fun o ho => hno o (by simp only at ho; omega)⟩
      obtain ⟨v, hv, r, o⟩ := hc i row hi j a hj
      exact ⟨v, hv, r.adv A, o⟩
    | tail _ hm' =>
      obtain ⟨hne', hm'⟩ := mem_rmv I.rel.nodup hm'
      obtain ⟨q, hq, h1, h2⟩ := I.rel.look id' e' hm'
      exact ⟨q, ext_old hf hq, h1.adv A (heap_setRow _ _ _ _ (I.rel.inj id' id _ _ q p hm' hm hne' hq hp)), h2⟩
  · intro i1 i2 a1 a2 q1 q2 m1 m2 hn g1 g2
    cases m1 with
    | head =>
      rw [ext_new] at g1; cases g1
      cases m2 with
      | head => exact absurd rfl hn
      | tail _ m2 =>
        obtain ⟨hne', m2⟩ := mem_rmv I.rel.nodup m2
        exact I.rel.inj id i2 _ _ p q2 hm m2 (Ne.symm hne') hp (hold _ _ _ m2 g2)
    | tail _ m1 =>
      obtain ⟨hne', m1⟩ := mem_rmv I.rel.nodup m1
      cases m2 with
      | head =>
        rw [ext_new] at g2; cases g2
        exact I.rel.inj i1 id _ _ q1 p m1 hm hne' (hold _ _ _ m1 g1) hp
      | tail _ m2 =>
        obtain ⟨_, m2⟩ := mem_rmv I.rel.nodup m2
        exact I.rel.inj i1 i2 _ _ q1 q2 m1 m2 hn (hold _ _ _ m1 g1) (hold _ _ _ m2 g2)
  · simp only [List.map_cons, List.nodup_cons]
    refine ⟨fun hm => ?_, (sub_rmv id h.c).nodup I.rel.nodup⟩
    obtain ⟨⟨i, e'⟩, hm', rfl⟩ := List.mem_map.1 hm
    exact hne _ _ (mem_rmv I.rel.nodup hm').2 rfl
  · intro id hid
    simp only at hid
    unfold ext; rw [if_neg (by omega)]; exact I.rel.fresh id (by omega)
end Go.Proofs.YthahgmncnbeddaaGreatDoorA
/- Appends; values that are put together (further). -/
set_option linter.unusedVariables false
set_option linter.unusedSimpArgs false
namespace Go.Proofs.YthahgmncnbeddaaGreatDoorA
open Go Go.RowKit
theorem zeroT_spec {P : Program} {t : TypeId} {z : List AV} (h : zeroT P t = some z) : ∃ i v, P.info? t = some i ∧ i.zero = some v ∧ z = v.cells.toList.map ofV1 ∧ ∀ u ∈ v.cells.toList, u.oneCell' = true := by
  unfold zeroT at h
  cases hi : P.info? t with
  | none => rw [hi] at h; cases h
  | some i =>
    rw [hi] at h
    simp only [Option.bind_some] at h
    split at h
    · rename_i v hz
      split at h
      · rename_i ha
        cases h
        exact ⟨i, v, rfl, hz, rfl, fun u hu => List.all_eq_true.1 ha u hu⟩
      · cases h
    · cases h
theorem append_room_run {P : Program} {w : World} {ts : Array TypeId} {ty t u el : TypeId} {i : TypeInfo} {d : TypeDesc} {base : Option Addr} {sLen sCap n : Nat} {x : Value} {cells : List Value} (h0 : ts[0]? = some t) (h1 : ts[1]? = some u)
    (ht : P.underlying t = some (.slice el)) (hu : P.underlying u = some d) (hd : ∀ k, d ≠ .int k) (hi : P.info? el = some i) (hl : (Builtin.lenOf x).run P w = .ok n w) (hf : (Builtin.firstCells i.size n x).run P w = .ok cells.toArray w) (hr : sLen + n ≤ sCap) :
    (Builtin.append_ ts ty #[.slice base sLen sCap, x]).run P w = (match base with | some a => (storeCells (a.add (sLen * i.size)) cells).run P w | none => .ok () w).andThen fun _ w' => .ok (.slice base (sLen + n) sCap) w' := by
  have hz : (match d with | .int _ => true | _ => false) = false := by cases d <;> first | rfl | exact absurd rfl (hd _)
  cases base <;> simp [Builtin.append_, h0, h1, run_underlying ht, run_underlying hu, sizeOf, typeInfo, hi, hz, hl, hf, hr]
theorem append_grow_run {P : Program} {w : World} {ts : Array TypeId} {ty t u el : TypeId} {i : TypeInfo} {z : Value} {d : TypeDesc} {base : Option Addr} {sLen sCap n : Nat} {x : Value} {olds cells : List Value} (h0 : ts[0]? = some t) (h1 : ts[1]? = some u)
    (ht : P.underlying t = some (.slice el)) (hu : P.underlying u = some d) (hd : ∀ k, d ≠ .int k) (hi : P.info? el = some i) (hz : i.zero = some z) (hl : (Builtin.lenOf x).run P w = .ok n w)
    (ho : (Builtin.firstCells i.size sLen (.slice base sLen sCap)).run P w.drew = .ok olds.toArray w.drew) (hf : (Builtin.firstCells i.size n x).run P w.drew = .ok cells.toArray w.drew) (hr : sCap < sLen + n)
    (hb : (sLen + n) * i.bytes ≤ 70368744177664) (hb1 : 1 ≤ i.bytes) :
    (Builtin.append_ ts ty #[.slice base sLen sCap, x]).run P w =
      .ok (.slice (some ⟨w.heap.size, 0, none⟩) (sLen + n) (grownCap w (sLen + n) sCap el)) (w.drew.alloc (.cells (olds.toArray ++ cells.toArray ++ Builtin.zeroCells z.cells (grownCap w (sLen + n) sCap el - (sLen + n))) el)) := by
  have hzz : (match d with | .int _ => true | _ => false) = false := by cases d <;> first | rfl | exact absurd rfl (hd _)
  have hfit : Builtin.nextslicecap (sLen + n) sCap * i.bytes ≤ 281474976710656 := growslice_fits hr (by omega)
  have h48 : ¬ (281474976710656 < Builtin.nextslicecap (sLen + n) sCap * i.bytes) := by omega
  have hlt : ¬ (sLen + n ≤ sCap) := by omega
  have hb0 : ¬ (i.bytes = 0) := by omega
  simp [Builtin.append_, h0, h1, run_underlying ht, run_underlying hu, sizeOf, typeInfo, zeroValue, hi, hz, hzz, hl, hlt, h48, hb0, Question.forced, ho, hf, newRow, grownCap]
  congr 2
  apply Array.ext'
  simp [List.append_assoc]
theorem keep0 {n : Nat} {a : Option TypeId} {u : TypeId} (h : (bif Nat.beq n 0 then a else none) = some u) : n = 0 ∧ a = some u := by
  cases hb : Nat.beq n 0 with
  | true => rw [hb] at h; exact ⟨Nat.eq_of_beq_eq_true hb, h⟩
  | false => rw [hb] at h; cases h
theorem keepT_l {a b : Option TypeId} {u : TypeId} (h : keepT a b = some u) : a = some u := by
  unfold keepT at h
  split at h
  · split at h
    · exact h
    · cases h
  · cases h
theorem keepT_r {a b : Option TypeId} {u : TypeId} (h : keepT a b = some u) : b = some u := by
  unfold keepT at h
  split at h
  · split at h
    · rename_i q; rw [← q]; exact h
    · cases h
  · cases h
theorem grow_fin {F : Fr} {G : Gh} {ok : Okc} {w : World} {h : Hp} (I : Inv F G ok w h) (el : TypeId) (ty : Option TypeId) (hty : ∀ u, ty = some u → u = el) {k N cap : Nat} {A : Array Value} {rows : List (List AV)} {cells : List Value} (hr : RowsIn ok w G k cells rows) (hA : ∀ j, j < cells.length → A[j]? = cells[j]?)
    (hs : A.size = cap * k) (hN : rows.length = N) (hc : N ≤ cap) : ∃ G', Adv G ok w G' ok (w.alloc (.cells A el)) ∧ Inv F G' ok (w.alloc (.cells A el)) ⟨(h.n, entT ty k rows) :: h.c, h.n + 1⟩ ∧ Rep ok (w.alloc (.cells A el)) G' (.slice (some ⟨w.heap.size, 0, none⟩) N cap) (.osl h.n 0 N) := by
  have al := I.alloc (w' := w.alloc (.cells A el)) rfl rfl rfl rfl (.inl rfl) ty hty k rows hr.2.1 (by rw [hs, hN]; exact Nat.mul_le_mul_right _ hc) (fun n row hn j a hj => by
    obtain ⟨v, hv, r⟩ := hr.2.2 n row hn j a hj
    exact ⟨v, by rw [hA _ (lt_of_get hv)]; exact hv, r⟩)
  refine ⟨_, al.1, al.2, ?_⟩
  have hp : ext G h.n ⟨w.heap.size, 0, k, A.size⟩ h.n = some ⟨w.heap.size, 0, k, A.size⟩ := ext_new ..
  have := Rep.osl (ok := ok) (w := w.alloc (.cells A el)) _ h.n 0 N cap _ hp hc (by simp [hs])
  simpa using this
theorem app_does {P : Program} {F : Fr} {G : Gh} {ok : Okc} {w : World} {h h' : Hp} (I : Inv F G ok w h) {ts : Array TypeId} {ty t u el : TypeId} {i : TypeInfo} {z : List AV} {d : TypeDesc} {k : Nat} {s x : Value} {sa xa v : AV} (h0 : ts[0]? = some t) (h1 : ts[1]? = some u)
    (ht : elT P t = some (k, el)) (hu : P.underlying u = some d) (hd : ∀ k, d ≠ .int k) (hi : P.info? el = some i) (hz : zeroT P el = some z) (hzk : z.length = k) (rs : Rep ok w G s sa) (rx : Rep ok w G x xa) {ty0 : Option TypeId} (hty : ∀ u, ty0 = some u → u = el) (e : appA h k i.bytes ty0 sa xa = .val v h') :
    ∃ y w' G' ok', (Builtin.append_ ts ty #[s, x]).run P w = .ok y w' ∧ Adv G ok w G' ok' w' ∧ Inv F G' ok' w' h' ∧ Rep ok' w' G' y v := by
  obtain ⟨hut, hsz⟩ := elT_spec ht
  have hsize : i.size = k := by unfold szT at hsz; rw [hi] at hsz; exact Option.some.inj hsz
  obtain ⟨i', zv, hi', hzv, rfl, hone⟩ := zeroT_spec hz
  rw [hi] at hi'; cases hi'
  have hzc : zv.cells.size = k := by simpa using hzk
  subst hsize
  unfold appA at e
  split at e
  · cases e
  · rename_i new hnew
    obtain ⟨hl, cells, hf, hrows⟩ := firstCells_ok P I rx hnew
    obtain ⟨A1, I1⟩ := I.drawn (w' := w.drew) rfl rfl rfl rfl
    obtain ⟨_, cells1, hf1, hrows1⟩ := firstCells_ok P I1 (rx.adv A1) hnew
    have hge := fun need old => grownCap_ge w need old el
    split at e
    · split at e
      · rename_i hb
        split at e
        · rename_i hn
          cases e
          subst hn
          cases rs
          refine ⟨_, w, G, ok, ?_, .refl .., I, .nils _⟩
          exact append_room_run (base := none) (sLen := 0) (sCap := 0) h0 h1 hut hu hd hi hl hf (Nat.le_refl _)
        · rename_i hn
          have hn0 : 0 < new.length := List.length_pos_iff.2 hn
          cases e
          cases rs
          have hg := hge (0 + new.length) 0
          obtain ⟨G', a1, a2, a3⟩ := grow_fin I1 el ty0 hty hrows1 (A := #[] ++ cells1.toArray ++ Builtin.zeroCells zv.cells (grownCap w (0 + new.length) 0 el - (0 + new.length))) (N := new.length) (cap := grownCap w (0 + new.length) 0 el)
            (fun j hj => by simp [Array.getElem?_append, hj]) (by
              simp only [Array.size_append, List.size_toArray, size_zeroCells, hrows1.1, hzc, List.length_nil, Nat.zero_add]
              rw [← Nat.add_mul]
              congr 1
              rw [Nat.zero_add] at hg
              omega) rfl (by omega)
          exact ⟨_, _, G', ok, append_grow_run (olds := []) h0 h1 hut hu hd hi hzv hl rfl hf1 (by omega) (by rw [Nat.zero_add]; exact hb.1) hb.2, A1.trans a1, a2, by simpa using a3⟩
      · cases e
    · rename_i id off n
      split at e
      · rename_i k' L hlk
        split at e
        · rename_i hb
          obtain ⟨rfl, hfr, hb, hb1⟩ := hb
          cases e
          cases rs with
          | osl _ _ _ _ cap p hp q1 q2 =>
          obtain ⟨q', hq', ⟨hk, cs, tt, fz, e1, e2, e3, e4, e5, e6⟩, hno⟩ := I.rel.look' hlk
          rw [hp] at hq'; cases hq'
          have hold : rowsA h i.size (.osl id off n) = some ((L.drop off).take n) := by simp only [rowsA, hlk]; rw [if_pos ⟨trivial, by omega⟩]
          have hon : (L.drop off).take n = L.drop off := List.take_of_length_le (by simp; omega)
          have holen : (L.drop off).length = n := by simp; omega
          have hnk : off * p.k + n * p.k = L.length * p.k := by rw [← hfr, Nat.add_mul]
          by_cases hr : n + new.length ≤ cap
          · rw [append_room_run h0 h1 hut hu hd hi hl hf hr]
            simp only [add_off]
            have hroom : p.base + off * p.k + n * p.k + new.length * p.k ≤ cs.size := by
              have := Nat.mul_le_mul_right p.k hr
              rw [Nat.add_mul] at this
              omega
            have hst := storeCells_run P p.b (p.base + off * p.k + n * i.size) tt fz cells 0 cs w e1 (fun j h1 h2 => by
              rw [Bool.eq_false_iff]; intro hf
              have := e4 j (by omega) hf
              rw [← hk] at h2
              rw [hrows.1, ← hk] at h2
              omega) (by rw [hrows.1, ← hk]; omega) hrows.one
            rw [Nat.add_zero] at hst
            simp only [hst, Result.andThen_ok]
            have hfit : p.base + off * p.k + n * i.size + cells.length ≤ cs.toList.length := by rw [hrows.1, ← hk]; simpa using hroom
            have hidx : ∀ j, (cs.toList.take (p.base + off * p.k + n * i.size) ++ cells ++ cs.toList.drop (p.base + off * p.k + n * i.size + cells.length)).toArray[j]? = if j < p.base + off * p.k + n * i.size then cs.toList[j]? else if j < p.base + off * p.k + n * i.size + cells.length then cells[j - (p.base + off * p.k + n * i.size)]? else cs.toList[j]? :=
              fun j => by rw [List.getElem?_toArray]; exact splice_get hfit
            have rn := I.renew (l' := L.drop off ++ new) (cs' := (cs.toList.take (p.base + off * p.k + n * i.size) ++ cells ++ cs.toList.drop (p.base + off * p.k + n * i.size + cells.length)).toArray) hlk hp e1 (p.base + off * p.k) (by omega)
              (by rw [List.size_toArray, splice_length hfit]; simp) (fun j hj => by rw [hidx, if_pos (by omega)]; simp) (keepT (bif Nat.beq off 0 then ty0 else none) (tyOf h.c id)) (fun u q => ⟨keepT_r q, by rw [(keep0 (keepT_l q)).1]; simp⟩) (by rw [List.length_append, holen, Nat.add_mul]; omega)
              (fun row hr => (List.mem_append.1 hr).elim (fun q => e5 row (List.mem_of_mem_drop q)) (fun q => by rw [hk]; exact hrows.2.1 row q))
              (fun m row hm j a hj => by
                rw [hidx]
                by_cases hlt : m < n
                · rw [List.getElem?_append_left (by omega), List.getElem?_drop] at hm
                  obtain ⟨v, hv, r⟩ := e6 _ row hm j a hj
                  have hrow := e5 row (List.mem_of_getElem? hm)
                  have := row_in hlt (show j < p.k by have := lt_of_get hj; omega)
                  rw [if_pos (by rw [← hk]; omega)]
                  refine ⟨v, ?_, r⟩
                  rw [Nat.add_mul] at hv
                  simpa [Nat.add_assoc] using hv
                · rw [List.getElem?_append_right (by omega), holen] at hm
                  obtain ⟨v, hv, r⟩ := hrows.2.2 _ row hm j a hj
                  have hlv := lt_of_get hv
                  have := Nat.mul_le_mul_right p.k (show n ≤ m by omega)
                  rw [Nat.sub_mul, ← hk] at hlv
                  rw [if_neg (by rw [← hk]; omega), if_pos (by rw [← hk]; omega)]
                  refine ⟨v, ?_, r⟩
                  rw [← hv, Nat.sub_mul, ← hk]
                  congr 1
                  omega)
            refine ⟨_, _, _, ok, rfl, rn.1, ?_, ?_⟩
            · have := rn.2; rw [show entT (keepT (bif Nat.beq off 0 then ty0 else none) (tyOf h.c id)) p.k (L.drop off ++ new) = entT (keepT (bif Nat.beq off 0 then ty0 else none) (tyOf h.c id)) i.size (L.drop off ++ new) by rw [hk]] at this; exact this
            · have := Rep.osl (ok := ok) (w := w.setRow p.b (cs.toList.take (p.base + off * p.k + n * i.size) ++ cells ++ cs.toList.drop (p.base + off * p.k + n * i.size + cells.length)).toArray) _ h.n 0 (n + new.length) cap _ (ext_new G h.n ⟨p.b, p.base + off * p.k, p.k, p.sz⟩) hr (by
                show p.base + off * p.k + 0 * p.k + cap * p.k = p.sz
                omega)
              simpa using this
          · have hg := hge (n + new.length) cap
            obtain ⟨_, olds, ho1, horows⟩ := firstCells_ok P I1 ((Rep.osl G id off n cap p hp q1 q2).adv A1) hold
            rw [hon] at ho1 horows
            rw [holen] at ho1
            have hboth := horows.append hrows1
            have I2 := I1.without id
            have hbl := hboth.1
            rw [List.length_append, List.length_append, holen] at hbl
            obtain ⟨G', a1, a2, a3⟩ := grow_fin I2 el (keepT (bif Nat.beq off 0 then ty0 else none) (tyOf h.c id)) (fun u q => hty u (keep0 (keepT_l q)).2) hboth (A := olds.toArray ++ cells1.toArray ++ Builtin.zeroCells zv.cells (grownCap w (n + new.length) cap el - (n + new.length))) (N := n + new.length) (cap := grownCap w (n + new.length) cap el)
              (fun j hj => by rw [Array.getElem?_append_left (by simpa using hj)]; simp) (by
                simp only [Array.size_append, List.size_toArray, size_zeroCells, hzc]
                rw [hbl, ← Nat.add_mul]
                congr 1
                omega) (by rw [List.length_append, holen]) (by omega)
            exact ⟨_, _, G', ok, append_grow_run h0 h1 hut hu hd hi hzv hl ho1 hf1 (by omega) hb hb1, A1.trans a1, a2, a3⟩
        · cases e
      · cases e
    · cases e
end Go.Proofs.YthahgmncnbeddaaGreatDoorA
/- Values that are put together. -/
set_option linter.unusedVariables false
set_option linter.unusedSimpArgs false
namespace Go.Proofs.YthahgmncnbeddaaGreatDoorA
open Go Go.RowKit
theorem foldl_set (off : Nat) : ∀ (us : List Value) (n : Nat) (cs : Array Value), off + n + us.length ≤ cs.size →
    ((us.zipIdx n).foldl (fun cs (cj : Value × Nat) => cs.setIfInBounds (off + cj.2) cj.1) cs).toList = cs.toList.take (off + n) ++ us ++ cs.toList.drop (off + n + us.length)
  | [], n, cs, _ => by simp
  | u :: us, n, cs, h => by
    rw [List.zipIdx_cons, List.foldl_cons, foldl_set off us (n + 1) _ (by simp at h ⊢; omega)]
    have e := list_seg_step cs.toList (off + n) u us (by simp at h ⊢; omega)
    simpa [Array.toList_setIfInBounds, Nat.add_assoc] using e
theorem fill_step (v : Value) (off : Nat) (cells : Array Value) (h : off + v.cells.size ≤ cells.size) :
    v.cells.zipIdx.foldl (fun cs (cj : Value × Nat) => cs.setIfInBounds (off + cj.2) cj.1) cells = (cells.toList.take off ++ v.cells.toList ++ cells.toList.drop (off + v.cells.size)).toArray := by
  apply Array.ext'
  have := foldl_set off v.cells.toList 0 cells (by simpa using h)
  rw [← Array.foldl_toList, Array.toList_zipIdx, this]
  simp
/-- Cells that read as a row. -/
def RepC (ok : Okc) (w : World) (G : Gh) (cells : List Value) (row : List AV) : Prop := cells.length = row.length ∧ ∀ (j : Nat) a, row[j]? = some a → ∃ v, cells[j]? = some v ∧ Rep ok w G v a ∧ v.oneCell' = true
theorem cellsA_repC {ok : Okc} {w : World} {G : Gh} {v : Value} {a : AV} {cs : List AV} (r : Rep ok w G v a) (h : cellsA a = some cs) : RepC ok w G v.cells.toList cs := by
  obtain ⟨h1, h2, h3⟩ := cellsA_rep r h
  refine ⟨by simpa using h1, fun j a hj => ?_⟩
  have hlt : j < v.cells.size := by have := lt_of_get hj; omega
  exact ⟨v.cells[j], by simp [hlt], h2 j _ a (by simp [hlt]) hj, h3 _ (by simp)⟩
theorem zeroT_repC {P : Program} {t : TypeId} {z : List AV} {i : TypeInfo} {v : Value} (ok : Okc) (w : World) (G : Gh) (hz : z = v.cells.toList.map ofV1) (h1 : ∀ u ∈ v.cells.toList, u.oneCell' = true) : RepC ok w G v.cells.toList z := by
  subst hz
  refine ⟨by simp, fun j a hj => ?_⟩
  rw [List.getElem?_map] at hj
  cases hv : v.cells.toList[j]? with
  | none => rw [hv] at hj; cases hj
  | some u => rw [hv] at hj; cases hj; exact ⟨u, rfl, ofV1_rep .., h1 u (List.mem_of_getElem? hv)⟩
theorem RepC.splice {ok : Okc} {w : World} {G : Gh} {cells us : List Value} {row cs row' : List AV} {c : Nat} (h : RepC ok w G cells row) (k : RepC ok w G us cs) (hp : putRow row c cs = some row') :
    c + us.length ≤ cells.length ∧ RepC ok w G (cells.take c ++ us ++ cells.drop (c + us.length)) row' := by
  unfold putRow at hp
  split at hp
  · rename_i hle
    cases hp
    have hle' : c + us.length ≤ cells.length := by rw [k.1, h.1]; exact hle
    refine ⟨hle', by rw [splice_length hle', splice_length hle, h.1], fun j a hj => ?_⟩
    rw [splice_get hle']
    rw [splice_getA hle] at hj
    rw [k.1]
    split at hj
    · rename_i q; rw [if_pos q]; exact h.2 j a hj
    · rename_i q
      rw [if_neg q]
      split at hj
      · rename_i q; rw [if_pos q]; exact k.2 _ a hj
      · rename_i q; rw [if_neg q]; exact h.2 j a hj
  · cases hp
theorem fill_ok {E : Env} {G : Gh} {ok : Okc} {w : World} {S : St} {a : Act} (R : RelT G ok w S a) (hg : Globs E.gl ok w) {pl place : Nat → Option (Nat × Nat)} (hpl : ∀ i, place i = pl i) :
    ∀ (parts : List (Nat × Operand)) (row row' : List AV) (cells : Array Value), partsA E S pl row parts = some row' → RepC ok w G cells.toList row →
      ∃ cells', Instr.fill place cells (parts.map fun p => (p.1, a.eval p.2)) = some cells' ∧ RepC ok w G cells'.toList row'
  | [], row, row', cells, h, r => by cases h; exact ⟨cells, rfl, r⟩
  | (i, x) :: rest, row, row', cells, h, r => by
    unfold partsA at h
    split at h
    · rename_i off size cs h1 h2
      split at h
      · rename_i hlen
        split at h
        · rename_i row2 hput
          have rc := cellsA_repC (ev_rep R hg x) h2
          obtain ⟨hle, r2⟩ := r.splice rc hput
          simp only [Array.length_toList] at hle
          have hsz : (a.eval x).cells.size = size := by have := rc.1; simp at this; omega
          obtain ⟨cells', e, r3⟩ := fill_ok R hg hpl rest row2 row' _ h (by rw [List.toList_toArray]; exact r2)
          refine ⟨cells', ?_, r3⟩
          rw [List.map_cons]
          unfold Instr.fill
          rw [hpl, h1]
          simp only
          rw [if_neg (by simp; omega), fill_step _ _ _ hle, ← e]
          simp
        · cases h
      · cases h
    · cases h
theorem plT_built {P : Program} {t : TypeId} {pl : List (Nat × Nat) ⊕ Nat} {i : TypeInfo} {z : Value} (h : plT P t = some pl) (hi : P.info? t = some i) (hz : i.zero = some z) :
    ∃ place : Nat → Option (Nat × Nat), (∀ n, place n = plA pl n) ∧ ∀ parts, P.built t parts = Instr.fill place z.cells parts := by
  unfold plT at h
  split at h
  · rename_i n e hu
    unfold szT at h
    cases hie : P.info? e with
    | none => rw [hie] at h; cases h
    | some ie =>
      rw [hie] at h
      cases h
      exact ⟨_, fun n => rfl, fun parts => by simp only [Program.built, hi, hu, hz, hie]; rfl⟩
  · rename_i fs hu
    cases hm : fs.toList.mapM (fun f => (P.info? f.type).map fun i => (f.offset, i.size)) with
    | none => rw [hm] at h; cases h
    | some l =>
      rw [hm] at h
      cases h
      exact ⟨fun n => l.toArray[n]?, fun n => by simp [plA], fun parts => by simp only [Program.built, hi, hu, hz, hm]⟩
  · cases h
theorem build_ok {E : Env} {G : Gh} {ok : Okc} {w : World} {S : St} {a : Act} (R : RelT G ok w S a) (hg : Globs E.gl ok w) {t : TypeId} {z row : List AV} {pl : List (Nat × Nat) ⊕ Nat} {parts : Array (Nat × Operand)} (hz : zeroT E.P t = some z) (hp : plT E.P t = some pl)
    (h : partsA E S (plA pl) z parts.toList = some row) : ∃ y, (Instr.build t (parts.map fun (i, x) => (i, a.eval x))).run E.P w = .ok y w ∧ Rep ok w G y (.agg row) := by
  obtain ⟨i, v, hi, hv, hz', h1⟩ := zeroT_spec hz
  obtain ⟨place, hpl, hb⟩ := plT_built hp hi hv
  obtain ⟨cells', e, r⟩ := fill_ok R hg hpl parts.toList z row v.cells h (zeroT_repC (P := E.P) (t := t) (i := i) ok w G hz' h1)
  refine ⟨.agg cells', run_build w t _ cells' ?_, .agg _ _ _ (by simpa using r.1) (fun j u b hj hb' => ?_)⟩
  · rw [hb, ← e]; congr 1; simp
  · obtain ⟨u', hu', r', _⟩ := r.2 j b hb'
    rw [Array.getElem?_toList, hj] at hu'
    cases hu'
    exact r'
theorem RowsIn.set {ok : Okc} {w : World} {G : Gh} {k i : Nat} {cells us : List Value} {rows : List (List AV)} {cs : List AV} (h : RowsIn ok w G k cells rows) (r : RepC ok w G us cs) (hk : cs.length = k) (hi : i < rows.length) :
    i * k + us.length ≤ cells.length ∧ RowsIn ok w G k (cells.take (i * k) ++ us ++ cells.drop (i * k + us.length)) (rows.set i cs) := by
  have hin := Nat.mul_le_mul_right k (show i + 1 ≤ rows.length by omega)
  rw [Nat.add_mul] at hin
  have hu : us.length = k := by rw [r.1, hk]
  have hle : i * k + us.length ≤ cells.length := by rw [h.1]; omega
  refine ⟨hle, by rw [splice_length hle, h.1, List.length_set], fun row hr => ?_, fun m row hm j a hj => ?_⟩
  · rcases List.mem_or_eq_of_mem_set hr with q | rfl
    · exact h.2.1 row q
    · exact hk
  · rw [splice_get hle]
    by_cases hmi : m = i
    · subst hmi
      rw [List.getElem?_set_self hi] at hm
      cases hm
      have := lt_of_get hj
      rw [if_neg (by omega), if_pos (by omega), show m * k + j - m * k = j by omega]
      exact r.2 j a hj
    · rw [List.getElem?_set_ne (Ne.symm hmi)] at hm
      have hj' := lt_of_get hj
      have := h.2.1 row (List.mem_of_getElem? hm)
      rcases rows_apart (k := k) hmi (show j < k by omega) with q | q
      · rw [if_pos q]; exact h.2.2 m row hm j a hj
      · rw [if_neg (by omega), if_neg (by omega)]; exact h.2.2 m row hm j a hj
theorem bs_ok {E : Env} {G : Gh} {ok : Okc} {w : World} {S : St} {a : Act} (R : RelT G ok w S a) (hg : Globs E.gl ok w) {k : Nat} :
    ∀ (parts : List (Nat × Operand)) (rows rows' : List (List AV)) (cells : Array Value), bsA E S k rows parts = some rows' → RowsIn ok w G k cells.toList rows →
      ∃ cells', Instr.fill (fun i => some (i * k, k)) cells (parts.map fun p => (p.1, a.eval p.2)) = some cells' ∧ RowsIn ok w G k cells'.toList rows' ∧ rows'.length = rows.length
  | [], rows, rows', cells, h, r => by cases h; exact ⟨cells, rfl, r, rfl⟩
  | (i, x) :: rest, rows, rows', cells, h, r => by
    unfold bsA at h
    split at h
    · rename_i cs h2
      split at h
      · rename_i hlen
        have rc := cellsA_repC (ev_rep R hg x) h2
        obtain ⟨hle, r2⟩ := r.set rc hlen.1 hlen.2
        simp only [Array.length_toList] at hle
        have hsz : (a.eval x).cells.size = k := by have := rc.1; simp at this; omega
        obtain ⟨cells', e, r3, r4⟩ := bs_ok R hg rest _ rows' _ h (by rw [List.toList_toArray]; exact r2)
        refine ⟨cells', ?_, r3, by rw [r4, List.length_set]⟩
        rw [List.map_cons]
        unfold Instr.fill
        simp only
        rw [if_neg (by simp; omega), fill_step _ _ _ hle, ← e]
        simp
      · cases h
    · cases h
theorem rowsIn_zero {P : Program} {t : TypeId} {z : List AV} {i : TypeInfo} {v : Value} (ok : Okc) (w : World) (G : Gh) {k n : Nat} (hz : z = v.cells.toList.map ofV1) (h1 : ∀ u ∈ v.cells.toList, u.oneCell' = true) (hk : z.length = k) :
    RowsIn ok w G k ((List.range (n * k)).map fun m => v.cells[m % k]?.getD undef) (List.replicate n z) := by
  have hv : v.cells.size = k := by rw [← hk, hz]; simp
  have := rowsIn_ofFn (ok := ok) (w := w) (G := G) (k := k) (l := List.replicate n z) (f := fun _ j => v.cells[j]?.getD undef) (fun row hr => by rw [(List.mem_replicate.1 hr).2]; exact hk) (fun i row hi j a hj => by
    have : row = z := by
      have := List.mem_of_getElem? hi
      exact (List.mem_replicate.1 this).2
    subst this
    obtain ⟨u, hu, r, o⟩ := (zeroT_repC (P := P) (t := t) (i := ‹TypeInfo›) ok w G hz h1).2 j a hj
    rw [Array.getElem?_toList] at hu
    rw [hu]
    exact ⟨r, o⟩)
  simpa using this
theorem zeros_eq (v : Value) (k n : Nat) (hv : v.cells.size = k) : ((Array.range (n * k)).map fun m => v.cells[m % v.cells.size]!).toList = (List.range (n * k)).map fun m => v.cells[m % k]?.getD undef := by
  simp only [Array.toList_map, Array.toList_range, hv]
  refine List.map_congr_left (fun m hm => ?_)
  have hk : 0 < k := by
    rcases Nat.eq_zero_or_pos k with q | q
    · subst q; simp at hm
    · exact q
  have : m % k < v.cells.size := by rw [hv]; exact Nat.mod_lt _ hk
  simp [this]
end Go.Proofs.YthahgmncnbeddaaGreatDoorA
/- Every operation that is known does what is told of it. -/
set_option linter.unusedVariables false
set_option linter.unusedSimpArgs false
namespace Go.Proofs.YthahgmncnbeddaaGreatDoorA
open Go Go.RowKit
theorem OR.of_val {h h' : Hp} {o : Option AV} {v : AV} (e : OR.of h o = .val v h') : o = some v ∧ h' = h := by
  cases o with
  | none => cases e
  | some u => cases e; exact ⟨rfl, rfl⟩
section
variable {E : Env} {F : Fr} {G : Gh} {ok : Okc} {w : World} {S : St} {a : Act} {o : Oper} {v : AV} {h' : Hp}
theorem does_newT (I : Inv F G ok w S.h) {ty : Option TypeId} {k : Nat} {rows : List (List AV)} {mk : Nat → AV} {cells : Array Value} {t : TypeId} (hty : ∀ u, ty = some u → u = t) {x : Value} (hc : RowsIn ok w G k cells.toList rows)
    (he : (execOp a.eval o).run E.P w = .ok (.value x) (w.alloc (.cells cells t))) (hx : ∀ G', G' S.h.n = some ⟨w.heap.size, 0, k, cells.size⟩ → Rep ok (w.alloc (.cells cells t)) G' x (mk S.h.n)) (e : newT S.h ty k rows mk = .val v h') : Does E F G ok w o a v h' := by
  unfold newT at e
  cases e
  have al := I.alloc (w' := w.alloc (.cells cells t)) rfl rfl rfl rfl (.inl rfl) ty hty k rows hc.2.1 (by have := hc.1; simp at this; omega) (fun n row hn j b hj => by
    obtain ⟨u, hu, r⟩ := hc.2.2 n row hn j b hj
    exact ⟨u, by simpa using hu, r⟩)
  exact ⟨_, x, _, _, ok, he, .inl rfl, al.1, al.2, hx _ (ext_new ..)⟩
theorem does_new (I : Inv F G ok w S.h) {k : Nat} {rows : List (List AV)} {mk : Nat → AV} {cells : Array Value} {t : TypeId} {x : Value} (hc : RowsIn ok w G k cells.toList rows)
    (he : (execOp a.eval o).run E.P w = .ok (.value x) (w.alloc (.cells cells t))) (hx : ∀ G', G' S.h.n = some ⟨w.heap.size, 0, k, cells.size⟩ → Rep ok (w.alloc (.cells cells t)) G' x (mk S.h.n)) (e : newA S.h k rows mk = .val v h') : Does E F G ok w o a v h' := by
  unfold newA at e
  cases e
  have al := I.alloc (w' := w.alloc (.cells cells t)) rfl rfl rfl rfl (.inl rfl) none (fun u q => by cases q) k rows hc.2.1 (by have := hc.1; simp at this; omega) (fun n row hn j b hj => by
    obtain ⟨u, hu, r⟩ := hc.2.2 n row hn j b hj
    exact ⟨u, by simpa using hu, r⟩)
  exact ⟨_, x, _, _, ok, he, .inl rfl, al.1, al.2, hx _ (ext_new ..)⟩
theorem rowsIn_one {ok : Okc} {w : World} {G : Gh} {cells : List Value} {row : List AV} (h : RepC ok w G cells row) : RowsIn ok w G row.length cells [row] := by
  refine ⟨by simp [h.1], fun r hr => by simp at hr; rw [hr], fun i r hi j a hj => ?_⟩
  cases i with
  | zero => cases hi; simpa using h.2 j a hj
  | succ i => simp at hi
theorem move_does (I : Inv F G ok w S.h) (R : RelT G ok w S a) (hg : Globs E.gl ok w) (x : Operand) (ho : o.op = .move x ∨ o.op = .assign x) (e : OR.val (ev E S x) S.h = .val v h') : Does E F G ok w o a v h' := by
  cases e
  refine .pure I (x := a.eval x) ?_ (ev_rep R hg x)
  rcases ho with ho | ho <;> (unfold execOp; rw [ho]; rfl)
theorem alloc_does (I : Inv F G ok w S.h) (t : TypeId) (ho : o.op = .alloc t) (e : opA E S (.alloc t) = .val v h') : Does E F G ok w o a v h' := by
  simp only [opA] at e
  split at e
  · rename_i z hz
    obtain ⟨i, zv, hi, hzv, hz', h1⟩ := zeroT_spec hz
    have rc := zeroT_repC (P := E.P) (t := t) (i := i) ok w G hz' h1
    refine does_newT I (cells := zv.cells) (t := t) (fun u q => by cases hq : selfT E.P t <;> rw [hq] at q <;> cases q; rfl) (x := .pointer (some ⟨w.heap.size, 0, none⟩)) (rowsIn_one rc) ?_ (fun G' hG => ?_) e
    · unfold execOp; rw [ho]; simp [Instr.alloc, zeroValue, typeInfo, hi, hzv, newVar, newRow]
    · simpa using Rep.ptr (ok := ok) (w := w.alloc (.cells zv.cells t)) G' S.h.n 0 0 _ hG
  · cases e
theorem box_does (I : Inv F G ok w S.h) (R : RelT G ok w S a) (hg : Globs E.gl ok w) (t : TypeId) (x : Operand) (ho : o.op = .box t x) (e : opA E S (.box t x) = .val v h') : Does E F G ok w o a v h' := by
  simp only [opA] at e
  split at e
  · rename_i cs hcs
    have rc := cellsA_repC (ev_rep R hg x) hcs
    refine does_new I (cells := (a.eval x).cells) (t := t) (x := .pointer (some ⟨w.heap.size, 0, none⟩)) (rowsIn_one rc) ?_ (fun G' hG => ?_) e
    · unfold execOp; rw [ho]; simp [Instr.box, newVar, newRow]
    · simpa using Rep.ptr (ok := ok) (w := w.alloc (.cells (a.eval x).cells t)) G' S.h.n 0 0 _ hG
  · cases e
theorem buildSlice_does (I : Inv F G ok w S.h) (R : RelT G ok w S a) (hg : Globs E.gl ok w) (t : TypeId) (len : Nat) (parts : Array (Nat × Operand)) (ho : o.op = .buildSlice t len parts) (e : opA E S (.buildSlice t len parts) = .val v h') : Does E F G ok w o a v h' := by
  simp only [opA] at e
  split at e
  · rename_i k el hel
    obtain ⟨hu, hs⟩ := elT_spec hel
    split at e
    · rename_i z hz
      obtain ⟨i, zv, hi, hzv, hz', h1⟩ := zeroT_spec hz
      split at e
      · rename_i hk
        have hvk : zv.cells.size = k := by have := hk.1; rw [hz'] at this; simpa using this
        split at e
        · rename_i rows hrows
          have rz := rowsIn_zero (P := E.P) (t := el) (i := i) ok w G (n := len) hz' h1 hk.1
          have hstart : RowsIn ok w G k ((Array.range (len * k)).map fun m => (if len * k = 0 then (#[] : Array Value) else zv.cells)[m % (if len * k = 0 then (#[] : Array Value) else zv.cells).size]!).toList (List.replicate len z) := by
            by_cases h0 : len * k = 0
            · have : (List.range (len * k)).map (fun m => zv.cells[m % k]?.getD undef) = [] := by rw [h0]; rfl
              rw [this] at rz
              simpa [h0] using rz
            · rw [if_neg h0, zeros_eq zv k len hvk]; exact rz
          obtain ⟨cells', e1, r2, r3⟩ := bs_ok R hg parts.toList _ rows _ hrows hstart
          have hlen : rows.length = len := by rw [r3, List.length_replicate]
          refine does_new I (cells := cells') (t := el) (x := .slice (some ⟨w.heap.size, 0, none⟩) rows.length rows.length) r2 ?_ (fun G' hG => ?_) e
          · unfold execOp
            rw [ho]
            have e2 : Instr.fill (fun i => some (i * k, k)) ((Array.range (len * k)).map fun m => (if len * k = 0 then (#[] : Array Value) else zv.cells)[m % (if len * k = 0 then (#[] : Array Value) else zv.cells).size]!) (parts.map fun (i, x) => (i, a.eval x)).toList = some cells' := by
              rw [← e1]; congr 1; simp
            have hbig : ¬ (16777216 < len * k) := by omega
            have hzv' : (zeroValue el).run E.P w = .ok zv w := by simp [zeroValue, typeInfo, hi, hzv]
            simp only [Instr.buildSlice, Sem.run_bind, run_underlying hu, Result.andThen_ok, size_run hs]
            rw [if_neg (by omega), hlen]
            by_cases hz0 : len * k = 0
            · simp only [if_pos hz0] at e2 ⊢
              simp only [pure_bind, e2, newRow, Sem.run_bind, run_newObj, Result.andThen_ok, Sem.run_pure]
              rfl
            · simp only [if_neg hz0] at e2 ⊢
              simp only [Sem.run_bind, hzv', Result.andThen_ok, pure_bind, e2, newRow, run_newObj, Sem.run_pure]
              rfl
          · have hcs : cells'.size = rows.length * k := by have := r2.1; simpa using this
            simpa using Rep.osl (ok := ok) (w := w.alloc (.cells cells' el)) G' S.h.n 0 rows.length rows.length _ hG (Nat.le_refl _) (by simp [hcs])
        · cases e
      · cases e
    · cases e
  · cases e
theorem makeSlice_does (I : Inv F G ok w S.h) (R : RelT G ok w S a) (hg : Globs E.gl ok w) (t : TypeId) (l c : Operand) (ho : o.op = .makeSlice t l c) (e : opA E S (.makeSlice t l c) = .val v h') : Does E F G ok w o a v h' := by
  simp only [opA] at e
  split at e
  · rename_i k el k1 n k2 m hel hl hc
    obtain ⟨hu, hs⟩ := elT_spec hel
    split at e
    · rename_i z i hz hi
      obtain ⟨i', zv, hi', hzv, hz', h1⟩ := zeroT_spec hz
      rw [hi] at hi'; cases hi'
      split at e
      · rename_i hk
        obtain ⟨hk, rfl, h0, hb, hmax⟩ := hk
        have hvk : zv.cells.size = k := by rw [hz'] at hk; simpa using hk
        have rl := ev_rep R hg l
        have rc := ev_rep R hg c
        rw [hl] at rl
        rw [hc] at rc
        have el1 : a.eval l = .int k1 n := by generalize a.eval l = y at rl; cases rl; rfl
        have ec1 : a.eval c = .int k2 n := by generalize a.eval c = y at rc; cases rc; rfl
        have rz := rowsIn_zero (P := E.P) (t := el) (i := i) ok w G (n := n.toNat) hz' h1 hk
        have hw : IntKind.i64.wrap n = n := by simp only [IntKind.wrap, IntKind.bits, IntKind.signed]; simp; omega
        have hstart : RowsIn ok w G k ((Array.range (n.toNat * k)).map fun m => (if n.toNat * k = 0 then (#[] : Array Value) else zv.cells)[m % (if n.toNat * k = 0 then (#[] : Array Value) else zv.cells).size]!).toList (List.replicate n.toNat z) := by
          by_cases h0 : n.toNat * k = 0
          · have : (List.range (n.toNat * k)).map (fun m => zv.cells[m % k]?.getD undef) = [] := by rw [h0]; rfl
            rw [this] at rz
            simpa [h0] using rz
          · rw [if_neg h0, zeros_eq zv k n.toNat hvk]; exact rz
        refine does_new I (t := el) (x := .slice (some ⟨w.heap.size, 0, none⟩) n.toNat n.toNat) hstart ?_ (fun G' hG => ?_) e
        · unfold execOp
          rw [ho]
          have hzv' : (zeroValue el).run E.P w = .ok zv w := by simp [zeroValue, typeInfo, hi, hzv]
          simp only [Instr.makeSlice, Sem.run_bind, run_underlying hu, Result.andThen_ok, el1, ec1, asInt, asIntOf, Sem.run_pure, typeInfo, run_program, hi, hw, pure_bind]
          rw [if_neg (by simp; omega)]
          simp only [Sem.run_bind, run_askRoom, Result.andThen_ok, size_run hs]
          by_cases hz0 : n.toNat * k = 0
          · simp only [if_pos hz0]
            simp only [pure_bind, newRow, Sem.run_bind, run_newObj, Result.andThen_ok, Sem.run_pure]
            rfl
          · simp only [if_neg hz0]
            simp only [Sem.run_bind, hzv', Result.andThen_ok, pure_bind, newRow, run_newObj, Sem.run_pure]
            rfl
        · have hcs := hstart.1
          simp only [Array.length_toList, List.length_replicate] at hcs
          simpa using Rep.osl (ok := ok) (w := w.alloc (.cells _ el)) G' S.h.n 0 n.toNat n.toNat _ hG (Nat.le_refl _) (by simp)
      · cases e
    · cases e
  · cases e
end
end Go.Proofs.YthahgmncnbeddaaGreatDoorA
/- Every operation that is known does what is told of it (further). -/
set_option linter.unusedVariables false
set_option linter.unusedSimpArgs false
namespace Go.Proofs.YthahgmncnbeddaaGreatDoorA
open Go Go.RowKit
theorem fldT_spec {P : Program} {s f off t : Nat} (h : fldT P s f = some (off, t)) : ∃ fs fd, P.underlying s = some (.struct fs) ∧ fs[f]? = some fd ∧ fd.offset = off ∧ fd.type = t ∧ ∃ n, szT P fd.type = some (n + 1) := by
  unfold fldT at h
  split at h
  · rename_i fs hu
    split at h
    · rename_i fd hf
      split at h
      · rename_i n hn
        cases h
        exact ⟨fs, fd, hu, hf, rfl, rfl, n, hn⟩
      · cases h
    · cases h
  · cases h
theorem part_ok {P : Program} {ok : Okc} {w : World} {G : Gh} {t n c : Nat} {ag : Bool} {cs : Array Value} {row : List AV} {v : AV} (ha : aggT P t = some ag) (hs : szT P t = some n) (hl : cs.size = row.length)
    (hr : ∀ (j : Nat) u a, cs[j]? = some u → row[j]? = some a → Rep ok w G u a) (hp : part ag n row c = some v) : ∃ x, (_root_.Go.part t cs c).run P w = .ok x w ∧ Rep ok w G x v := by
  unfold part at hp
  cases ag with
  | true =>
    simp only [if_true] at hp
    split at hp
    · rename_i hle
      cases hp
      refine ⟨.agg (cs.extract c (c + n)), by simp [_root_.Go.part, agg_run ha, size_run hs], .agg _ _ _ (by simp; omega) (fun j u b hj hb => ?_)⟩
      rw [List.getElem?_take] at hb
      split at hb
      · rw [List.getElem?_drop] at hb
        rw [Array.getElem?_extract] at hj
        split at hj
        · exact hr _ u b hj hb
        · cases hj
      · cases hb
    · cases hp
  | false =>
    simp only [Bool.false_eq_true, if_false] at hp
    have hlt : c < cs.size := by have := lt_of_get hp; omega
    exact ⟨cs[c], by simp [_root_.Go.part, agg_run ha, hlt], hr c _ v (by simp [hlt]) hp⟩
section
variable {E : Env} {F : Fr} {G : Gh} {ok : Okc} {w : World} {S : St} {a : Act} {o : Oper} {v : AV} {h' : Hp}
theorem of_run {s : Sem Value} {x : Value} (I : Inv F G ok w S.h) (he : execOp a.eval o = (do Pure.pure (.value (← s)))) (hs : s.run E.P w = .ok x w) (r : Rep ok w G x v) (hh : h' = S.h) : Does E F G ok w o a v h' := by
  subst hh
  exact .pure I (x := x) (by rw [he, Sem.run_bind, hs]; rfl) r
theorem mm_run {lo : Bool} : ∀ {xs : List Value} {as : List AV} {x : Value} {a v : AV}, xs.length = as.length → Rep ok w G x a → (∀ (j : Nat) u b, xs[j]? = some u → as[j]? = some b → Rep ok w G u b) → mmA lo a as = some v → ∃ y, (xs.foldlM (if lo then Builtin.min2 else Builtin.max2) x).run E.P w = .ok y w ∧ Rep ok w G y v
  | [], [], x, a, v, _, r, _, e => by
    cases a <;> first | (cases e; done) | skip
    cases e
    exact ⟨x, rfl, r⟩
  | u :: xs, b :: as, x, a, v, hl, r, hr, e => by
    cases a <;> first | (cases e; done) | skip
    rename_i k n
    cases b <;> first | (cases e; done) | skip
    rename_i k' n'
    have r2 := hr 0 u _ rfl rfl
    cases r
    cases r2
    rw [List.foldlM_cons, Sem.run_bind]
    cases lo
    · simp only [mmA] at e
      obtain ⟨y, h1, h2⟩ := mm_run (lo := false) (by simpa using hl) (Rep.i G k (if n < n' then n' else n)) (fun j u b h1 h2 => hr (j + 1) u b (by simpa using h1) (by simpa using h2)) e
      exact ⟨y, h1, h2⟩
    · simp only [mmA] at e
      obtain ⟨y, h1, h2⟩ := mm_run (lo := true) (by simpa using hl) (Rep.i G k (if n' < n then n' else n)) (fun j u b h1 h2 => hr (j + 1) u b (by simpa using h1) (by simpa using h2)) e
      exact ⟨y, h1, h2⟩
theorem blt_does (I : Inv F G ok w S.h) (R : RelT G ok w S a) (hg : Globs E.gl ok w) {b : Builtin} {args : Array Operand} {ts : Array TypeId} (ho : o.op = .call ⟨.builtin b, args, ts⟩) (e : bltA E S b ts (args.toList.map (ev E S)) = .val v h') : Does E F G ok w o a v h' := by
  unfold bltA at e
  split at e
  · rename_i x hx
    obtain ⟨o1, rfl, rfl⟩ : ∃ o1, args = #[o1] ∧ ev E S o1 = x := by
      obtain ⟨l⟩ := args
      match l, hx with
      | [o1], hx => exact ⟨o1, rfl, by simpa using hx⟩
    have he : execOp a.eval o = (do Pure.pure (.value (← Builtin.len_ ts o.type #[a.eval o1]))) := by
      unfold execOp; rw [ho]; simp [resolve, invoke, builtin]
    have r := ev_rep R hg o1
    split at e
    · rename_i t ht
      split at e
      · rename_i hu
        split at e
        · rename_i l hl
          cases e
          rw [hl] at r
          generalize hy : a.eval o1 = y at r he
          cases r with
          | s _ x => exact of_run I he (x := .int .i64 x.size) (by simp [Builtin.len_, ht, run_underlying hu, goInt]) (by rw [size_str]; exact .i ..) rfl
        · cases e
      · rename_i n el hu
        cases e
        exact of_run I he (x := .int .i64 n) (by simp [Builtin.len_, ht, run_underlying hu, goInt]) (.i ..) rfl
      · rename_i el hu
        have hns : ∀ y, ev E S o1 ≠ .s y := fun y q => by rw [q] at e; cases e
        split at e
        · cases e
        · split at e
          · rename_i n hn
            cases e
            exact of_run I he (lenA_run hu r hn hns ts ht) (.i ..) rfl
          · cases e
      · cases e
    · cases e
  · rename_i s x hx
    obtain ⟨o1, o2, rfl, rfl, rfl⟩ : ∃ o1 o2, args = #[o1, o2] ∧ ev E S o1 = s ∧ ev E S o2 = x := by
      obtain ⟨l⟩ := args
      match l, hx with
      | [o1, o2], hx => exact ⟨o1, o2, rfl, by simpa using hx⟩
    have he : execOp a.eval o = (do Pure.pure (.value (← Builtin.append_ ts o.type #[a.eval o1, a.eval o2]))) := by
      unfold execOp; rw [ho]; simp [resolve, invoke, builtin]
    split at e
    · rename_i t u ht hu
      split at e
      · rename_i k el d hel hd
        split at e
        · cases e
        · rename_i d i z hnd hi hz
          split at e
          · rename_i hzk
            obtain ⟨y, w', G', ok', hrun, hA, hI, hr⟩ := app_does (ty := o.type) I ht hu hel hd (fun k q => hnd k q) hi hz hzk (ev_rep R hg o1) (ev_rep R hg o2) (fun u q => by cases hq : u8T E.P el <;> rw [hq] at q <;> cases q; rfl) e
            exact ⟨_, y, w', G', ok', by rw [he, Sem.run_bind, hrun]; rfl, .inl rfl, hA, hI, hr⟩
          · cases e
        · cases e
      · cases e
    · cases e
  · rename_i x l hx
    obtain ⟨o1, os, rfl, rfl, rfl⟩ : ∃ o1 os, args = ⟨o1 :: os⟩ ∧ ev E S o1 = x ∧ os.map (ev E S) = l := by
      obtain ⟨l⟩ := args
      match l, hx with
      | o1 :: os, hx => exact ⟨o1, os, rfl, by simpa using hx⟩
    obtain ⟨hm, hh⟩ := OR.of_val e
    obtain ⟨y, hy, ry⟩ := mm_run (E := E) (w := w) (lo := true) (xs := os.map a.eval) (as := os.map (ev E S)) (by simp) (ev_rep R hg o1) (fun j u b h1 h2 => by
      rw [List.getElem?_map] at h1 h2
      cases ho1 : os[j]? with
      | none => rw [ho1] at h1; cases h1
      | some o2 => rw [ho1] at h1 h2; cases h1; cases h2; exact ev_rep R hg o2) hm
    have he : execOp a.eval o = (do Pure.pure (.value (← Builtin.min_ ts o.type (#[a.eval o1] ++ (os.map a.eval).toArray)))) := by
      unfold execOp; rw [ho]; simp [resolve, invoke, builtin]
    refine of_run I he (x := y) ?_ ry hh
    simpa [Builtin.min_] using hy
  · rename_i x l hx
    obtain ⟨o1, os, rfl, rfl, rfl⟩ : ∃ o1 os, args = ⟨o1 :: os⟩ ∧ ev E S o1 = x ∧ os.map (ev E S) = l := by
      obtain ⟨l⟩ := args
      match l, hx with
      | o1 :: os, hx => exact ⟨o1, os, rfl, by simpa using hx⟩
    obtain ⟨hm, hh⟩ := OR.of_val e
    obtain ⟨y, hy, ry⟩ := mm_run (E := E) (w := w) (lo := false) (xs := os.map a.eval) (as := os.map (ev E S)) (by simp) (ev_rep R hg o1) (fun j u b h1 h2 => by
      rw [List.getElem?_map] at h1 h2
      cases ho1 : os[j]? with
      | none => rw [ho1] at h1; cases h1
      | some o2 => rw [ho1] at h1 h2; cases h1; cases h2; exact ev_rep R hg o2) hm
    have he : execOp a.eval o = (do Pure.pure (.value (← Builtin.max_ ts o.type (#[a.eval o1] ++ (os.map a.eval).toArray)))) := by
      unfold execOp; rw [ho]; simp [resolve, invoke, builtin]
    refine of_run I he (x := y) ?_ ry hh
    simpa [Builtin.max_] using hy
  · cases e
theorem bytes_does (I : Inv F G ok w S.h) {src dst e : TypeId} {x : Operand} {s : ByteArray} (ho : o.op = .convert src dst x) (hs : E.P.underlying src = some .string) (hd : E.P.underlying dst = some (.slice e)) (hu8 : u8T E.P e = true) (hx : a.eval x = .string s)
    (he : newA S.h 1 (s.data.toList.map fun b => [.i .u8 b.toNat]) (fun id => .osl id 0 s.data.toList.length) = .val v h') : Does E F G ok w o a v h' := by
  have hel : E.P.underlying e = some (.int .u8) := by
    unfold u8T at hu8
    split at hu8
    · rename_i k hk
      rw [hk, of_decide_eq_true hu8]
    · cases hu8
  unfold newA at he
  cases he
  generalize hcap : grownCap w s.size 0 e = cap
  have hge : s.size ≤ cap := by rw [← hcap]; exact grownCap_ge ..
  let A : Array Value := s.data.map (fun b => Value.int .u8 b.toNat) ++ Array.replicate (cap - s.size) (.int .u8 0)
  have hA : A.size = cap := by simp [A]; omega
  obtain ⟨A1, I1⟩ := I.drawn (w' := w.drew) rfl rfl rfl rfl
  have hrun : (execOp a.eval o).run E.P w = .ok (.value (.slice (some ⟨w.heap.size, 0, none⟩) s.size cap)) { w.drew with heap := w.heap.push (.cells A e (A.size, A.size + 1)) } := by
    unfold execOp
    rw [ho]
    have hf : ((w.drew.alloc (.cells A e)).freeze ⟨w.heap.size, A.size, none⟩ 1) = { w.drew with heap := w.heap.push (.cells A e (A.size, A.size + 1)) } := by
      unfold World.freeze
      rw [if_neg (by decide)]
      simp only [World.alloc, World.drew]
      congr 1
      apply Array.ext_getElem?
      intro i
      simp only [Array.getElem?_modify, Array.getElem?_push]
      by_cases hi : i = w.heap.size
      · subst hi; simp
      · rw [if_neg (Ne.symm hi), if_neg hi, if_neg hi]
    have hsh : (w.drew.alloc (.cells A e)).shape? w.heap.size = some (e, A.size) := by
      unfold World.shape?
      rw [show (w.drew.alloc (.cells A e)).heap[w.heap.size]? = some (.cells A e) from heap_alloc_new w.drew _]
    have hmark : (markStringish ⟨w.heap.size, 0, none⟩).run E.P (w.drew.alloc (.cells A e)) = .ok () { w.drew with heap := w.heap.push (.cells A e (A.size, A.size + 1)) } := by
      rw [← hf]
      simp [markStringish, hsh]
    have hcut : (Question.appendCap s.size 0 e).cut (w.tape w.drawn (.appendCap s.size 0 e)) = cap := hcap
    simp only [hx, Go.convert, Sem.run_bind, run_underlying hs, run_underlying hd, run_underlying hel, Result.andThen_ok, Conv.stringToBytes, run_choose, Question.forced, Bool.false_eq_true, if_false, newRow, run_newObj, Sem.run_pure, hcut]
    exact congrArg (fun r : Result Unit => (r.andThen fun _ w' => Result.ok (Value.slice (some ⟨w.heap.size, 0, none⟩) s.size cap) w').andThen fun a w' => Result.ok (Next.value a) w') hmark
  have al := I1.alloc (w' := { w.drew with heap := w.heap.push (.cells A e (A.size, A.size + 1)) }) rfl rfl rfl rfl (.inr (Nat.le_refl _)) none (fun u q => by cases q) 1 (s.data.toList.map fun b => [AV.i .u8 b.toNat]) (by simp) (by rw [hA]; simp; omega) (fun n row hn j b hj => by
    rw [List.getElem?_map] at hn
    cases hb : s.data.toList[n]? with
    | none => rw [hb] at hn; cases hn
    | some u =>
      rw [hb] at hn
      cases hn
      cases j with
      | succ j => cases hj
      | zero =>
        cases hj
        have hlt := lt_of_get hb
        refine ⟨.int .u8 u.toNat, ?_, .i .., rfl⟩
        rw [Nat.mul_one, Nat.add_zero, Array.getElem?_append_left (by simpa using hlt), Array.getElem?_map, ← Array.getElem?_toList, hb]
        rfl)
  refine ⟨_, _, _, _, ok, hrun, .inl rfl, A1.trans al.1, al.2, ?_⟩
  have := Rep.osl (ok := ok) (w := { w.drew with heap := w.heap.push (.cells A e (A.size, A.size + 1)) }) _ S.h.n 0 s.size cap _ (ext_new G S.h.n ⟨w.drew.heap.size, 0, 1, A.size⟩) hge (by simp [hA])
  rw [← size_str]
  simpa using this
theorem opA_does (I : Inv F G ok w S.h) (R : RelT G ok w S a) (hg : Globs E.gl ok w) (hn : ∀ f args ts, o.op ≠ .call ⟨.value f, args, ts⟩) (e : opA E S o.op = .val v h') : Does E F G ok w o a v h' := by
  cases ho : o.op with
  | move x => exact move_does I R hg x (.inl ho) (by rw [ho] at e; exact e)
  | assign x => exact move_does I R hg x (.inr ho) (by rw [ho] at e; exact e)
  | pick c x y =>
    rw [ho] at e
    simp only [opA] at e
    split at e
    · rename_i t ht
      cases e
      have rc := ev_rep R hg c
      rw [ht] at rc
      have hc : a.eval c = .bool t := by generalize a.eval c = q at rc; cases rc; rfl
      cases t with
      | true => exact .pure I (x := a.eval x) (by unfold execOp; rw [ho]; simp [hc, asBool]) (ev_rep R hg x)
      | false => exact .pure I (x := a.eval y) (by unfold execOp; rw [ho]; simp [hc, asBool]) (ev_rep R hg y)
    · cases e
  | alloc t => exact alloc_does I t ho (by rw [ho] at e; exact e)
  | box t x => exact box_does I R hg t x ho (by rw [ho] at e; exact e)
  | build t parts =>
    rw [ho] at e
    simp only [opA] at e
    split at e
    · rename_i z pl hz hp
      obtain ⟨e1, rfl⟩ := OR.of_val e
      cases hrow : partsA E S (plA pl) z parts.toList with
      | none => rw [hrow] at e1; cases e1
      | some row =>
        rw [hrow] at e1
        cases e1
        obtain ⟨y, hy, r⟩ := build_ok R hg hz hp hrow
        exact .pure I (x := y) (by unfold execOp; rw [ho]; simp only [Sem.run_bind, hy, Result.andThen_ok]; rfl) r
    · cases e
  | buildSlice t n parts => exact buildSlice_does I R hg t n parts ho (by rw [ho] at e; exact e)
  | load t x =>
    rw [ho] at e
    obtain ⟨e1, rfl⟩ := OR.of_val e
    obtain ⟨y, hy, r⟩ := load_ok (P := E.P) I (ev_rep R hg x) e1
    exact .pure I (x := y) (by unfold execOp; rw [ho]; simp only [Sem.run_bind, hy, Result.andThen_ok]; rfl) r
  | store t x y =>
    rw [ho] at e
    obtain ⟨rfl, w', hy, hA, hI⟩ := store_does (E := E) I (ev_rep R hg x) (ev_rep R hg y) e
    exact ⟨.skip, undef, w', G, ok, by unfold execOp; rw [ho]; simp only [Sem.run_bind, hy, Result.andThen_ok]; rfl, .inr ⟨rfl, rfl⟩, hA, hI, .tup _ #[] [] rfl (fun j v a h => by simp at h)⟩
  | nilCheck x =>
    rw [ho] at e
    have r := ev_rep R hg x
    simp only [opA] at e
    split at e <;> first
      | (cases e; done)
      | skip
    all_goals
      rename_i h1
      cases e
      rw [h1] at r
      refine .pure I (x := a.eval x) ?_ r
      generalize hq : a.eval x = q at r
      simp only [execOp, ho, hq]
      cases r <;> rfl
  | binOp op t x y yt =>
    rw [ho] at e
    obtain ⟨e1, rfl⟩ := OR.of_val e
    unfold binO at e1
    split at e1
    · obtain ⟨z, hz, r⟩ := niA_run (P := E.P) (op := op) (t := t) (ev_rep R hg x) e1 x
      exact .pure I (x := z) (by unfold execOp; rw [ho]; simp only [Sem.run_bind] at hz ⊢; rw [show a.eval (.const .nilIface) = .nilIface from rfl, hz]; rfl) r
    · obtain ⟨z, hz, r⟩ := bin_run (P := E.P) (ev_rep R hg x) (ev_rep R hg y) e1 x y
      exact .pure I (x := z) (by unfold execOp; rw [ho]; simp only [Sem.run_bind] at hz ⊢; rw [hz]; rfl) r
  | unOp op t x =>
    rw [ho] at e
    obtain ⟨e1, rfl⟩ := OR.of_val e
    obtain ⟨z, hz, r⟩ := un_run (P := E.P) (ev_rep R hg x) e1
    exact .pure I (x := z) (by unfold execOp; rw [ho]; simp only [Sem.run_bind, hz, Result.andThen_ok]; rfl) r
  | convert src dst x =>
    rw [ho] at e
    have r := ev_rep R hg x
    simp only [opA] at e
    split at e
    · rename_i k1 k k2 n hs hd hx
      cases e
      rw [hx] at r
      have hc : a.eval x = .int k2 n := by generalize a.eval x = q at r; cases r; rfl
      exact .pure I (x := .int k (k.wrap n)) (by unfold execOp; rw [ho]; simp only [hc, Go.convert, Sem.run_bind, run_underlying hs, run_underlying hd, Result.andThen_ok, Conv.intToInt]; rfl) (.i ..)
    · rename_i l hs hd hx
      cases e
      rw [hx] at r
      refine .pure I (x := a.eval x) ?_ r
      generalize hq : a.eval x = q at r
      simp only [execOp, ho, hq]
      cases r
      simp only [Go.convert, Sem.run_bind, run_underlying hs, run_underlying hd, Result.andThen_ok]
      rfl
    · rename_i el l hs hd hx
      split at e
      · rename_i hel
        rw [hx] at r
        generalize hq : a.eval x = q at r
        cases r with
        | s _ s => exact bytes_does I ho hs hd hel hq e
      · cases e
    · cases e
  | makeInterface t x =>
    rw [ho] at e
    simp only [opA] at e
    split at e
    · rename_i d hi hu
      cases e
      refine .pure I (x := .iface t (a.eval x)) ?_ (.ifc _ _ _ _ (ev_rep R hg x))
      unfold execOp
      rw [ho]
      simp only [Instr.makeInterface, Sem.run_bind, run_underlying hu, Result.andThen_ok]
      unfold ifcT at hi
      rw [hu] at hi
      cases d <;> first | rfl | cases hi
    · cases e
  | makeFunc fn x y =>
    rw [ho] at e
    cases fn with
    | func f =>
      cases e
      refine .pure I (x := .func (.func f) (x.map a.eval) (y.map a.eval)) (by unfold execOp; rw [ho]; rfl) (.fn _ _ _ _ _ _ (by simp) (by simp) (fun j u b hj hb => ?_) (fun j u b hj hb => ?_))
      all_goals
        rw [Array.getElem?_map] at hj
        rw [List.getElem?_map, Array.getElem?_toList] at hb
        first
          | (cases hq : x[j]? with
             | none => rw [hq] at hj; cases hj
             | some q => rw [hq] at hj hb; cases hj; cases hb; exact ev_rep R hg q)
          | (cases hq : y[j]? with
             | none => rw [hq] at hj; cases hj
             | some q => rw [hq] at hj hb; cases hj; cases hb; exact ev_rep R hg q)
    | _ => cases e
  | makeSlice t l c => exact makeSlice_does I R hg t l c ho (by rw [ho] at e; exact e)
  | slice t x lo hi mx =>
    rw [ho] at e
    cases mx with
    | some m => cases e
    | none =>
    have r := ev_rep R hg x
    have bl : ∀ {d : Nat} {b : Option Operand} {n : Int}, bndA d S E b = some n → (b.map a.eval = none ∧ n = d) ∨ ∃ k, b.map a.eval = some (.int k n) := fun h => by
      rcases bnd_run R hg h with ⟨rfl, q⟩ | ⟨y, k, rfl, q⟩
      · exact .inl ⟨rfl, q⟩
      · exact .inr ⟨k, by simp [q]⟩
    have he : execOp a.eval o = (do Pure.pure (.value (← Instr.sliceAt t (a.eval x) (lo.map a.eval) (hi.map a.eval) none))) := by
      unfold execOp; rw [ho]; rfl
    simp only [opA] at e
    split at e
    · rename_i hu
      split at e
      · rename_i l hx
        split at e
        · rename_i n m hl hh
          obtain ⟨e1, e2⟩ := OR.of_val e
          rw [hx] at r
          generalize a.eval x = q at r he
          cases r with
          | s _ q =>
          obtain ⟨z, hz, rz⟩ := sl_str (P := E.P) (ok := ok) (w := w) (G := G) hu ((bl hl).imp (fun q => ⟨q.1, by simpa using q.2⟩) id) ((bl hh).imp (fun q => ⟨q.1, by rw [size_str]; exact q.2⟩) id) e1
          exact of_run I he hz rz e2
        · cases e
      · cases e
    · rename_i el hu
      have hns : ∀ y, ev E S x ≠ .s y := fun y q => by rw [q] at e; cases e
      split at e
      · cases e
      · rename_i k hk _
        split at e
        · rename_i n hn
          split at e
          · rename_i n1 m1 hl hh
            obtain ⟨e1, e2⟩ := OR.of_val e
            obtain ⟨z, hz, rz⟩ := sl_run (P := E.P) I hu hk r hn ((bl hl).imp (fun q => ⟨q.1, by simpa using q.2⟩) id) (bl hh) hns e1
            exact of_run I he hz rz e2
          · cases e
        · cases e
      · cases e
    · cases e
  | fieldAddr s x f =>
    rw [ho] at e
    have r := ev_rep R hg x
    simp only [opA] at e
    have key : ∀ (b c off t : Nat), fldT E.P s f = some (off, t) → a.eval x = .pointer (some ⟨b, c, none⟩) → (execOp a.eval o).run E.P w = .ok (.value (.pointer (some ⟨b, c + off, none⟩))) w := fun b c off t hf hx => by
      obtain ⟨fs, fd, hu, hfd, rfl, rfl, n, hn⟩ := fldT_spec hf
      unfold execOp
      rw [ho]
      simp [Instr.fieldAt, run_underlying hu, hfd, hx, Instr.sureAddr, fieldPlace, size_run hn, add_off]
    split at e
    · rename_i off t id rr c hf hx
      cases e
      rw [hx] at r
      generalize hq : a.eval x = q at r
      cases r with
      | ptr _ _ _ _ p hp => exact .pure I (key _ _ _ _ hf hq) (by rw [Nat.add_assoc]; exact .ptr G id rr _ p hp)
    · rename_i off t row c hf hx
      cases e
      rw [hx] at r
      generalize hq : a.eval x = q at r
      cases r with
      | ip _ _ _ bb o1 vs h1 h2 => exact .pure I (key _ _ _ _ hf hq) (by rw [Nat.add_assoc]; exact .ip G row _ bb o1 vs h1 h2)
    · cases e
  | field s x f =>
    rw [ho] at e
    have r := ev_rep R hg x
    simp only [opA] at e
    split at e
    · rename_i off t cs hf hx
      split at e
      · rename_i ag n ha hn
        obtain ⟨e1, rfl⟩ := OR.of_val e
        rw [hx] at r
        generalize hq : a.eval x = q at r
        cases r with
        | agg _ vs _ hl hr =>
        obtain ⟨y, hy, ry⟩ := part_ok (P := E.P) ha hn hl hr e1
        obtain ⟨fs, fd, hu, hfd, rfl, rfl, _⟩ := fldT_spec hf
        exact .pure I (x := y) (by unfold execOp; rw [ho]; simp [Instr.field, run_underlying hu, hfd, hq, asAgg, hy]) ry
      · cases e
    · cases e
  | indexAddr t x ix =>
    rw [ho] at e
    simp only [opA] at e
    split at e
    · rename_i ik i hi
      have ri := ev_rep R hg ix
      rw [hi] at ri
      have hc : a.eval ix = .int ik i := by generalize a.eval ix = q at ri; cases ri; rfl
      have he : execOp a.eval o = (do Pure.pure (.value (← Instr.indexAt t (a.eval x) (.int ik i)))) := by
        unfold execOp; rw [ho, ← hc]
      split at e
      · rename_i k el hel
        obtain ⟨e1, e2⟩ := OR.of_val e
        obtain ⟨z, hz, rz⟩ := idx_run (P := E.P) (ik := ik) I hel (ev_rep R hg x) e1
        exact of_run I he hz rz e2
      · split at e
        · rename_i n k har
          obtain ⟨e1, e2⟩ := OR.of_val e
          obtain ⟨z, hz, rz⟩ := ar_run (P := E.P) (ik := ik) har (ev_rep R hg x) e1
          exact of_run I he hz rz e2
        · cases e
    · cases e
  | index t x ix =>
    rw [ho] at e
    simp only [opA] at e
    split at e
    · rename_i ik i l hi hx
      have ri := ev_rep R hg ix
      rw [hi] at ri
      have hc : a.eval ix = .int ik i := by generalize a.eval ix = q at ri; cases ri; rfl
      have r := ev_rep R hg x
      rw [hx] at r
      split at e
      · rename_i hu
        split at e
        · rename_i h0
          split at e
          · rename_i b hb
            cases e
            generalize hq : a.eval x = q at r
            cases r with
            | s _ q =>
            have hb' : q[i.toNat]? = some b := by
              have hlt := lt_of_get hb
              rw [← size_str] at hlt
              rw [List.getElem?_eq_getElem (by rw [← size_str]; exact hlt)] at hb
              rw [getElem?_pos q i.toNat hlt]
              cases hb
              rfl
            exact .pure I (x := .int .u8 b.toNat) (by unfold execOp; rw [ho]; simp [Instr.index, hc, hq, asIntOf, run_underlying hu, h0, hb']) (.i ..)
          · cases e
        · cases e
      · cases e
    · rename_i ik i cs hi hx
      have ri := ev_rep R hg ix
      rw [hi] at ri
      have hc : a.eval ix = .int ik i := by generalize a.eval ix = q at ri; cases ri; rfl
      have r := ev_rep R hg x
      rw [hx] at r
      split at e
      · rename_i n el hu
        split at e
        · rename_i ag k ha hk
          split at e
          · rename_i h0
            obtain ⟨e1, rfl⟩ := OR.of_val e
            generalize hq : a.eval x = q at r
            cases r with
            | agg _ vs _ hl hr =>
            obtain ⟨y, hy, ry⟩ := part_ok (P := E.P) ha hk hl hr e1
            exact .pure I (x := y) (by unfold execOp; rw [ho]; simp [Instr.index, hc, hq, asIntOf, run_underlying hu, h0, size_run hk, hy]) ry
          · cases e
        · cases e
      · cases e
    · cases e
  | extract x i =>
    rw [ho] at e
    have r := ev_rep R hg x
    simp only [opA] at e
    split at e
    · rename_i cs hx
      obtain ⟨e1, rfl⟩ := OR.of_val e
      rw [hx] at r
      generalize hq : a.eval x = q at r
      cases r with
      | tup _ vs _ hl hr =>
      have hlt : i < vs.size := by have := lt_of_get e1; omega
      exact .pure I (x := vs[i]) (by unfold execOp; rw [ho]; simp [Instr.extract, hq, hlt]) (hr i _ v (by simp [hlt]) e1)
    · cases e
  | call c =>
    rw [ho] at e
    obtain ⟨callee, args, ts⟩ := c
    cases callee with
    | builtin b => exact blt_does I R hg ho e
    | value f => exact absurd ho (hn f args ts)
    | invoke r m => cases e
  | typeAssert x xt at' ok' =>
    rw [ho] at e
    have r := ev_rep R hg x
    simp only [opA] at e
    split at e
    · rename_i d t u hi hu hx
      split at e
      · rename_i ht
        subst ht
        cases e
        rw [hx] at r
        generalize hq : a.eval x = q at r
        cases r with
        | ifc _ _ y _ ry =>
          have hd : ∀ ms, d ≠ .interface ms := fun ms q => by unfold ifcT at hi; rw [hu, q] at hi; cases hi
          have hrun : (Instr.typeAssert (.iface t y) xt t ok').run E.P w = .ok (if ok' then .tuple #[y, .bool true] else y) w := by
            unfold Instr.typeAssert
            simp only [Sem.run_bind, run_underlying hu, Result.andThen_ok]
            cases d <;> first
              | exact absurd rfl (hd _)
              | (simp; done)
          refine .pure I (x := if ok' then .tuple #[y, .bool true] else y) (by unfold execOp; rw [ho]; simp only [hq, Sem.run_bind, hrun, Result.andThen_ok]; rfl) ?_
          cases ok' with
          | true =>
            refine .tup _ _ _ (by simp) (fun j v c e e' => ?_)
            match j, e, e' with
            | 0, e, e' => cases e; cases e'; exact ry
            | 1, e, e' => cases e; cases e'; exact .b ..
            | n + 2, e, e' => simp at e
          | false => exact ry
      · cases e
    · cases e
  | panic x =>
    rw [ho] at e
    simp only [opA] at e
    split at e <;> cases e
  | _ => rw [ho] at e; cases e
end
end Go.Proofs.YthahgmncnbeddaaGreatDoorA
