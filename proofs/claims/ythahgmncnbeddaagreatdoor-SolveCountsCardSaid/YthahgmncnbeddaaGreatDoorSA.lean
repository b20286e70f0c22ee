/- Days of an interval; the n-th days of months, in plain lists. -/
import Derived.Test.YthahgmncnbeddaaGreatDoorMH
import Derived.Test.YthahgmncnbeddaaGreatDoorNA
import Derived.Test.YthahgmncnbeddaaGreatDoorND
set_option linter.unusedVariables false
set_option linter.unusedSimpArgs false
namespace Go.Proofs.YthahgmncnbeddaaGreatDoorA
open Go Go.RowKit Go.Proofs
def fil (g : Int → Bool) (lo : Int) : Nat → List Int
  | 0 => []
  | n + 1 => fil g lo n ++ (if g (lo + n) then [lo + n] else [])
theorem fil_mem {g : Int → Bool} {lo : Int} : ∀ {n : Nat} {x : Int}, x ∈ fil g lo n ↔ lo ≤ x ∧ x < lo + n ∧ g x = true
  | 0, x => by simp [fil]; omega
  | n + 1, x => by
    simp only [fil, List.mem_append, fil_mem (n := n)]
    by_cases h : g (lo + n) = true
    · rw [if_pos h, List.mem_singleton]
      constructor
      · rintro (⟨h1, h2, h3⟩ | rfl)
        · exact ⟨h1, by omega, h3⟩
        · exact ⟨by omega, by omega, h⟩
      · rintro ⟨h1, h2, h3⟩
        by_cases q : x = lo + n
        · exact .inr q
        · exact .inl ⟨h1, by omega, h3⟩
    · rw [if_neg h]
      constructor
      · rintro (⟨h1, h2, h3⟩ | q)
        · exact ⟨h1, by omega, h3⟩
        · cases q
      · rintro ⟨h1, h2, h3⟩
        refine .inl ⟨h1, ?_, h3⟩
        have : x ≠ lo + n := by rintro rfl; exact h h3
        omega
theorem fil_add {g : Int → Bool} {lo : Int} (a : Nat) : ∀ b : Nat, fil g lo (a + b) = fil g lo a ++ fil g (lo + a) b
  | 0 => by simp [fil]
  | b + 1 => by
    rw [← Nat.add_assoc]
    simp only [fil, fil_add a b]
    rw [show lo + ((a + b : Nat) : Int) = lo + (a : Int) + b by omega, List.append_assoc]
theorem fil_none {g : Int → Bool} {lo : Int} : ∀ {n : Nat}, (∀ x, lo ≤ x → x < lo + n → g x = false) → fil g lo n = []
  | 0, _ => rfl
  | n + 1, h => by
    simp only [fil]
    rw [fil_none (fun x h1 h2 => h x h1 (by omega)), h (lo + n) (by omega) (by omega)]
    rfl
theorem fil_congr {g g' : Int → Bool} {lo : Int} : ∀ {n : Nat}, (∀ x, lo ≤ x → x < lo + n → g x = g' x) → fil g lo n = fil g' lo n
  | 0, _ => rfl
  | n + 1, h => by
    simp only [fil]
    rw [fil_congr (fun x h1 h2 => h x h1 (by omega)), h (lo + n) (by omega) (by omega)]
theorem fil_len {g : Int → Bool} {lo : Int} : ∀ n : Nat, (fil g lo n).length ≤ n
  | 0 => by simp [fil]
  | n + 1 => by
    have := fil_len (g := g) (lo := lo) n
    simp only [fil, List.length_append]
    split <;> simp <;> omega
/-- The part of an interval in which anything is. -/
theorem fil_part {g : Int → Bool} {lo : Int} {N i k : Nat} (hik : i ≤ k) (hk : k ≤ N) (h1 : ∀ x, lo ≤ x → x < lo + i → g x = false) (h2 : ∀ x, lo + k ≤ x → x < lo + N → g x = false) : fil g lo N = fil g (lo + i) (k - i) := by
  obtain ⟨a, rfl⟩ : ∃ a, k = i + a := ⟨k - i, by omega⟩
  obtain ⟨b, rfl⟩ : ∃ b, N = i + a + b := ⟨N - (i + a), by omega⟩
  rw [fil_add, fil_add, fil_none h1, fil_none (fun x q1 q2 => h2 x q1 (by omega)), List.append_nil, List.nil_append, Nat.add_sub_cancel_left]
/-- The same days, reckoned from two intervals. -/
theorem fil_two {g : Int → Bool} {lo lo' : Int} {N N' : Nat} (h1 : ∀ x, g x = true → (lo ≤ x ∧ x < lo + N)) (h2 : ∀ x, g x = true → (lo' ≤ x ∧ x < lo' + N')) : fil g lo N = fil g lo' N' := by
  have key : ∀ (a : Int) (n : Nat) (b : Int) (k : Nat), a ≤ b → b + k ≤ a + n → (∀ x, g x = true → (b ≤ x ∧ x < b + k)) → fil g a n = fil g b k := by
    intro a n b k q1 q2 q3
    have := fil_part (g := g) (lo := a) (N := n) (i := (b - a).toNat) (k := (b - a).toNat + k) (by omega) (by omega) (fun x h1 h2 => by
      cases hx : g x with
      | false => rfl
      | true => have := q3 x hx; omega) (fun x h1 h2 => by
      cases hx : g x with
      | false => rfl
      | true => have := q3 x hx; omega)
    rw [this, show a + ((b - a).toNat : Int) = b by omega, Nat.add_sub_cancel_left]
  have e1 := key (min lo lo') ((max (lo + N) (lo' + N')) - min lo lo').toNat lo N (by omega) (by omega) h1
  have e2 := key (min lo lo') ((max (lo + N) (lo' + N')) - min lo lo').toNat lo' N' (by omega) (by omega) h2
  rw [← e1, e2]
/-- The n-th one from the beginning or from the end. -/
def selN (A : Int) (k : Nat) : Int := if A < 0 then (k : Int) + A else A - 1
def sel (A : Int) (l : List Int) : Option Int := if 0 ≤ selN A l.length then l[(selN A l.length).toNat]? else none
theorem sel_mem {A : Int} {l : List Int} {x : Int} (h : sel A l = some x) : x ∈ l := by
  unfold sel at h
  split at h
  · exact List.mem_of_getElem? h
  · cases h
/-- The days that share the month of x, and belong to K. -/
def moF (D : Int → Int × Int) (K : Int → Bool) (x z : Int) : Bool := decide (D z = D x) && K z
def nthS (D : Int → Int × Int) (K : Int → Bool) (A B x : Int) : Bool :=
  decide ((D x).2 ≠ 0) && (decide (B = 0) || decide ((D x).2 = B)) && decide (sel A (fil (moF D K x) (x - 400) 801) = some x)
/-- Months lie together, and are not long. -/
structure Lie (D : Int → Int × Int) : Prop where
  near : ∀ x z, D z = D x → (D x).2 ≠ 0 → z < x + 400
  mid : ∀ x z w, D z = D x → (D x).2 ≠ 0 → x ≤ w → w ≤ z → D w = D x
variable {D : Int → Int × Int} {K : Int → Bool} {A B : Int}
/-- A run of equal months, seen whole from x. -/
theorem run_eq (hL : Lie D) {lo x : Int} {N i k : Nat} (hik : i < k) (hk : k ≤ N) (hx1 : lo + 400 ≤ x) (hx2 : x + 400 < lo + N) (hxi : lo + i ≤ x) (hxk : x < lo + k) (hm : (D x).2 ≠ 0)
    (hr : ∀ j, i ≤ j → j < k → D (lo + j) = D (lo + i)) (hi : i = 0 ∨ D (lo + (i : Int) - 1) ≠ D (lo + i)) (hend : k = N ∨ D (lo + k) ≠ D (lo + i)) :
    fil (moF D K x) (x - 400) 801 = fil K (lo + i) (k - i) := by
  have hxx : D x = D (lo + i) := by
    have := hr (x - lo).toNat (by omega) (by omega)
    rwa [show lo + (((x - lo).toNat : Nat) : Int) = x by omega] at this
  have hin : ∀ z, D z = D x → lo + i ≤ z ∧ z < lo + k := by
    intro z hz
    have n1 := hL.near x z hz hm
    have n2 := hL.near z x hz.symm (hz ▸ hm)
    constructor
    · refine Classical.byContradiction fun q => ?_
      rcases hi with rfl | hi
      · omega
      · exact hi ((hL.mid z x (lo + i - 1) hz.symm (hz ▸ hm) (by omega) (by omega)).trans (hz.trans hxx))
    · refine Classical.byContradiction fun q => ?_
      rcases hend with rfl | he
      · omega
      · exact he ((hL.mid x z (lo + k) hz hm (by omega) (by omega)).trans hxx)
  have e1 : fil (moF D K x) (x - 400) 801 = fil (moF D K x) (lo + i) (k - i) := by
    refine fil_two (fun z hz => ?_) (fun z hz => ?_)
    · have hz' : D z = D x := by unfold moF at hz; simp only [Bool.and_eq_true, decide_eq_true_eq] at hz; exact hz.1
      have n1 := hL.near x z hz' hm
      have n2 := hL.near z x hz'.symm (hz' ▸ hm)
      omega
    · have hz' : D z = D x := by unfold moF at hz; simp only [Bool.and_eq_true, decide_eq_true_eq] at hz; exact hz.1
      have := hin z hz'
      omega
  rw [e1]
  refine fil_congr fun z h1 h2 => ?_
  have := hr (z - lo).toNat (by omega) (by omega)
  rw [show lo + (((z - lo).toNat : Nat) : Int) = z by omega] at this
  unfold moF
  rw [decide_eq_true (this.trans hxx.symm), Bool.true_and]
theorem fil_nodup {g : Int → Bool} {lo : Int} : ∀ n : Nat, (fil g lo n).Pairwise (· < ·)
  | 0 => .nil
  | n + 1 => by
    simp only [fil]
    refine List.pairwise_append.2 ⟨fil_nodup n, by split <;> simp, fun a ha b hb => ?_⟩
    have := fil_mem.1 ha
    split at hb
    · obtain rfl : b = lo + n := by simpa using hb
      omega
    · cases hb
/-- What the run marks. -/
theorem nth_in (hL : Lie D) {lo x : Int} {N i k : Nat} (hik : i < k) (hk : k ≤ N) (hx1 : lo + 400 ≤ x) (hx2 : x + 400 < lo + N) (hxi : lo + i ≤ x) (hxk : x < lo + k) (hm : (D (lo + i)).2 ≠ 0)
    (hr : ∀ j, i ≤ j → j < k → D (lo + j) = D (lo + i)) (hi : i = 0 ∨ D (lo + (i : Int) - 1) ≠ D (lo + i)) (hend : k = N ∨ D (lo + k) ≠ D (lo + i)) :
    nthS D K A B x = ((decide (B = 0) || decide ((D (lo + i)).2 = B)) && decide (sel A (fil K (lo + i) (k - i)) = some x)) := by
  have hxx : D x = D (lo + i) := by
    have := hr (x - lo).toNat (by omega) (by omega)
    rwa [show lo + (((x - lo).toNat : Nat) : Int) = x by omega] at this
  unfold nthS
  rw [run_eq hL hik hk hx1 hx2 hxi hxk (hxx ▸ hm) hr hi hend, hxx, decide_eq_true hm, Bool.true_and]
theorem nth_none {x : Int} (h : (D x).2 = 0) : nthS D K A B x = false := by
  unfold nthS
  simp [h]
end Go.Proofs.YthahgmncnbeddaaGreatDoorA
/- Sets of days, in plain terms. -/
set_option linter.unusedVariables false
set_option linter.unusedSimpArgs false
namespace Go.Proofs.YthahgmncnbeddaaGreatDoorA
open Go Go.RowKit Go.Proofs
inductive Fs where
  | leaf (k a b : Int) (nm : List UInt8)
  | one (k a b : Int) (nm : List UInt8) (x : Fs)
  | two (k a b : Int) (nm : List UInt8) (x y : Fs)
def Fs.size : Fs → Nat
  | .leaf .. => 1
  | .one _ _ _ _ x => x.size + 1
  | .two _ _ _ _ x y => x.size + y.size + 1
def Fs.depth : Fs → Nat
  | .leaf .. => 1
  | .one _ _ _ _ x => x.depth + 1
  | .two _ _ _ _ x y => max x.depth y.depth + 1
def Fs.wf (kn : List UInt8 → Prop) : Fs → Prop
  | .leaf k a b nm => ((k = 1 ∨ k = 2) ∧ kn nm) ∨ k = 3 ∨ (k = 4 ∧ 1 ≤ a ∧ a ≤ 100000 ∧ 0 ≤ b ∧ b < a) ∨ k = 5 ∨ k = 6
  | .one k a b nm x => ((k = 7 ∧ -400 ≤ a ∧ a ≤ 400) ∨ k = 8 ∨ (k = 12 ∧ kn nm ∧ -50 ≤ a ∧ a ≤ 50 ∧ a ≠ 0)) ∧ x.wf kn
  | .two k a b nm x y => (k = 9 ∨ k = 10 ∨ k = 11) ∧ x.wf kn ∧ y.wf kn
/-- What is asked of a name. -/
def Known (s : List UInt8) : Prop := ¬ Unknown s
/-- Does a day belong to the set? D: the date of a day (year, month, day; month 0: none). -/
def Fs.on (D : List UInt8 → Int → Int × Int × Int) : Fs → Int → Bool
  | .leaf k a b nm, x => decide (chkDay x = 0) && (
      if k = 1 ∨ k = 2 then decide ((D nm x).2.1 = a) && (decide (k = 2) || decide ((D nm x).2.2 = b))
      else if k = 3 then decide ((x - 1) % 7 = a)
      else if k = 4 then decide ((x - b) % a = 0)
      else if k = 5 then decide (x = a)
      else decide (a ≤ x) && decide (x ≤ b))
  | .one k a b nm t, x =>
      if k = 7 then decide (chkDay x = 0) && t.on D (x - a)
      else if k = 8 then decide (chkDay x = 0) && decide ((x - 1) % 7 = a) && !(fil (t.on D) (x - 6) 7).isEmpty
      else nthS (fun z => ((D nm z).1, (D nm z).2.1)) (t.on D) a b x
  | .two k _ _ _ s t, x =>
      if k = 9 then s.on D x || t.on D x
      else if k = 10 then s.on D x && t.on D x
      else s.on D x && !t.on D x
open Classical in
/-- The date of a day: year, month (0: none), day of the month. -/
noncomputable def dOf (c : Cal) (x : Int) : Int × Int × Int := if h : ∃ p : Int × Nat, c.At x p.1 p.2 then (h.choose.1, (h.choose.2 : Int) + 1, x - c.first h.choose.1 + 1 - c.bef h.choose.1 h.choose.2) else (0, 0, 0)
theorem Cal.At.uniq {c : Cal} (hc : c.Ok) {x y y' : Int} {mo mo' : Nat} (h : c.At x y mo) (h' : c.At x y' mo') : y = y' ∧ mo = mo' := by
  have hy : y = y' := by
    rcases Int.lt_trichotomy y y' with q | q | q
    · have := hc.first_mono (show y + 1 ≤ y' by omega)
      have := h.b; have := h'.a; omega
    · exact q
    · have := hc.first_mono (show y' + 1 ≤ y by omega)
      have := h'.b; have := h.a; omega
  subst hy
  refine ⟨rfl, ?_⟩
  rcases Nat.lt_trichotomy mo mo' with q | q | q
  · have := hc.bef_mono y (show mo + 1 ≤ mo' by omega)
    have := h.r2; have := h'.r1; omega
  · exact q
  · have := hc.bef_mono y (show mo' + 1 ≤ mo by omega)
    have := h'.r2; have := h.r1; omega
theorem dOf_at {c : Cal} (hc : c.Ok) {x y : Int} {mo : Nat} (h : c.At x y mo) : dOf c x = (y, (mo : Int) + 1, x - c.first y + 1 - c.bef y mo) := by
  have hx : ∃ p : Int × Nat, c.At x p.1 p.2 := ⟨(y, mo), h⟩
  unfold dOf
  rw [dif_pos hx]
  obtain ⟨e1, e2⟩ := hx.choose_spec.uniq hc h
  rw [e1, e2]
theorem chkDay_bb {d : Int} (h : chkDay d = 0) : -4000000 ≤ d ∧ d ≤ 4000000 := by unfold chkDay at h; split at h <;> omega
theorem dOf_no {c : Cal} {x : Int} (h : ∀ y mo, ¬ c.At x y mo) : dOf c x = (0, 0, 0) := by
  unfold dOf
  rw [dif_neg (fun ⟨p, hp⟩ => h _ _ hp)]
theorem dOf_mo {c : Cal} (hc : c.Ok) {x : Int} (h : (dOf c x).2.1 ≠ 0) : ∃ y mo, c.At x y mo ∧ dOf c x = (y, (mo : Int) + 1, x - c.first y + 1 - c.bef y mo) := by
  by_cases hx : ∃ y mo, c.At x y mo
  · obtain ⟨y, mo, hat⟩ := hx
    exact ⟨y, mo, hat, dOf_at hc hat⟩
  · rw [dOf_no (fun y mo q => hx ⟨y, mo, q⟩)] at h
    exact absurd rfl h
theorem dOf_lie {c : Cal} (hc : c.Ok) : Lie (fun x => ((dOf c x).1, (dOf c x).2.1)) := by
  have key : ∀ x z : Int, (fun x => ((dOf c x).1, (dOf c x).2.1)) z = (fun x => ((dOf c x).1, (dOf c x).2.1)) x → ((fun x => ((dOf c x).1, (dOf c x).2.1)) x).2 ≠ 0 → ∃ y mo, c.At x y mo ∧ c.At z y mo := by
    intro x z he hm
    simp only [Prod.mk.injEq] at he hm
    obtain ⟨y, mo, h1, e1⟩ := dOf_mo hc hm
    obtain ⟨y', mo', h2, e2⟩ := dOf_mo hc (x := z) (by rw [he.2]; exact hm)
    rw [e1, e2] at he
    simp only at he
    have e3 : y' = y := he.1
    have e4 : mo' = mo := by omega
    subst e3; subst e4
    exact ⟨y', mo', h1, h2⟩
  refine ⟨fun x z he hm => ?_, fun x z w he hm h1 h2 => ?_⟩
  · obtain ⟨y, mo, a, b⟩ := key x z he hm
    have := a.r1; have := b.r2
    have e : c.bef y (mo + 1) = c.bef y mo + c.mlen y (mo + 1) := rfl
    have := hc.mlen_bounds y (mo + 1)
    omega
  · obtain ⟨y, mo, a, b⟩ := key x z he hm
    have hw : c.At w y mo := by
      refine ⟨?_, a.y1, a.y2, by have := a.a; omega, by have := b.b; omega, a.hmo, by have := a.r1; omega, by have := b.r2; omega⟩
      have := chkDay_bb a.far; have := chkDay_bb b.far
      exact chkDay_ok (by omega) (by omega)
    show ((dOf c w).1, (dOf c w).2.1) = ((dOf c x).1, (dOf c x).2.1)
    rw [dOf_at hc hw, dOf_at hc a]
/-- The date of a day in the calendar of a name. -/
noncomputable def dN (s : List UInt8) (x : Int) : Int × Int × Int := dOf (calN s) x
end Go.Proofs.YthahgmncnbeddaaGreatDoorA
/- The finder's own blocks: names and calendars that grow. -/
set_option linter.unusedVariables false
set_option linter.unusedSimpArgs false
namespace Go.Proofs.YthahgmncnbeddaaGreatDoorA
open Go Go.RowKit Go.Proofs.YthahgmncnbeddaaGreatDoorFx Go.Proofs
def Cal.row (c : Cal) : List AV := [.s c.nm, .i .i64 c.ep, .i .i64 c.cy, monF c.ms, intF c.ls]
def nmR (L : List (List UInt8)) : List (List AV) := L.map fun s => [.s s]
noncomputable def caR (L : List (List UInt8)) : List (List AV) := L.map fun s => (calN s).row
/-- The finder fid with its names (block i) and calendars (block j). -/
noncomputable def finI (fid : Nat) (L : List (List UInt8)) (i j : Nat) : List (Nat × Ent) :=
  if L = [] then [(fid, .rows 2 [[.nils, .nils]])] else [(j, .rows 5 (caR L)), (i, .rows 1 (nmR L)), (fid, .rows 2 [[.osl i 0 L.length, .osl j 0 L.length]])]
def addN (L : List (List UInt8)) (s : List UInt8) : List (List UInt8) := if s ∈ L then L else L ++ [s]
section
variable {E : Env} {f : FuncId} {args : List AV} {h : Hp}
/-- The numbers of the finder's blocks are only names. -/
theorem Inv.canon {F : Fr} {G : Gh} {ok : Okc} {w : World} {o1 : List (Nat × Ent)} {fid i j nb : Nat} {L : List (List UInt8)} (I : Inv F G ok w ⟨o1 ++ finI fid L i j, nb⟩) : ∃ G', Adv G ok w G' ok w ∧ Inv F G' ok w ⟨o1 ++ finI fid L nb (nb + 1), nb + 2⟩ := by
  by_cases hL : L = []
  · refine ⟨G, .refl .., ?_⟩
    unfold finI at *
    rw [if_pos hL] at *
    exact I.sub ⟨fun _ q => q, fun q => q, by show nb ≤ nb + 2; omega⟩
  have e1 : finI fid L i j = [(j, .rows 5 (caR L)), (i, .rows 1 (nmR L)), (fid, .rows 2 [[.osl i 0 L.length, .osl j 0 L.length]])] := if_neg hL
  have e2 : finI fid L nb (nb + 1) = [(nb + 1, .rows 5 (caR L)), (nb, .rows 1 (nmR L)), (fid, .rows 2 [[.osl nb 0 L.length, .osl (nb + 1) 0 L.length]])] := if_neg hL
  rw [e1] at I
  rw [e2]
  clear e1 e2
  let G' : Gh := fun id => if id = nb then G i else if id = nb + 1 then G j else G id
  have hfr := I.rel.fresh
  simp only at hfr
  have hlt : ∀ id p, G id = some p → id < nb := fun id p q => by
    rcases Nat.lt_or_ge id nb with h | h
    · exact h
    · rw [hfr id h] at q; cases q
  have hG : ∀ id p, G id = some p → G' id = some p := fun id p q => by
    have := hlt id p q
    simp only [G']
    rw [if_neg (by omega), if_neg (by omega)]; exact q
  have hold : ∀ id, id < nb → G' id = G id := fun id q => by simp only [G']; rw [if_neg (by omega), if_neg (by omega)]
  have g0 : G' nb = G i := by simp [G']
  have g1 : G' (nb + 1) = G j := by simp [G']
  have A : Adv G ok w G' ok w := ⟨hG, fun _ _ q => ⟨q, rfl⟩, fun _ _ q => q⟩
  have nd := I.rel.nodup
  simp only [List.map_append, List.map_cons, List.map_nil] at nd
  rw [List.nodup_append] at nd
  obtain ⟨nd1, nd2, nd3⟩ := nd
  simp only [List.nodup_cons, List.mem_cons, List.not_mem_nil, or_false, not_or, List.nodup_nil, and_true, not_false_eq_true] at nd2
  have mj : (j, Ent.rows 5 (caR L)) ∈ o1 ++ [(j, .rows 5 (caR L)), (i, .rows 1 (nmR L)), (fid, .rows 2 [[.osl i 0 L.length, .osl j 0 L.length]])] := by simp
  have mi : (i, Ent.rows 1 (nmR L)) ∈ o1 ++ [(j, .rows 5 (caR L)), (i, .rows 1 (nmR L)), (fid, .rows 2 [[.osl i 0 L.length, .osl j 0 L.length]])] := by simp
  have mf : (fid, Ent.rows 2 [[.osl i 0 L.length, .osl j 0 L.length]]) ∈ o1 ++ [(j, .rows 5 (caR L)), (i, .rows 1 (nmR L)), (fid, .rows 2 [[.osl i 0 L.length, .osl j 0 L.length]])] := by simp
  have m1 : ∀ x ∈ o1, x ∈ o1 ++ [(j, .rows 5 (caR L)), (i, .rows 1 (nmR L)), (fid, .rows 2 [[.osl i 0 L.length, .osl j 0 L.length]])] := fun x hx => List.mem_append_left _ hx
  obtain ⟨pj, gj, hj, kj⟩ := I.rel.look j _ mj
  obtain ⟨pi, gi, hi, ki⟩ := I.rel.look i _ mi
  obtain ⟨pf, gf, hf, kf⟩ := I.rel.look fid _ mf
  -- each new entry stands for an old one
  have back : ∀ id e, (id, e) ∈ o1 ++ [(nb + 1, .rows 5 (caR L)), (nb, .rows 1 (nmR L)), (fid, .rows 2 [[.osl nb 0 L.length, .osl (nb + 1) 0 L.length]])] → ∃ id0 e0, (id0, e0) ∈ o1 ++ [(j, .rows 5 (caR L)), (i, .rows 1 (nmR L)), (fid, .rows 2 [[.osl i 0 L.length, .osl j 0 L.length]])] ∧ G' id = G id0 ∧ (∀ p, Holds ok w G p e0 → Holds ok w G' p e) ∧
      ((id = nb + 1 ∧ id0 = j) ∨ (id = nb ∧ id0 = i) ∨ (id = id0 ∧ id < nb ∧ id ≠ i ∧ id ≠ j)) := by
    intro id e hm
    rcases List.mem_append.1 hm with hm | hm
    · obtain ⟨p, gp, _⟩ := I.rel.look id e (m1 _ hm)
      refine ⟨id, e, m1 _ hm, hold id (hlt id p gp), fun p hp => hp.adv A rfl, .inr (.inr ⟨rfl, hlt id p gp, ?_, ?_⟩)⟩
      · intro q; exact nd3 id (List.mem_map_of_mem (f := (·.1)) hm) i (by simp) q
      · intro q; exact nd3 id (List.mem_map_of_mem (f := (·.1)) hm) j (by simp) q
    · simp only [List.mem_cons, Prod.mk.injEq, List.not_mem_nil, or_false] at hm
      rcases hm with ⟨rfl, rfl⟩ | ⟨rfl, rfl⟩ | ⟨rfl, rfl⟩
      · exact ⟨j, _, mj, g1, fun p hp => hp.adv A rfl, .inl ⟨rfl, rfl⟩⟩
      · exact ⟨i, _, mi, g0, fun p hp => hp.adv A rfl, .inr (.inl ⟨rfl, rfl⟩)⟩
      · refine ⟨id, _, mf, hold id (hlt id pf gf), fun p hp => ?_, .inr (.inr ⟨rfl, hlt id pf gf, fun q => nd2.2 q.symm, fun q => nd2.1.2 q.symm⟩)⟩
        obtain ⟨z1, cs, t, fz, z2, z3, z4, z5, z6, z7⟩ := hp
        refine ⟨z1, cs, t, fz, z2, z3, z4, z5, fun row hrow => ?_, fun r row hr c a ha => ?_⟩
        · simp only [List.mem_singleton] at hrow
          subst hrow
          exact z6 [.osl i 0 L.length, .osl j 0 L.length] (List.mem_singleton.2 rfl)
        · match r, hr with
          | 0, hr =>
            simp only [List.getElem?_cons_zero, Option.some.injEq] at hr
            subst hr
            match c, ha with
            | 0, ha =>
              simp only [List.getElem?_cons_zero, Option.some.injEq] at ha
              subst ha
              obtain ⟨v, hv, r, o⟩ := z7 0 _ rfl 0 _ rfl
              refine ⟨v, hv, ?_, o⟩
              cases r with
              | osl _ _ _ _ cap p h h1 h2 => exact .osl _ _ _ _ cap p (by rw [g0]; exact h) h1 h2
            | 1, ha =>
              simp only [List.getElem?_cons_zero, List.getElem?_cons_succ, Option.some.injEq] at ha
              subst ha
              obtain ⟨v, hv, r, o⟩ := z7 0 _ rfl 1 _ rfl
              refine ⟨v, hv, ?_, o⟩
              cases r with
              | osl _ _ _ _ cap p h h1 h2 => exact .osl _ _ _ _ cap p (by rw [g1]; exact h) h1 h2
            | c + 2, ha => simp at ha
          | r + 1, hr => simp at hr
  refine ⟨G', A, I.os, I.tape, I.output, I.size, I.keep, I.okeep, I.adv.trans A, I.lt, ?_, ?_, ?_, ?_, ?_⟩
  · intro id e p hm hp
    obtain ⟨id0, e0, h1, h2, _, _⟩ := back id e hm
    exact I.own id0 e0 p h1 (by rw [← h2]; exact hp)
  · intro id e hm
    obtain ⟨id0, e0, h1, h2, h3, _⟩ := back id e hm
    obtain ⟨p, gp, hp, kp⟩ := I.rel.look id0 e0 h1
    exact ⟨p, by rw [h2]; exact gp, h3 p hp, kp⟩
  · intro id id2 e e2 p p2 hm hm2 hne hp hp2
    obtain ⟨a0, e0, h1, h2, _, h4⟩ := back id e hm
    obtain ⟨b0, f0, k1, k2, _, k4⟩ := back id2 e2 hm2
    refine I.rel.inj a0 b0 e0 f0 p p2 h1 k1 ?_ (by rw [← h2]; exact hp) (by rw [← k2]; exact hp2)
    have := nd2.1.1
    rcases h4 with h4 | h4 | h4 <;> rcases k4 with k4 | k4 | k4 <;> omega
  · rw [List.map_append, List.nodup_append]
    refine ⟨nd1, ?_, ?_⟩
    · have := hlt fid pf gf
      simp only [List.map_cons, List.map_nil, List.nodup_cons, List.mem_cons, List.not_mem_nil, or_false, not_or, List.nodup_nil, and_true, not_false_eq_true]
      omega
    · intro a ha b hb hab
      subst hab
      obtain ⟨⟨x1, x2⟩, hx, q⟩ := List.mem_map.1 ha
      simp only at q
      subst q
      obtain ⟨p, gp, _⟩ := I.rel.look x1 x2 (m1 _ hx)
      have := hlt x1 p gp
      simp only [List.map_cons, List.map_nil, List.mem_cons, List.not_mem_nil, or_false] at hb
      rcases hb with q | q | q
      · omega
      · omega
      · exact nd3 x1 (List.mem_map_of_mem (f := (·.1)) hx) fid (by simp) q
  · intro id hid
    show G' id = none
    have h2 : nb + 2 ≤ id := hid
    simp only [G']
    rw [if_neg (by omega), if_neg (by omega)]
    exact hfr id (by omega)
theorem MeetsH.canon {v : AV} {o1 : List (Nat × Ent)} {fid nb : Nat} {L : List (List UInt8)} (hm : MeetsH E f args h (fun o h0 => o = .ret v ∧ ∃ i j, Sub ⟨o1 ++ finI fid L i j, nb⟩ h0)) : MeetsH E f args h (Is (.ret v) ⟨o1 ++ finI fid L nb (nb + 1), nb + 2⟩) := by
  refine ⟨hm.1, fun F G ok w vals q1 q2 q3 q4 q5 => (hm.2 F G ok w vals q1 q2 q3 q4 q5).mono fun e w' p => ?_⟩
  cases e with
  | returned v0 =>
    obtain ⟨r, h', G', ok', ⟨hr, i, j, hs⟩, A, rv, I⟩ := p
    cases hr
    obtain ⟨G2, A2, I2⟩ := (I.sub hs).canon
    exact ⟨v, _, G2, ok', ⟨rfl, rfl⟩, A.trans A2, rv.adv A2, I2⟩
  | panicked c => obtain ⟨v0, r, h', G', ok', e, ⟨hr, _⟩, _⟩ := p; cases hr
  | outgrown => exact p
end
theorem Sub.of {c c' : List (Nat × Ent)} {n m : Nat} (h : List.Sublist c' c) (hn : n ≤ m) : Sub ⟨c', m⟩ ⟨c, n⟩ := ⟨fun _ q => h.subset q, fun q => (h.map _).nodup q, hn⟩
end Go.Proofs.YthahgmncnbeddaaGreatDoorA
/- The finder's calendar. -/
set_option linter.unusedVariables false
set_option linter.unusedSimpArgs false
namespace Go.Proofs.YthahgmncnbeddaaGreatDoorA
open Go Go.RowKit Go.Proofs.YthahgmncnbeddaaGreatDoorFx Go.Proofs
attribute [local go_sem] List.take_succ_cons List.take_zero List.take_nil List.drop_succ_cons List.drop_nil List.cons_append List.nil_append List.set_cons_zero List.set_cons_succ
variable {m : Int}
theorem cal_row (c : Cal) : ∃ y1 y2 y3 y4 y5, c.A = .agg [y1, y2, y3, y4, y5] ∧ c.row = [y1, y2, y3, y4, y5] ∧ (one y1 = true ∧ one y2 = true ∧ one y3 = true ∧ one y4 = true ∧ one y5 = true) ∧ (noid 11 y1 = true ∧ noid 11 y2 = true ∧ noid 11 y3 = true ∧ noid 11 y4 = true ∧ noid 11 y5 = true) :=
  ⟨_, _, _, _, _, rfl, rfl, ⟨rfl, rfl, rfl, rfl, rfl⟩, ⟨rfl, rfl, rfl, rfl, rfl⟩⟩
set_option maxRecDepth 100000 in
set_option maxHeartbeats 4000000 in
theorem calendar0 {s : List UInt8} (hs : ¬ Unknown s) {fid b n : Nat} (hb : fid < b) (hn : b + 2 ≤ n) : MeetsH (EW m) 67 [.ptr fid 0 0, .s s] ⟨finI fid [] b (b + 1), n⟩ (Is (.ret (calN s).A) ⟨finI fid [s] (n + 6) (n + 7), n + 8⟩) := by
  refine MeetsH.canon (v := (calN s).A) (o1 := []) (fid := fid) (nb := n + 6) (L := [s]) ?_
  have hC := calN_P (m := m) hs
  have f1 : finI fid [] b (b + 1) = [(fid, .rows 2 [[.nils, .nils]])] := rfl
  have f2 : ∀ i j, finI fid [s] i j = [(j, .rows 5 [(calN s).row]), (i, .rows 1 [[.s s]]), (fid, .rows 2 [[.osl i 0 1, .osl j 0 1]])] := fun i j => rfl
  simp only [f1, f2, List.nil_append]
  clear f1 f2
  obtain ⟨y1, y2, y3, y4, y5, hy, hr, ⟨o1, o2, o3, o4, o5⟩, ⟨n1, n2, n3, n4, n5⟩⟩ := cal_row (calN s)
  rw [hy] at hC
  rw [hy, hr]
  obtain ⟨i1, hi1, hb1⟩ := Option.map_eq_some_iff.1 (show (Tryz.prog.info? 71).map (·.bytes) = some 80 by kernel_rfl)
  obtain ⟨i2, hi2, hb2⟩ := Option.map_eq_some_iff.1 (show (Tryz.prog.info? 9).map (·.bytes) = some 16 by kernel_rfl)
  have q1 : ¬ n = fid := by omega
  have q2 : ¬ n + 1 = fid := by omega
  refine meetsH (E := (EW m)) 56 [.cell 4 71] Tryz.func67 rfl (by decide) rfl rfl (by simp) ?_
  repeat' first | ((with_reducible refine wr_isCall ?_); refine wr_P hC rfl ?_) | (with_reducible first | refine t_seq ?_ | refine t_skip ?_ | refine t_ret ?_ | refine t_end ?_ | refine t_cond ?_ | refine t_region ?_ | refine wr_done ?_ | refine WD.done _ ?_ | refine wdp_done ?_ | refine tr_some ?_ | refine t_block ?_ | refine t_loop ?_ | refine t_inLoop ?_ | refine t_inBlock ?_) | ((with_reducible refine t_isExit ?_); refine t_exit rfl ?_) | simp only [decide_eq_true_eq, decide_eq_false_iff_not, Bool.not_eq_true', Bool.not_eq_false'] at * | simp (disch := omega) only [go_sem, Nat.reduceLT, Nat.reduceEqDiff, Nat.reduceAdd, Nat.reduceLeDiff, Nat.reduceMul, Int.reduceLT, Int.reduceLE, Int.reduceAdd, Int.reduceSub, Int.reduceNeg, Int.reduceToNat, Int.reduceBEq, Int.reduceEq, reduceCtorEq, ↓reduceIte, *] | (with_reducible first | refine tb_true ?_ | refine tb_false ?_) | ((with_reducible first | refine tb_split ?_ ?_ | refine wg_f ?_ ?_ | refine wg_t ?_ ?_ | refine wd_f ?_ ?_ | refine wd_t ?_ ?_) <;> intro _)
  refine t_paths 56 [7, 8, 14, 15, 18, 21] [(⟨[(35, .ptr fid 0 0), (36, .ptr fid 0 0), (37, .ptr fid 0 0), (38, .ptr fid 0 0), (39, .ptr fid 0 0), (40, .nils), (41, .s s), (42, .osl (n + 1 + 1) 0 1), (43, .osl (n + 1 + 1 + 1) 0 1), (44, .ptr fid 0 0), (45, .ptr fid 0 0), (46, .ptr fid 0 1), (47, .nils), (48, .agg [y1, y2, y3, y4, y5]), (49, .osl (n + 1 + 1 + 1 + 1) 0 1), (50, .osl (n + 1 + 1 + 1 + 1 + 1) 0 1), (51, .ptr fid 0 0), (52, .ptr fid 0 0), (53, .ptr fid 0 0), (54, .ptr fid 0 1)], [⟨[(n + 1, .rows 5 [[y1, y2, y3, y4, y5]]), (n, .rows 5 [[.s [], .i .i64 0, .i .i64 0, .nils, .nils]]), (fid, .rows 2 [[.nils, .nils]])], n + 1 + 1⟩, ⟨[(n + 1 + 1, .rows 1 [[.s s]]), (n + 1, .rows 5 [[y1, y2, y3, y4, y5]]), (n, .rows 5 [[.s [], .i .i64 0, .i .i64 0, .nils, .nils]]), (fid, .rows 2 [[.nils, .nils]])], n + 1 + 1 + 1⟩, ⟨[(n + 1 + 1 + 1, .rows 1 [[.s s]]), (n + 1 + 1, .rows 1 [[.s s]]), (n + 1, .rows 5 [[y1, y2, y3, y4, y5]]), (n, .rows 5 [[.s [], .i .i64 0, .i .i64 0, .nils, .nils]]), (fid, .rows 2 [[.nils, .nils]])], n + 1 + 1 + 1 + 1⟩, ⟨[(n + 1 + 1 + 1 + 1, .rows 5 [[y1, y2, y3, y4, y5]]), (n + 1 + 1 + 1, .rows 1 [[.s s]]), (n + 1 + 1, .rows 1 [[.s s]]), (n + 1, .rows 5 [[y1, y2, y3, y4, y5]]), (n, .rows 5 [[.s [], .i .i64 0, .i .i64 0, .nils, .nils]]), (fid, .rows 2 [[.nils, .nils]])], n + 1 + 1 + 1 + 1 + 1⟩, ⟨[(n + 1 + 1 + 1 + 1 + 1, .rows 5 [[y1, y2, y3, y4, y5]]), (n + 1 + 1 + 1 + 1, .rows 5 [[y1, y2, y3, y4, y5]]), (n + 1 + 1 + 1, .rows 1 [[.s s]]), (n + 1 + 1, .rows 1 [[.s s]]), (n + 1, .rows 5 [[y1, y2, y3, y4, y5]]), (n, .rows 5 [[.s [], .i .i64 0, .i .i64 0, .nils, .nils]]), (fid, .rows 2 [[.nils, .nils]])], n + 1 + 1 + 1 + 1 + 1 + 1⟩, ⟨[(n + 1 + 1 + 1 + 1 + 1, .rows 5 [[y1, y2, y3, y4, y5]]), (n + 1 + 1 + 1 + 1, .rows 5 [[y1, y2, y3, y4, y5]]), (n + 1 + 1 + 1, .rows 1 [[.s s]]), (n + 1 + 1, .rows 1 [[.s s]]), (n + 1, .rows 5 [[y1, y2, y3, y4, y5]]), (n, .rows 5 [[.s [], .i .i64 0, .i .i64 0, .nils, .nils]]), (fid, .rows 2 [[.osl (n + 1 + 1 + 1) 0 1, .nils]])], n + 1 + 1 + 1 + 1 + 1 + 1⟩, ⟨[(n + 1 + 1 + 1 + 1 + 1, .rows 5 [[y1, y2, y3, y4, y5]]), (n + 1 + 1 + 1 + 1, .rows 5 [[y1, y2, y3, y4, y5]]), (n + 1 + 1 + 1, .rows 1 [[.s s]]), (n + 1 + 1, .rows 1 [[.s s]]), (n + 1, .rows 5 [[y1, y2, y3, y4, y5]]), (n, .rows 5 [[.s [], .i .i64 0, .i .i64 0, .nils, .nils]]), (fid, .rows 2 [[.osl (n + 1 + 1 + 1) 0 1, .osl (n + 1 + 1 + 1 + 1 + 1) 0 1]])], n + 1 + 1 + 1 + 1 + 1 + 1⟩], [7, 8, 14, 15, 18, 21]⟩, [(6, 6), (6, 6), (6, 6), (6, 6), (6, 6), (0, 1), (6, 6), (1, 0), (1, 0), (6, 6), (6, 6), (6, 6), (0, 3), (0, 2), (1, 0), (1, 0), (6, 6), (6, 6), (1, 0), (6, 6), (6, 6), (1, 0)]), (⟨[(35, .ptr fid 0 0), (36, .ptr fid 0 0), (37, .ptr fid 0 0), (38, .ptr fid 0 0), (39, .ptr fid 0 0), (40, .nils), (41, .s s), (42, .osl (n + 1 + 1) 0 1), (43, .osl (n + 1 + 1 + 1 + 1) 0 1), (44, .ptr fid 0 0), (45, .ptr fid 0 0), (46, .ptr fid 0 1), (47, .nils), (48, .agg [y1, y2, y3, y4, y5]), (49, .osl (n + 1 + 1 + 1) 0 1), (50, .osl (n + 1 + 1 + 1 + 1 + 1) 0 1), (51, .ptr fid 0 0), (52, .ptr fid 0 0), (53, .ptr fid 0 0), (54, .ptr fid 0 1)], [⟨[(n + 1, .rows 5 [[y1, y2, y3, y4, y5]]), (n, .rows 5 [[.s [], .i .i64 0, .i .i64 0, .nils, .nils]]), (fid, .rows 2 [[.nils, .nils]])], n + 1 + 1⟩, ⟨[(n + 1 + 1, .rows 1 [[.s s]]), (n + 1, .rows 5 [[y1, y2, y3, y4, y5]]), (n, .rows 5 [[.s [], .i .i64 0, .i .i64 0, .nils, .nils]]), (fid, .rows 2 [[.nils, .nils]])], n + 1 + 1 + 1⟩, ⟨[(n + 1 + 1 + 1, .rows 5 [[y1, y2, y3, y4, y5]]), (n + 1 + 1, .rows 1 [[.s s]]), (n + 1, .rows 5 [[y1, y2, y3, y4, y5]]), (n, .rows 5 [[.s [], .i .i64 0, .i .i64 0, .nils, .nils]]), (fid, .rows 2 [[.nils, .nils]])], n + 1 + 1 + 1 + 1⟩, ⟨[(n + 1 + 1 + 1 + 1, .rows 1 [[.s s]]), (n + 1 + 1 + 1, .rows 5 [[y1, y2, y3, y4, y5]]), (n + 1 + 1, .rows 1 [[.s s]]), (n + 1, .rows 5 [[y1, y2, y3, y4, y5]]), (n, .rows 5 [[.s [], .i .i64 0, .i .i64 0, .nils, .nils]]), (fid, .rows 2 [[.nils, .nils]])], n + 1 + 1 + 1 + 1 + 1⟩, ⟨[(n + 1 + 1 + 1 + 1 + 1, .rows 5 [[y1, y2, y3, y4, y5]]), (n + 1 + 1 + 1 + 1, .rows 1 [[.s s]]), (n + 1 + 1 + 1, .rows 5 [[y1, y2, y3, y4, y5]]), (n + 1 + 1, .rows 1 [[.s s]]), (n + 1, .rows 5 [[y1, y2, y3, y4, y5]]), (n, .rows 5 [[.s [], .i .i64 0, .i .i64 0, .nils, .nils]]), (fid, .rows 2 [[.nils, .nils]])], n + 1 + 1 + 1 + 1 + 1 + 1⟩, ⟨[(n + 1 + 1 + 1 + 1 + 1, .rows 5 [[y1, y2, y3, y4, y5]]), (n + 1 + 1 + 1 + 1, .rows 1 [[.s s]]), (n + 1 + 1 + 1, .rows 5 [[y1, y2, y3, y4, y5]]), (n + 1 + 1, .rows 1 [[.s s]]), (n + 1, .rows 5 [[y1, y2, y3, y4, y5]]), (n, .rows 5 [[.s [], .i .i64 0, .i .i64 0, .nils, .nils]]), (fid, .rows 2 [[.osl (n + 1 + 1 + 1 + 1) 0 1, .nils]])], n + 1 + 1 + 1 + 1 + 1 + 1⟩, ⟨[(n + 1 + 1 + 1 + 1 + 1, .rows 5 [[y1, y2, y3, y4, y5]]), (n + 1 + 1 + 1 + 1, .rows 1 [[.s s]]), (n + 1 + 1 + 1, .rows 5 [[y1, y2, y3, y4, y5]]), (n + 1 + 1, .rows 1 [[.s s]]), (n + 1, .rows 5 [[y1, y2, y3, y4, y5]]), (n, .rows 5 [[.s [], .i .i64 0, .i .i64 0, .nils, .nils]]), (fid, .rows 2 [[.osl (n + 1 + 1 + 1 + 1) 0 1, .osl (n + 1 + 1 + 1 + 1 + 1) 0 1]])], n + 1 + 1 + 1 + 1 + 1 + 1⟩], [7, 14, 8, 15, 18, 21]⟩, [(6, 6), (6, 6), (6, 6), (6, 6), (6, 6), (0, 2), (6, 6), (1, 0), (1, 0), (6, 6), (6, 6), (6, 6), (0, 3), (0, 1), (1, 0), (1, 0), (6, 6), (6, 6), (1, 0), (6, 6), (6, 6), (1, 0)]), (⟨[(35, .ptr fid 0 0), (36, .ptr fid 0 0), (37, .ptr fid 0 0), (38, .ptr fid 0 0), (39, .ptr fid 0 0), (40, .nils), (41, .s s), (42, .osl (n + 1 + 1 + 1) 0 1), (43, .osl (n + 1 + 1 + 1 + 1) 0 1), (44, .ptr fid 0 0), (45, .ptr fid 0 0), (46, .ptr fid 0 1), (47, .nils), (48, .agg [y1, y2, y3, y4, y5]), (49, .osl (n + 1 + 1) 0 1), (50, .osl (n + 1 + 1 + 1 + 1 + 1) 0 1), (51, .ptr fid 0 0), (52, .ptr fid 0 0), (53, .ptr fid 0 0), (54, .ptr fid 0 1)], [⟨[(n + 1, .rows 5 [[y1, y2, y3, y4, y5]]), (n, .rows 5 [[.s [], .i .i64 0, .i .i64 0, .nils, .nils]]), (fid, .rows 2 [[.nils, .nils]])], n + 1 + 1⟩, ⟨[(n + 1 + 1, .rows 5 [[y1, y2, y3, y4, y5]]), (n + 1, .rows 5 [[y1, y2, y3, y4, y5]]), (n, .rows 5 [[.s [], .i .i64 0, .i .i64 0, .nils, .nils]]), (fid, .rows 2 [[.nils, .nils]])], n + 1 + 1 + 1⟩, ⟨[(n + 1 + 1 + 1, .rows 1 [[.s s]]), (n + 1 + 1, .rows 5 [[y1, y2, y3, y4, y5]]), (n + 1, .rows 5 [[y1, y2, y3, y4, y5]]), (n, .rows 5 [[.s [], .i .i64 0, .i .i64 0, .nils, .nils]]), (fid, .rows 2 [[.nils, .nils]])], n + 1 + 1 + 1 + 1⟩, ⟨[(n + 1 + 1 + 1 + 1, .rows 1 [[.s s]]), (n + 1 + 1 + 1, .rows 1 [[.s s]]), (n + 1 + 1, .rows 5 [[y1, y2, y3, y4, y5]]), (n + 1, .rows 5 [[y1, y2, y3, y4, y5]]), (n, .rows 5 [[.s [], .i .i64 0, .i .i64 0, .nils, .nils]]), (fid, .rows 2 [[.nils, .nils]])], n + 1 + 1 + 1 + 1 + 1⟩, ⟨[(n + 1 + 1 + 1 + 1 + 1, .rows 5 [[y1, y2, y3, y4, y5]]), (n + 1 + 1 + 1 + 1, .rows 1 [[.s s]]), (n + 1 + 1 + 1, .rows 1 [[.s s]]), (n + 1 + 1, .rows 5 [[y1, y2, y3, y4, y5]]), (n + 1, .rows 5 [[y1, y2, y3, y4, y5]]), (n, .rows 5 [[.s [], .i .i64 0, .i .i64 0, .nils, .nils]]), (fid, .rows 2 [[.nils, .nils]])], n + 1 + 1 + 1 + 1 + 1 + 1⟩, ⟨[(n + 1 + 1 + 1 + 1 + 1, .rows 5 [[y1, y2, y3, y4, y5]]), (n + 1 + 1 + 1 + 1, .rows 1 [[.s s]]), (n + 1 + 1 + 1, .rows 1 [[.s s]]), (n + 1 + 1, .rows 5 [[y1, y2, y3, y4, y5]]), (n + 1, .rows 5 [[y1, y2, y3, y4, y5]]), (n, .rows 5 [[.s [], .i .i64 0, .i .i64 0, .nils, .nils]]), (fid, .rows 2 [[.osl (n + 1 + 1 + 1 + 1) 0 1, .nils]])], n + 1 + 1 + 1 + 1 + 1 + 1⟩, ⟨[(n + 1 + 1 + 1 + 1 + 1, .rows 5 [[y1, y2, y3, y4, y5]]), (n + 1 + 1 + 1 + 1, .rows 1 [[.s s]]), (n + 1 + 1 + 1, .rows 1 [[.s s]]), (n + 1 + 1, .rows 5 [[y1, y2, y3, y4, y5]]), (n + 1, .rows 5 [[y1, y2, y3, y4, y5]]), (n, .rows 5 [[.s [], .i .i64 0, .i .i64 0, .nils, .nils]]), (fid, .rows 2 [[.osl (n + 1 + 1 + 1 + 1) 0 1, .osl (n + 1 + 1 + 1 + 1 + 1) 0 1]])], n + 1 + 1 + 1 + 1 + 1 + 1⟩], [14, 7, 8, 15, 18, 21]⟩, [(6, 6), (6, 6), (6, 6), (6, 6), (6, 6), (0, 2), (6, 6), (1, 0), (1, 0), (6, 6), (6, 6), (6, 6), (0, 3), (0, 0), (1, 0), (1, 0), (6, 6), (6, 6), (1, 0), (6, 6), (6, 6), (1, 0)])] [[7, 8, 14, 15, 18, 21], [7, 14, 8, 15, 18, 21], [14, 7, 8, 15, 18, 21]] [[(6, 6), (6, 6), (6, 6), (6, 6), (6, 6), (0, 1), (6, 6), (1, 0), (1, 0), (6, 6), (6, 6), (6, 6), (0, 3), (0, 2), (1, 0), (1, 0), (6, 6), (6, 6), (1, 0), (6, 6), (6, 6), (1, 0)], [(6, 6), (6, 6), (6, 6), (6, 6), (6, 6), (0, 2), (6, 6), (1, 0), (1, 0), (6, 6), (6, 6), (6, 6), (0, 3), (0, 1), (1, 0), (1, 0), (6, 6), (6, 6), (1, 0), (6, 6), (6, 6), (1, 0)], [(6, 6), (6, 6), (6, 6), (6, 6), (6, 6), (0, 2), (6, 6), (1, 0), (1, 0), (6, 6), (6, 6), (6, 6), (0, 3), (0, 0), (1, 0), (1, 0), (6, 6), (6, 6), (1, 0), (6, 6), (6, 6), (1, 0)]] [[35, 36, 37, 38, 39, 40, 41, 42, 43, 44, 45, 46, 47, 48, 49, 50, 51, 52, 53, 54], [35, 36, 37, 38, 39, 40, 41, 42, 43, 44, 45, 46, 47, 48, 49, 50, 51, 52, 53, 54], [35, 36, 37, 38, 39, 40, 41, 42, 43, 44, 45, 46, 47, 48, 49, 50, 51, 52, 53, 54]] rfl (by kernel_rfl) rfl rfl rfl rfl ?_ ?_ ?_ ?_ ?_
  · intro p hp; simp only [List.mem_cons, List.not_mem_nil, or_false] at hp; rcases hp with rfl | rfl | rfl <;> rfl
  · intro p hp; simp only [List.mem_cons, List.not_mem_nil, or_false] at hp; rcases hp with rfl | rfl | rfl <;> rfl
  · intro p hp; simp only [List.mem_cons, List.not_mem_nil, or_false] at hp
    rcases hp with rfl | rfl | rfl
    all_goals simp (disch := omega) only [freeN, effN, FreeM, EffM, dstM, DP.st, get_cons, List.forall_mem_cons, List.forall_mem_nil, List.getElem?_cons_zero, List.getElem?_cons_succ, List.mem_cons, List.not_mem_nil, false_implies, implies_true, and_true, true_and, forall_eq, forall_eq_or_imp, or_false, OR.val.injEq, go_sem, Nat.reduceLT, Nat.reduceEqDiff, Nat.reduceAdd, Nat.reduceSub, Nat.reduceLeDiff, Nat.reduceMul, Int.reduceLT, Int.reduceLE, Int.reduceAdd, Int.reduceSub, Int.reduceNeg, Int.reduceToNat, Int.reduceBEq, Int.reduceEq, reduceCtorEq, List.take_succ_cons, List.take_zero, List.take_nil, List.drop_succ_cons, List.drop_zero, List.drop_nil, List.cons_append, List.nil_append, List.set_cons_zero, List.set_cons_succ, ↓reduceIte, *]
  · intro p hp; simp only [List.mem_cons, List.not_mem_nil, or_false] at hp
    rcases hp with rfl | rfl | rfl
    all_goals simp (disch := omega) only [freeN, effN, FreeM, EffM, dstM, DP.st, get_cons, List.forall_mem_cons, List.forall_mem_nil, List.getElem?_cons_zero, List.getElem?_cons_succ, List.mem_cons, List.not_mem_nil, false_implies, implies_true, and_true, true_and, forall_eq, forall_eq_or_imp, or_false, OR.val.injEq, go_sem, Nat.reduceLT, Nat.reduceEqDiff, Nat.reduceAdd, Nat.reduceSub, Nat.reduceLeDiff, Nat.reduceMul, Int.reduceLT, Int.reduceLE, Int.reduceAdd, Int.reduceSub, Int.reduceNeg, Int.reduceToNat, Int.reduceBEq, Int.reduceEq, reduceCtorEq, List.take_succ_cons, List.take_zero, List.take_nil, List.drop_succ_cons, List.drop_zero, List.drop_nil, List.cons_append, List.nil_append, List.set_cons_zero, List.set_cons_succ, ↓reduceIte, *]
  · intro p hp; simp only [List.mem_cons, List.not_mem_nil, or_false] at hp
    rcases hp with rfl | rfl | rfl
    all_goals intro g hg
    all_goals simp only [List.length_cons, List.length_nil, Nat.reduceAdd, List.getElem?_cons_zero, List.getElem?_cons_succ, Option.some.injEq] at hg
    all_goals subst hg
    all_goals unfold DP.st
    all_goals simp only [List.cons_append, List.nil_append]
    · repeat' first | (with_reducible first | refine t_seq ?_ | refine t_skip ?_ | refine t_ret ?_ | refine t_end ?_ | refine t_cond ?_ | refine t_region ?_ | refine wr_done ?_ | refine WD.done _ ?_ | refine wdp_done ?_ | refine tr_some ?_ | refine t_inBlock ?_) | ((with_reducible refine t_isDraw ?_); refine t_draw rfl (by kernel_rfl) ?_) | ((fail_if_success with_reducible refine t_bl ?_); (with_reducible refine t_block ?_)) | ((with_reducible refine t_isExit ?_); refine t_exit rfl ?_) | simp only [decide_eq_true_eq, decide_eq_false_iff_not, Bool.not_eq_true', Bool.not_eq_false'] at * | simp (disch := omega) only [go_sem, Nat.reduceLT, Nat.reduceEqDiff, Nat.reduceAdd, Nat.reduceLeDiff, Nat.reduceMul, Int.reduceLT, Int.reduceLE, Int.reduceAdd, Int.reduceSub, Int.reduceNeg, Int.reduceToNat, Int.reduceBEq, Int.reduceEq, reduceCtorEq, ↓reduceIte, *] | (with_reducible first | refine tb_true ?_ | refine tb_false ?_) | ((with_reducible first | refine tb_split ?_ ?_ | refine wg_f ?_ ?_ | refine wg_t ?_ ?_ | refine wd_f ?_ ?_ | refine wd_t ?_ ?_) <;> intro _)
      exact ⟨_, _, Sub.of (.cons_cons _ (.cons _ (.cons_cons _ (.cons _ (.cons _ (.cons _ (.cons_cons _ .slnil))))))) (by omega)⟩
    · repeat' first | (with_reducible first | refine t_seq ?_ | refine t_skip ?_ | refine t_ret ?_ | refine t_end ?_ | refine t_cond ?_ | refine t_region ?_ | refine wr_done ?_ | refine WD.done _ ?_ | refine wdp_done ?_ | refine tr_some ?_ | refine t_inBlock ?_) | ((with_reducible refine t_isDraw ?_); refine t_draw rfl (by kernel_rfl) ?_) | ((fail_if_success with_reducible refine t_bl ?_); (with_reducible refine t_block ?_)) | ((with_reducible refine t_isExit ?_); refine t_exit rfl ?_) | simp only [decide_eq_true_eq, decide_eq_false_iff_not, Bool.not_eq_true', Bool.not_eq_false'] at * | simp (disch := omega) only [go_sem, Nat.reduceLT, Nat.reduceEqDiff, Nat.reduceAdd, Nat.reduceLeDiff, Nat.reduceMul, Int.reduceLT, Int.reduceLE, Int.reduceAdd, Int.reduceSub, Int.reduceNeg, Int.reduceToNat, Int.reduceBEq, Int.reduceEq, reduceCtorEq, ↓reduceIte, *] | (with_reducible first | refine tb_true ?_ | refine tb_false ?_) | ((with_reducible first | refine tb_split ?_ ?_ | refine wg_f ?_ ?_ | refine wg_t ?_ ?_ | refine wd_f ?_ ?_ | refine wd_t ?_ ?_) <;> intro _)
      exact ⟨_, _, Sub.of (.cons_cons _ (.cons_cons _ (.cons _ (.cons _ (.cons _ (.cons _ (.cons_cons _ .slnil))))))) (by omega)⟩
    · repeat' first | (with_reducible first | refine t_seq ?_ | refine t_skip ?_ | refine t_ret ?_ | refine t_end ?_ | refine t_cond ?_ | refine t_region ?_ | refine wr_done ?_ | refine WD.done _ ?_ | refine wdp_done ?_ | refine tr_some ?_ | refine t_inBlock ?_) | ((with_reducible refine t_isDraw ?_); refine t_draw rfl (by kernel_rfl) ?_) | ((fail_if_success with_reducible refine t_bl ?_); (with_reducible refine t_block ?_)) | ((with_reducible refine t_isExit ?_); refine t_exit rfl ?_) | simp only [decide_eq_true_eq, decide_eq_false_iff_not, Bool.not_eq_true', Bool.not_eq_false'] at * | simp (disch := omega) only [go_sem, Nat.reduceLT, Nat.reduceEqDiff, Nat.reduceAdd, Nat.reduceLeDiff, Nat.reduceMul, Int.reduceLT, Int.reduceLE, Int.reduceAdd, Int.reduceSub, Int.reduceNeg, Int.reduceToNat, Int.reduceBEq, Int.reduceEq, reduceCtorEq, ↓reduceIte, *] | (with_reducible first | refine tb_true ?_ | refine tb_false ?_) | ((with_reducible first | refine tb_split ?_ ?_ | refine wg_f ?_ ?_ | refine wg_t ?_ ?_ | refine wd_f ?_ ?_ | refine wd_t ?_ ?_) <;> intro _)
      exact ⟨_, _, Sub.of (.cons_cons _ (.cons_cons _ (.cons _ (.cons _ (.cons _ (.cons _ (.cons_cons _ .slnil))))))) (by omega)⟩
end Go.Proofs.YthahgmncnbeddaaGreatDoorA
