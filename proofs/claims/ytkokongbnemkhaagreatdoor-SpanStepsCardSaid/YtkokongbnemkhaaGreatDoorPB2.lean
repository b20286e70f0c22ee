/- strings.Builder: its methods as contracts over own blocks. -/
import Derived.Test.YtkokongbnemkhaaGreatDoorPB1
import Derived.Laws.Rows
set_option linter.unusedVariables false
set_option linter.unusedSimpArgs false
namespace Go.Proofs.YtkokongbnemkhaaGreatDoorA
open Go Go.RowKit Go.Proofs
theorem setCell_row {w : World} {b i : Nat} {cs : Array Value} {t : TypeId} {fz : Nat × Nat} (h : w.heap[b]? = some (.cells cs t fz)) (v : Value) : w.setCell ⟨b, i, none⟩ v = w.setRow b (cs.setIfInBounds i v) := by
  unfold World.setCell World.setRow
  have hlt : b < w.heap.size := (Array.getElem?_eq_some_iff.1 h).1
  have hv : w.heap[b] = .cells cs t fz := (Array.getElem?_eq_some_iff.1 h).2
  congr 1
  apply Array.ext
  · simp
  · intro j h1 h2
    simp only [Array.getElem_modify]
    split
    · rename_i hj; subst hj; simp [hv]
    · rfl
theorem rep1 {ok : Okc} {w : World} {G : Gh} {vals : Array Value} {a : AV} (hl : vals.size = 1) (hr : ∀ (j : Nat) v b, vals[j]? = some v → [a][j]? = some b → Rep ok w G v b) : ∃ x, vals = #[x] ∧ Rep ok w G x a := by
  obtain ⟨l⟩ := vals
  match l, hl with
  | [x], _ => exact ⟨x, rfl, hr 0 x a rfl rfl⟩
section
variable {E : Env}
theorem copyCheckH (hP : E.P = Tryz.prog) {c : List (Nat × Ent)} {id m : Nat} {a b : AV} (ht : tyOf c id = some 115) (hl : look c id = some (.rows 2 [[a, b]])) (ha : a = .np ∨ a = .ptr id 0 0) :
    MeetsH E 83 [.ptr id 0 0] ⟨c, m⟩ (Is (.ret (.tup [])) ⟨upd c id (.rows 2 [[.ptr id 0 0, b]]), m⟩) := by
  refine ⟨by rw [hP]; exact ⟨_, Tryz.func83, rfl, by decide⟩, fun F G ok w vals hM hg I hs hr => ?_⟩
  rw [hP]
  obtain ⟨x, rfl, rx⟩ := rep1 hs hr
  cases rx with
  | ptr _ _ _ _ p hp =>
  obtain ⟨hbase, n, hsh⟩ := I.ty ht hp
  obtain ⟨p', hp', ⟨hk, cs, t, fz, e1, e2, e3, e4, e5, e6⟩, hno⟩ := I.rel.look' hl
  rw [hp] at hp'; cases hp'
  simp only [hbase, Nat.zero_mul, Nat.zero_add]
  simp only [hbase, hk, Nat.zero_add, List.length_cons, List.length_nil, Nat.one_mul] at e3 e4 e6
  obtain ⟨v0, h0, r0, _⟩ := e6 0 _ rfl 0 a rfl
  obtain ⟨v1, h1, r1, o1⟩ := e6 0 _ rfl 1 b rfl
  simp only [Nat.zero_mul, Nat.zero_add] at h0 h1
  have hc0 : w.cell? ⟨p.b, 0, none⟩ = some v0 := by rw [cell_of_row w p.b 0 cs t fz e1]; exact h0
  have hn : n = cs.size := by unfold World.shape? at hsh; rw [e1] at hsh; cases hsh; rfl
  have hsz : 2 ≤ cs.size := by omega
  rcases ha with rfl | rfl
  · have hv0 : v0 = .pointer none := by cases r0; rfl
    subst hv0
    refine (copyCheck_fresh p.b n (by omega) w hc0 hsh ?_).mono ?_
    · unfold World.frozen?
      rw [e1]
      rw [Bool.eq_false_iff]
      intro hf
      have := e4 0 (Nat.zero_le _) (by simpa using hf)
      omega
    · rintro e w' ⟨rfl, rfl⟩
      rw [setCell_row e1]
      have st := I.store (l' := [[.ptr id 0 0, b]]) hl hp e1 (cs' := cs.setIfInBounds 0 (.pointer (some ⟨p.b, 0, none⟩))) (by simp) (fun i hi => absurd hi (by rw [hbase]; omega)) rfl (by simp) (fun i row hi j a hj => by
        rw [hbase, hk]
        match i, hi with
        | 0, hi =>
          cases hi
          match j, hj with
          | 0, hj =>
            cases hj
            refine ⟨.pointer (some ⟨p.b, 0, none⟩), by (have h2 : 0 < cs.size := by omega); simp [h2], ?_, rfl⟩
            have := Rep.ptr (ok := ok) (w := w) G id 0 0 p hp
            simpa [hbase] using this
          | 1, hj => cases hj; exact ⟨v1, by simp [Array.getElem?_setIfInBounds, h1], r1, o1⟩
          | j + 2, hj => simp at hj
        | i + 1, hi => simp at hi)
      exact ⟨.tup [], _, G, ok, ⟨rfl, rfl⟩, st.1, .tup _ #[] [] rfl (fun j v a q => by simp at q), st.2⟩
  · have hv0 : v0 = .pointer (some ⟨p.b, 0, none⟩) := by
      cases r0 with
      | ptr _ _ _ _ q hq => rw [hp] at hq; cases hq; simp [hbase]
    subst hv0
    refine (copyCheck_used p.b w hc0).mono ?_
    rintro e w' ⟨rfl, rfl⟩
    exact ⟨.tup [], ⟨c, m⟩, G, ok, ⟨rfl, by rw [upd_same hl]⟩, .refl .., .tup _ #[] [] rfl (fun j v a q => by simp at q), I⟩
theorem freeze_heap {w : World} {g n : Nat} {cs : Array Value} {t : TypeId} {fz : Nat × Nat} (h : w.heap[g]? = some (.cells cs t fz)) : ∃ fz', (w.freeze ⟨g, 0, none⟩ n).heap[g]? = some (.cells cs t fz') := by
  unfold World.freeze
  split
  · exact ⟨fz, h⟩
  · have hlt : g < w.heap.size := (Array.getElem?_eq_some_iff.1 h).1
    have hv : w.heap[g] = .cells cs t fz := (Array.getElem?_eq_some_iff.1 h).2
    obtain ⟨lo, hi⟩ := fz
    refine ⟨if lo == hi then (0, 0 + n) else (min lo 0, max hi (0 + n)), ?_⟩
    simp only [Array.getElem?_modify, ↓reduceIte, h, Option.map_some]
theorem freeze_other (w : World) (g n b : Nat) (h : b ≠ g) : (w.freeze ⟨g, 0, none⟩ n).heap[b]? = w.heap[b]? := by
  unfold World.freeze
  split
  · rfl
  · simp [Array.getElem?_modify, Ne.symm h]
theorem freeze_size (w : World) (g n : Nat) : (w.freeze ⟨g, 0, none⟩ n).heap.size = w.heap.size := by
  unfold World.freeze
  split <;> simp
/-- A string goes on in the place of an own block. -/
theorem Inv.frozen {F : Fr} {G : Gh} {ok : Okc} {w : World} {h : Hp} (I : Inv F G ok w h) {id : Nat} {e0 : Ent} {p : Pl} {cs : Array Value} {t : TypeId} {fz : Nat × Nat} (hm : (id, e0) ∈ h.c) (hp : G id = some p) (hg : w.heap[p.b]? = some (.cells cs t fz)) (n : Nat) :
    Adv G ok w G ok (w.freeze ⟨p.b, 0, none⟩ n) ∧ Inv F G ok (w.freeze ⟨p.b, 0, none⟩ n) ⟨rmv h.c id, h.n⟩ := by
  obtain ⟨fz', hg'⟩ := freeze_heap (n := n) hg
  have hcell : ∀ b i, (w.freeze ⟨p.b, 0, none⟩ n).cell? ⟨b, i, none⟩ = w.cell? ⟨b, i, none⟩ := fun b i => by
    by_cases hb : b = p.b
    · subst hb; rw [cell_of_row w p.b i cs t fz hg, cell_of_row _ p.b i cs t fz' hg']
    · unfold World.cell?; rw [freeze_other w p.b n b hb]
  have hsh : ∀ b, (w.freeze ⟨p.b, 0, none⟩ n).shape? b = w.shape? b := fun b => by
    unfold World.shape?
    by_cases hb : b = p.b
    · subst hb; rw [hg, hg']
    · rw [freeze_other w p.b n b hb]
  have A : Adv G ok w G ok (w.freeze ⟨p.b, 0, none⟩ n) := ⟨fun _ _ e => e, fun b i e => ⟨e, hcell b i⟩, fun b s e => by rw [hsh]; exact e⟩
  have hos : (w.freeze ⟨p.b, 0, none⟩ n).os = w.os ∧ (w.freeze ⟨p.b, 0, none⟩ n).tape = w.tape ∧ (w.freeze ⟨p.b, 0, none⟩ n).output = w.output := by
    unfold World.freeze
    split <;> exact ⟨rfl, rfl, rfl⟩
  refine ⟨A, hos.1.trans I.os, hos.2.1.trans I.tape, hos.2.2.trans I.output, by rw [freeze_size]; exact I.size, fun b hb hd => ?_, I.okeep, I.adv.trans A, fun b i q => by rw [freeze_size]; exact I.lt b i q, fun id' e q hm' hq => I.own id' e q (mem_rmv I.rel.nodup hm').2 hq, fun id' e' hm' => ?_, fun i1 i2 a1 a2 q1 q2 m1 m2 => I.rel.inj i1 i2 a1 a2 q1 q2 (mem_rmv I.rel.nodup m1).2 (mem_rmv I.rel.nodup m2).2, (sub_rmv id h.c).nodup I.rel.nodup, I.rel.fresh⟩
  · rw [freeze_other _ _ _ _ (fun q => ?_)]
    · exact I.keep b hb hd
    · subst q
      rcases I.own id e0 p hm hp with q | q
      · exact hd q
      · omega
  · obtain ⟨hne, hm'⟩ := mem_rmv I.rel.nodup hm'
    obtain ⟨q, hq, h1, h2⟩ := I.rel.look id' e' hm'
    exact ⟨q, hq, h1.adv A (freeze_other _ _ _ _ (I.rel.inj id' id _ _ q p hm' hm hne hq hp)), h2⟩
def byteRows (l : List UInt8) : List (List AV) := l.map fun b => [AV.i .u8 b.toNat]
theorem stringH (hP : E.P = Tryz.prog) {c : List (Nat × Ent)} {id idb m : Nat} {a : AV} {l : List UInt8} (h0 : l ≠ []) (h63 : l.length ≤ 9223372036854775807) (ht : tyOf c id = some 115) (hl : look c id = some (.rows 2 [[a, .osl idb 0 l.length]])) (htb : tyOf c idb = some 5) (hlb : look c idb = some (.rows 1 (byteRows l))) :
    MeetsH E 64 [.ptr id 0 0] ⟨c, m⟩ (Is (.ret (.s l)) ⟨rmv c idb, m⟩) := by
  refine ⟨by rw [hP]; exact ⟨_, Tryz.func64, rfl, by decide⟩, fun F G ok w vals hM hg I hs hr => ?_⟩
  rw [hP]
  obtain ⟨x, rfl, rx⟩ := rep1 hs hr
  obtain ⟨A0, I0⟩ := I.drawn (w' := w.drew) rfl rfl rfl rfl
  cases rx with
  | ptr _ _ _ _ p hp =>
  obtain ⟨hbase, n, hsh⟩ := I0.ty ht hp
  obtain ⟨p', hp', ⟨hk, cs, t, fz, e1, e2, e3, e4, e5, e6⟩, hno⟩ := I0.rel.look' hl
  rw [hp] at hp'; cases hp'
  simp only [hbase, Nat.zero_mul, Nat.zero_add]
  simp only [hbase, hk, Nat.zero_add, List.length_cons, List.length_nil, Nat.one_mul] at e3 e4 e6
  obtain ⟨v1, h1, r1, o1⟩ := e6 0 _ rfl 1 _ rfl
  simp only [Nat.zero_mul, Nat.zero_add] at h1
  have hc1 : w.drew.cell? ⟨p.b, 1, none⟩ = some v1 := by rw [cell_of_row w.drew p.b 1 cs t fz e1]; exact h1
  cases r1 with
  | osl _ _ _ _ cap q hq q1 q2 =>
  obtain ⟨hbq, sz, hshq⟩ := I0.ty htb hq
  obtain ⟨e00, hmb, _⟩ := look_mem hlb
  obtain ⟨q', hq', ⟨hkq, cq, tq, fq, g1, g2, g3, g4, g5, g6⟩, hnoq⟩ := I0.rel.look' hlb
  rw [hq] at hq'; cases hq'
  simp only [hbq, Nat.zero_mul, Nat.zero_add] at hc1
  simp only [hbq, hkq, Nat.zero_add, Nat.mul_one, byteRows, List.length_map] at g3 g6
  have hsz : sz = cq.size := by unfold World.shape? at hshq; rw [g1] at hshq; cases hshq; rfl
  refine (string_row p.b q.b cap sz l h0 w hc1 hshq (by omega) q1 h63 (fun j x hx => ?_)).mono ?_
  · obtain ⟨v, hv, rv, _⟩ := g6 j [.i .u8 x.toNat] (by rw [List.getElem?_map, hx]; rfl) 0 _ rfl
    rw [show (⟨q.b, 0, none⟩ : Addr).add j = ⟨q.b, j, none⟩ by (simp [Addr.add]; intro h; exact h.symm), cell_of_row w.drew q.b j cq tq fq g1]
    simp only [Nat.add_zero] at hv
    rw [hv]
    cases rv; rfl
  · rintro e w' ⟨rfl, rfl⟩
    obtain ⟨A1, I1⟩ := I0.frozen hmb hq g1 l.length
    exact ⟨.s l, _, G, ok, ⟨rfl, rfl⟩, A0.trans A1, by simpa using Rep.s (ok := ok) (w := w.drew.freeze ⟨q.b, 0, none⟩ l.length) G ⟨l.toArray⟩, I1⟩
theorem stringNilH (hP : E.P = Tryz.prog) {c : List (Nat × Ent)} {id m : Nat} {a : AV} (ht : tyOf c id = some 115) (hl : look c id = some (.rows 2 [[a, .nils]])) :
    MeetsH E 64 [.ptr id 0 0] ⟨c, m⟩ (Is (.ret (.s [])) ⟨c, m⟩) := by
  refine ⟨by rw [hP]; exact ⟨_, Tryz.func64, rfl, by decide⟩, fun F G ok w vals hM hg I hs hr => ?_⟩
  rw [hP]
  obtain ⟨x, rfl, rx⟩ := rep1 hs hr
  obtain ⟨A0, I0⟩ := I.drawn (w' := w.drew) rfl rfl rfl rfl
  cases rx with
  | ptr _ _ _ _ p hp =>
  obtain ⟨hbase, n, hsh⟩ := I0.ty ht hp
  obtain ⟨p', hp', ⟨hk, cs, t, fz, e1, e2, e3, e4, e5, e6⟩, hno⟩ := I0.rel.look' hl
  rw [hp] at hp'; cases hp'
  simp only [hbase, Nat.zero_mul, Nat.zero_add]
  simp only [hbase, hk, Nat.zero_add, List.length_cons, List.length_nil, Nat.one_mul] at e3 e4 e6
  obtain ⟨v1, h1, r1, o1⟩ := e6 0 _ rfl 1 _ rfl
  simp only [Nat.zero_mul, Nat.zero_add] at h1
  have hc1 : w.drew.cell? ⟨p.b, 1, none⟩ = some v1 := by rw [cell_of_row w.drew p.b 1 cs t fz e1]; exact h1
  cases r1 with
  | nils =>
  refine (string_nil p.b w hc1).mono ?_
  rintro e w' ⟨rfl, rfl⟩
  exact ⟨.s [], _, G, ok, ⟨rfl, rfl⟩, A0, by simpa using Rep.s (ok := ok) (w := w.drew) G ⟨#[]⟩, I0⟩
end
end Go.Proofs.YtkokongbnemkhaaGreatDoorA
