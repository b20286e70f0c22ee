/- strings.Builder: Grow of a fresh one. -/
import Derived.Test.YtkokongbnemkhaaGreatDoorPB2
import Derived.Lib.MakeNoZero
set_option linter.unusedVariables false
set_option linter.unusedSimpArgs false
namespace Go.Proofs.YtkokongbnemkhaaGreatDoorA
open Go Go.RowKit Go.Proofs
theorem cell_alloc {w : World} {o : Obj} {b i : Nat} {v : Value} (h : w.cell? ⟨b, i, none⟩ = some v) : (w.alloc o).cell? ⟨b, i, none⟩ = some v := by
  have hlt : b < w.heap.size := by
    rcases Nat.lt_or_ge b w.heap.size with q | q
    · exact q
    · unfold World.cell? at h; simp [Array.getElem?_eq_none q] at h
  unfold World.cell? at *
  rw [show (w.alloc o).heap[(⟨b, i, none⟩ : Addr).block]? = w.heap[(⟨b, i, none⟩ : Addr).block]? from Lib.alloc_old w o b hlt]; exact h
theorem frz_alloc {w : World} {o : Obj} {b i : Nat} {v : Value} (h0 : w.cell? ⟨b, i, none⟩ = some v) (h : w.frozen? ⟨b, i, none⟩ = false) : (w.alloc o).frozen? ⟨b, i, none⟩ = false := by
  have hlt : b < w.heap.size := by
    rcases Nat.lt_or_ge b w.heap.size with q | q
    · exact q
    · unfold World.cell? at h0; simp [Array.getElem?_eq_none q] at h0
  unfold World.frozen? at *
  rw [show (w.alloc o).heap[(⟨b, i, none⟩ : Addr).block]? = w.heap[(⟨b, i, none⟩ : Addr).block]? from Lib.alloc_old w o b hlt]; exact h
theorem u8u : Tryz.prog.underlying 113 = some (.slice 5) := by kernel_rfl
set_option maxHeartbeats 2000000 in
set_option maxRecDepth 1000000 in
theorem grow_row (b n : Nat) (w : World) (c0 : w.cell? ⟨b, 1, none⟩ = some (.slice none 0 0)) (f0 : w.frozen? ⟨b, 1, none⟩ = false) (hn : n ≤ 281474976710656) :
    Calls Tryz.prog 84 #[.pointer (some ⟨b, 0, none⟩), .int .i64 n] w fun e w' => e = .returned (.tuple #[]) ∧ ∃ cs : Array Value, n ≤ cs.size ∧ w' = ((w.alloc (.cells cs 5)).setCell ⟨b, 1, none⟩ (.slice (some ⟨w.heap.size, 0, none⟩) 0 cs.size)).drew.drew.drew := by
  obtain ⟨cs, hrun, hle, hmax⟩ := Lib.run_makeNoZero (P := Tryz.prog) w.drew #[3] 113 5 u8u n hn
  have hw : IntKind.i64.wrap (n : Int) = n := by
    rw [IntKind.wrap_i64]
    omega
  have hcall : (callFunc 114 #[.int .i64 (IntKind.i64.wrap (n : Int))]).run Tryz.prog w.drew = .ok (.value (.slice (some ⟨w.drew.heap.size, 0, none⟩) n cs.size)) (w.drew.drew.drew.alloc (.cells cs 5)) := by
    rw [hw, run_callFunc_extern Tryz.func114 (by kernel_rfl) (by kernel_rfl) (by kernel_rfl) (e := Extern.BytealgMakeNoZero.makeNoZero #[3] #[113]) (by kernel_rfl), hrun]
    rfl
  have c1 : w.drew.cell? ⟨b, 1, none⟩ = some (.slice none 0 0) := c0
  have c2 : (w.alloc (.cells cs 5)).cell? ⟨b, 1, none⟩ = some (.slice none 0 0) := cell_alloc c0
  have f2 : (w.alloc (.cells cs 5)).frozen? ⟨b, 1, none⟩ = false := frz_alloc c0 f0
  have hcopy : ∀ W : World, (Builtin.copy_ #[113, 113] 3 #[.slice (some ⟨w.heap.size, 0, none⟩) 0 cs.size, .slice none 0 0]).run Tryz.prog W = .ok (goInt 0) W :=
    fun W => run_copy_none W 113 113 3 5 _ _ 0 cs.size 0 0 u8u (by kernel_rfl) rfl
  clear hw
  have mixed : Tryz.prog.follows .mixedOrders = true := by kernel_rfl
  go_enter Tryz.func84, Tryz.ntmps84
  go_wp2
  go_region_o
  all_goals (go_wp2; go_end0; exact ⟨rfl, cs, hle, rfl⟩)
end Go.Proofs.YtkokongbnemkhaaGreatDoorA
/- strings.Builder: Grow of a fresh one as a contract. -/
set_option linter.unusedVariables false
set_option linter.unusedSimpArgs false
namespace Go.Proofs.YtkokongbnemkhaaGreatDoorA
open Go Go.RowKit Go.Proofs
set_option maxHeartbeats 2000000 in
set_option maxRecDepth 1000000 in
theorem Grow_row (b n k : Nat) (hk : 2 ≤ k) (w : World) (h0 : w.cell? ⟨b, 0, none⟩ = some (.pointer none)) (c0 : w.cell? ⟨b, 1, none⟩ = some (.slice none 0 0)) (hsh : w.shape? b = some (115, k)) (f0 : w.frozen? ⟨b, 0, none⟩ = false) (f1 : w.frozen? ⟨b, 1, none⟩ = false) (hn1 : 1 ≤ n) (hn : n ≤ 281474976710656) :
    Calls Tryz.prog 62 #[.pointer (some ⟨b, 0, none⟩), .int .i64 n] w fun e w' => e = .returned (.tuple #[]) ∧ ∃ cs : Array Value, n ≤ cs.size ∧ w' = (((w.setCell ⟨b, 0, none⟩ (.pointer (some ⟨b, 0, none⟩))).alloc (.cells cs 5)).setCell ⟨b, 1, none⟩ (.slice (some ⟨w.heap.size, 0, none⟩) 0 cs.size)).drew.drew.drew.drew := by
  have c1 : (w.setCell ⟨b, 0, none⟩ (.pointer (some ⟨b, 0, none⟩))).cell? ⟨b, 1, none⟩ = some (.slice none 0 0) := by rw [World.cell?_setCell_other _ _ _ _ (by simp)]; exact c0
  have f2 : (w.setCell ⟨b, 0, none⟩ (.pointer (some ⟨b, 0, none⟩))).frozen? ⟨b, 1, none⟩ = false := by rw [World.frozen?_setCell]; exact f1
  have c1' : (w.setCell ⟨b, 0, none⟩ (.pointer (some ⟨b, 0, none⟩))).drew.cell? ⟨b, 1, none⟩ = some (.slice none 0 0) := c1
  have hz : (w.setCell ⟨b, 0, none⟩ (.pointer (some ⟨b, 0, none⟩))).drew.heap.size = w.heap.size := by simp [World.setCell, World.drew, -World.drew_eq]
  have mixed : Tryz.prog.follows .mixedOrders = true := by kernel_rfl
  have hnn : ¬ (n : Int) < 0 := by omega
  have hn0 : (0 : Int) < n := by omega
  have e1 : ∀ args w, (callFunc 83 args).run Tryz.prog w = .ok (.enter 83 args) w := enters_of Tryz.func83 (by kernel_rfl) rfl
  have e2 : ∀ args w, (callFunc 84 args).run Tryz.prog w = .ok (.enter 84 args) w := enters_of Tryz.func84 (by kernel_rfl) rfl
  go_enter Tryz.func62, Tryz.ntmps62
  go_wp2_with (go_at_fn 83; refine (copyCheck_fresh b k hk w h0 hsh f0).mono ?_; rintro e w' ⟨rfl, rfl⟩)
  go_region_o
  all_goals go_wp2_with (go_at_fn 84; refine (grow_row b n (w.setCell ⟨b, 0, none⟩ (.pointer (some ⟨b, 0, none⟩))).drew c1' f2 hn).mono ?_; rintro e w' ⟨rfl, cs, h1, rfl⟩)
  all_goals (go_end0; exact ⟨rfl, cs, h1, rfl⟩)
section
variable {E : Env}
theorem growH (hP : E.P = Tryz.prog) {c : List (Nat × Ent)} {id m n : Nat} (hid : id < m) (hn1 : 1 ≤ n) (hn : n ≤ 281474976710656) (ht : tyOf c id = some 115) (hl : look c id = some (.rows 2 [[.np, .nils]])) :
    MeetsH E 62 [.ptr id 0 0, .i .i64 n] ⟨c, m⟩ (Is (.ret (.tup [])) ⟨upd ((m, .tr 5 1 []) :: upd c id (.rows 2 [[.ptr id 0 0, .nils]])) id (.rows 2 [[.ptr id 0 0, .osl m 0 0]]), m + 1⟩) := by
  refine ⟨by rw [hP]; exact ⟨_, Tryz.func62, rfl, by decide⟩, fun F G ok w vals hM hg I hs hr => ?_⟩
  rw [hP]
  obtain ⟨x, y, rfl, rx, ry⟩ : ∃ x y, vals = #[x, y] ∧ Rep ok w G x (.ptr id 0 0) ∧ Rep ok w G y (.i .i64 n) := by
    obtain ⟨l⟩ := vals
    match l, hs with
    | [x, y], _ => exact ⟨x, y, rfl, hr 0 x _ rfl rfl, hr 1 y _ rfl rfl⟩
  cases ry
  cases rx with
  | ptr _ _ _ _ p hp =>
  obtain ⟨hbase, k, hsh⟩ := I.ty ht hp
  obtain ⟨p', hp', ⟨hk, cs, t, fz, e1, e2, e3, e4, e5, e6⟩, hno⟩ := I.rel.look' hl
  rw [hp] at hp'; cases hp'
  simp only [hbase, Nat.zero_mul, Nat.zero_add]
  simp only [hbase, hk, Nat.zero_add, List.length_cons, List.length_nil, Nat.one_mul] at e3 e4 e6
  obtain ⟨v0, h0, r0, _⟩ := e6 0 _ rfl 0 .np rfl
  obtain ⟨v1, h1, r1, o1⟩ := e6 0 _ rfl 1 .nils rfl
  simp only [Nat.zero_mul, Nat.zero_add] at h0 h1
  have hc0 : w.cell? ⟨p.b, 0, none⟩ = some v0 := by rw [cell_of_row w p.b 0 cs t fz e1]; exact h0
  have hc1 : w.cell? ⟨p.b, 1, none⟩ = some v1 := by rw [cell_of_row w p.b 1 cs t fz e1]; exact h1
  have hkk : k = cs.size := by unfold World.shape? at hsh; rw [e1] at hsh; cases hsh; rfl
  have hfz : ∀ i, i < 2 → w.frozen? ⟨p.b, i, none⟩ = false := fun i hi => by
    unfold World.frozen?
    rw [e1, Bool.eq_false_iff]
    intro hf
    have := e4 i (Nat.zero_le _) (by simpa using hf)
    omega
  cases r0
  cases r1 with
  | nils =>
  refine (Grow_row p.b n k (by omega) w hc0 hc1 hsh (hfz 0 (by omega)) (hfz 1 (by omega)) hn1 hn).mono ?_
  rintro e w' ⟨rfl, ds, hds, rfl⟩
  have s1 := I.store (l' := [[.ptr id 0 0, .nils]]) hl hp e1 (cs' := cs.setIfInBounds 0 (.pointer (some ⟨p.b, 0, none⟩))) (by simp) (fun i hi => absurd hi (by rw [hbase]; omega)) rfl (by simp) (fun i row hi j a hj => by
    rw [hbase, hk]
    match i, hi with
    | 0, hi =>
      cases hi
      match j, hj with
      | 0, hj =>
        cases hj
        refine ⟨.pointer (some ⟨p.b, 0, none⟩), by (have h2 : 0 < cs.size := by omega); simp [h2], ?_, rfl⟩
        have := Rep.ptr (ok := ok) (w := w) G id 0 0 p hp
        simpa [hbase] using this
      | 1, hj => cases hj; exact ⟨_, by simp [Array.getElem?_setIfInBounds, h1], .nils _, o1⟩
      | j + 2, hj => simp at hj
    | i + 1, hi => simp at hi)
  rw [← setCell_row e1] at s1
  have hsz : (w.setCell ⟨p.b, 0, none⟩ (.pointer (some ⟨p.b, 0, none⟩))).heap.size = w.heap.size := by simp [World.setCell]
  generalize w.setCell ⟨p.b, 0, none⟩ (.pointer (some ⟨p.b, 0, none⟩)) = W at *
  obtain ⟨a1, i1⟩ := s1
  have s2 := i1.alloc (w' := W.alloc (.cells ds 5)) (cs := ds) (t := 5) (fz := (0, 0)) rfl rfl rfl rfl (.inl rfl) (some 5) (fun u q => by cases q; rfl) 1 [] (by simp) (by simp) (by simp)
  obtain ⟨a2, i2⟩ := s2
  have hne : ¬ m = id := by omega
  have hl2 : look ((m, entT (some 5) 1 []) :: upd c id (.rows 2 [[.ptr id 0 0, .nils]])) id = some (.rows 2 [[.ptr id 0 0, .nils]]) := by
    unfold look
    rw [if_neg hne]
    exact look_updR _ _ hl
  have hG : ext G m ⟨W.heap.size, 0, 1, ds.size⟩ id = some p := by unfold ext; rw [if_neg (fun q => hne q.symm)]; exact hp
  obtain ⟨p2, hp2, ⟨hk2, cs2, t2, fz2, g1, g2, g3, g4, g5, g6⟩, hno2⟩ := i2.rel.look' hl2
  simp only at hp2
  rw [hG] at hp2; cases hp2
  simp only [hbase, hk, Nat.zero_add, List.length_cons, List.length_nil, Nat.one_mul] at g3 g6
  obtain ⟨v0, h0, r0, o0⟩ := g6 0 _ rfl 0 _ rfl
  simp only [Nat.zero_mul, Nat.zero_add] at h0
  have s3 := i2.store (l' := [[.ptr id 0 0, .osl m 0 0]]) hl2 hG g1 (cs' := cs2.setIfInBounds 1 (.slice (some ⟨W.heap.size, 0, none⟩) 0 ds.size)) (by simp) (fun i hi => absurd hi (by rw [hbase]; omega)) rfl (by simp) (fun i row hi j a hj => by
    rw [hbase, hk]
    match i, hi with
    | 0, hi =>
      cases hi
      match j, hj with
      | 0, hj => cases hj; exact ⟨v0, by simp [Array.getElem?_setIfInBounds, h0], r0, o0⟩
      | 1, hj =>
        cases hj
        refine ⟨.slice (some ⟨W.heap.size, 0, none⟩) 0 ds.size, by (have h2 : 1 < cs2.size := by omega); simp [h2], ?_, rfl⟩
        have hGm : ext G m ⟨W.heap.size, 0, 1, ds.size⟩ m = some ⟨W.heap.size, 0, 1, ds.size⟩ := by unfold ext; rw [if_pos rfl]
        have := Rep.osl (ok := ok) (w := W.alloc (.cells ds 5)) (ext G m ⟨W.heap.size, 0, 1, ds.size⟩) m 0 0 ds.size ⟨W.heap.size, 0, 1, ds.size⟩ hGm (Nat.zero_le _) (by simp)
        simpa using this
      | j + 2, hj => simp at hj
    | i + 1, hi => simp at hi)
  rw [← setCell_row g1] at s3
  obtain ⟨a3, i3⟩ := s3
  obtain ⟨a4, i4⟩ := i3.drawn (w' := ((W.alloc (.cells ds 5)).setCell ⟨p.b, 1, none⟩ (.slice (some ⟨W.heap.size, 0, none⟩) 0 ds.size)).drew.drew.drew.drew) rfl rfl rfl rfl
  rw [← hsz]
  exact ⟨.tup [], _, _, ok, ⟨rfl, rfl⟩, ((a1.trans a2).trans a3).trans a4, .tup _ #[] [] rfl (fun j v a q => by simp at q), i4⟩
end
end Go.Proofs.YtkokongbnemkhaaGreatDoorA
