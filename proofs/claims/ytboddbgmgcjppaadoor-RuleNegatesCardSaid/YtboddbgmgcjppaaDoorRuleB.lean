import Derived.Test.YtboddbgmgcjppaaDoorQRuleNegatesx0
import Derived.Test.YtboddbgmgcjppaaDoorQRuleNegatesx1
import Derived.Test.YtboddbgmgcjppaaDoorQRuleNegatesx2
import Derived.Test.YtboddbgmgcjppaaDoorFar
import Derived.Test.YtboddbgmgcjppaaDoorRuleA
import Derived.WalkKit
import Derived.KernelRfl
import Derived.Outline
set_option linter.unusedVariables false
set_option linter.unusedSimpArgs false
namespace Go.Proofs.YtboddbgmgcjppaaDoor
open Go.RowKit Go.Proofs.YtboddbgmgcjppaaDoorW.PrintWords Go.Proofs.YtboddbgmgcjppaaDoorW.PrintLast Go.Proofs.YtboddbgmgcjppaaDoor.QRuleNegates Go.Proofs.YtboddbgmgcjppaaDoorFar
def valL (f : S24 → Option (Int × Int)) : List S24 → Int → Int → Int → Option (Int × Int × Int)
  | [], _, v0, v1 => some (0, v0, v1)
  | y :: r, i, v0, v1 => (f y).bind fun p => if i = 0 then (if p.2 = 0 then valL f r 1 p.1 v1 else some (p.2, 0, 0)) else if i = 1 then (if p.2 = 0 then valL f r 2 v0 p.1 else some (p.2, 0, 0)) else none
def clampO (x : Int) : Option (Int × Int) := if x < -2147483647 ∨ x > 2147483647 then some (0, 14) else some (x, 0)
def b2i (b : Bool) : Int := if b = true then 1 else 0
def opF (x : S24) (y v0 v1 : Int) : Option (Int × Int) :=
  if x.f0 = 1 then clampO x.f1 else if x.f0 = 2 then clampO y else if x.f0 = 3 then clampO (-v0) else if x.f0 = 4 then clampO (v0 + v1) else if x.f0 = 5 then clampO (v0 - v1) else if x.f0 = 6 then clampO (v0 * v1)
  else if x.f0 = 7 then ((whole_Div.f 3 v0 v1).bind fun t => if t.2.2 = 0 then clampO t.1 else some (0, t.2.2)) else if x.f0 = 8 then ((whole_Div.f 3 v0 v1).bind fun t => if t.2.2 = 0 then clampO t.2.1 else some (0, t.2.2))
  else if x.f0 = 9 then some (b2i (decide (v0 < v1)), 0) else if x.f0 = 10 then some (b2i (v0 == v1), 0) else if x.f0 = 11 then some (b2i (v0 == 0), 0) else if x.f0 = 12 then some (b2i (v0 != 0 && v1 != 0), 0) else if x.f0 = 13 then some (b2i (v0 != 0 || v1 != 0), 0) else some (0, 0)
def valF : Nat → S24 → Int → Option (Int × Int)
  | 0, _, _ => none
  | k + 1, x, y => (valL (fun z => valF k z y) x.f2 0 0 0).bind fun t => if t.1 = 0 then opF x y t.2.1 t.2.2 else some (0, t.1)
def VPost (w0 w : World) (g : Nat) (y r er : Int) (e : Ending) (w' : World) : Prop := e = .returned (.int .i64 r) ∧ w'.heap[g]? = some (.cells #[.int .i64 y, .int .i64 er] 34 (0, 0)) ∧ Below w0.heap.size w0 w' ∧ KeepBut w w' g none
/-- What holds ahead of the kid number i. -/
def VRel (k : Nat) (x : S24) (A : Option Addr) (cp : Nat) (y r er : Int) (w0 w : World) (g gb gv : Nat) (i : Int) (wr : World) : Prop :=
  ∃ v0 v1 : Int, (-2147483647 ≤ v0 ∧ v0 ≤ 2147483647) ∧ (-2147483647 ≤ v1 ∧ v1 ≤ 2147483647) ∧ ((valL (fun z => valF k z y) (x.f2.drop i.toNat) i v0 v1).bind fun t => if t.1 = 0 then opF x y t.2.1 t.2.2 else some (0, t.1)) = some (r, er) ∧ wr.heap[g]? = some (.cells #[.int .i64 y, .int .i64 0] 34 (0, 0)) ∧
    wr.heap[gb]? = some (.cells #[.int .i64 x.f0, .int .i64 x.f1, .slice A x.f2.length cp] 24 (0, 0)) ∧ wr.heap[gv]? = some (.cells #[.int .i64 v0, .int .i64 v1] 39 (0, 0)) ∧ Below w0.heap.size w0 wr ∧ KeepBut w wr g none
theorem clampO_bd {x v e : Int} (h : clampO x = some (v, e)) : -2147483647 ≤ v ∧ v ≤ 2147483647 := by
  unfold clampO at h
  split at h <;> (obtain ⟨rfl, rfl⟩ := Prod.mk.inj (Option.some.inj h); omega)
theorem b2i_bd (b : Bool) : 0 ≤ b2i b ∧ b2i b ≤ 1 := by unfold b2i; split <;> omega
theorem opF_bd {x : S24} {y v0 v1 v e : Int} (h : opF x y v0 v1 = some (v, e)) : -2147483647 ≤ v ∧ v ≤ 2147483647 := by
  have bb : ∀ b : Bool, some (b2i b, (0 : Int)) = some (v, e) → -2147483647 ≤ v ∧ v ≤ 2147483647 := fun b h => by
    obtain ⟨rfl, rfl⟩ := Prod.mk.inj (Option.some.inj h)
    have := b2i_bd b
    omega
  have dd : ∀ t : Int × Int × Int, ∀ z : Int, (if t.2.2 = 0 then clampO z else some (0, t.2.2)) = some (v, e) → -2147483647 ≤ v ∧ v ≤ 2147483647 := fun t z h => by
    split at h
    · exact clampO_bd h
    · obtain ⟨rfl, rfl⟩ := Prod.mk.inj (Option.some.inj h); omega
  unfold opF at h
  have el : ∀ {c : Prop} [Decidable c] {a b : Option (Int × Int)}, (if c then a else b) = some (v, e) → (a = some (v, e) → -2147483647 ≤ v ∧ v ≤ 2147483647) → (b = some (v, e) → -2147483647 ≤ v ∧ v ≤ 2147483647) → -2147483647 ≤ v ∧ v ≤ 2147483647 := by
    intro c _ a b h ha hb
    split at h
    · exact ha h
    · exact hb h
  have dv : ∀ {z : Int × Int × Int → Int}, ((whole_Div.f 3 v0 v1).bind fun t => if t.2.2 = 0 then clampO (z t) else some (0, t.2.2)) = some (v, e) → -2147483647 ≤ v ∧ v ≤ 2147483647 := fun {z} h => by
    obtain ⟨t, _, h⟩ := Option.bind_eq_some_iff.mp h
    exact dd t _ h
  refine el h clampO_bd fun h => el h clampO_bd fun h => el h clampO_bd fun h => el h clampO_bd fun h => el h clampO_bd fun h => el h clampO_bd fun h => el h dv fun h => el h (dv (z := fun t => t.2.1)) fun h => el h (bb _) fun h => el h (bb _) fun h => el h (bb _) fun h => el h (bb _) fun h => el h (bb _) fun h => ?_
  obtain ⟨rfl, rfl⟩ := Prod.mk.inj (Option.some.inj h)
  omega
theorem valF_bd {k : Nat} {x : S24} {y v e : Int} (h : valF k x y = some (v, e)) : -2147483647 ≤ v ∧ v ≤ 2147483647 := by
  cases k with
  | zero => cases h
  | succ k =>
    simp only [valF] at h
    obtain ⟨t, _, h⟩ := Option.bind_eq_some_iff.mp h
    split at h
    · exact opF_bd h
    · obtain ⟨rfl, rfl⟩ := Prod.mk.inj (Option.some.inj h); omega
theorem valL_step {f : S24 → Option (Int × Int)} {g : Int × Int × Int → Option (Int × Int)} {l : List S24} {i v0 v1 : Int} {r : Int × Int} (h : ((valL f (l.drop i.toNat) i v0 v1).bind g) = some r) (h0 : 0 ≤ i) (h1 : i < (l.length : Int)) :
    ∃ p1 p2, f (rd_T24 l i) = some (p1, p2) ∧ ((i = 0 ∧ ((p2 = 0 ∧ ((valL f (l.drop (1 : Int).toNat) 1 p1 v1).bind g) = some r) ∨ (p2 ≠ 0 ∧ g (p2, 0, 0) = some r))) ∨ (i = 1 ∧ ((p2 = 0 ∧ ((valL f (l.drop (2 : Int).toNat) 2 v0 p1).bind g) = some r) ∨ (p2 ≠ 0 ∧ g (p2, 0, 0) = some r)))) := by
  rw [List.drop_eq_getElem_cons (by omega)] at h
  simp only [valL] at h
  obtain ⟨t, h, hg⟩ := Option.bind_eq_some_iff.mp h
  obtain ⟨⟨p1, p2⟩, h2, h3⟩ := Option.bind_eq_some_iff.mp h
  have er : rd_T24 l i = l[i.toNat] := by unfold rd_T24; rw [List.getD_eq_getElem?_getD, List.getElem?_eq_getElem (by omega)]; rfl
  refine ⟨p1, p2, by rw [er]; exact h2, ?_⟩
  by_cases z : i = 0
  · subst z
    rw [if_pos rfl] at h3
    left
    refine ⟨rfl, ?_⟩
    by_cases z2 : p2 = 0
    · rw [if_pos z2] at h3
      exact .inl ⟨z2, Option.bind_eq_some_iff.mpr ⟨t, h3, hg⟩⟩
    · rw [if_neg z2] at h3
      obtain rfl := Option.some.inj h3
      exact .inr ⟨z2, hg⟩
  · rw [if_neg z] at h3
    by_cases z1 : i = 1
    · subst z1
      rw [if_pos rfl] at h3
      right
      refine ⟨rfl, ?_⟩
      by_cases z2 : p2 = 0
      · rw [if_pos z2] at h3
        exact .inl ⟨z2, Option.bind_eq_some_iff.mpr ⟨t, h3, hg⟩⟩
      · rw [if_neg z2] at h3
        obtain rfl := Option.some.inj h3
        exact .inr ⟨z2, hg⟩
    · rw [if_neg z1] at h3; cases h3
theorem two_cell {w : World} {g : Nat} {t : TypeId} {a b : Int} (h : w.heap[g]? = some (.cells #[.int .i64 a, .int .i64 b] t (0, 0))) (i : Int) (h0 : 0 ≤ i) (h1 : i < 2) : ∃ v, w.cell? ⟨g, i.toNat, none⟩ = some (.int .i64 v) := by
  rcases (show i = 0 ∨ i = 1 by omega) with rfl | rfl
  · exact ⟨a, (blk_cell h 0).trans rfl⟩
  · exact ⟨b, (blk_cell h 1).trans rfl⟩
theorem mul_bd {a b : Int} (h1 : -2147483647 ≤ a ∧ a ≤ 2147483647) (h2 : -2147483647 ≤ b ∧ b ≤ 2147483647) : -9223372036854775808 ≤ a * b ∧ a * b ≤ 9223372036854775807 := by
  have h : a.natAbs * b.natAbs ≤ 2147483647 * 2147483647 := Nat.mul_le_mul (by omega) (by omega)
  rw [← Int.natAbs_mul] at h
  omega
theorem valL_end {f : S24 → Option (Int × Int)} {g : Int × Int × Int → Option (Int × Int)} {l : List S24} {v0 v1 : Int} {r : Int × Int} (h : ((valL f (l.drop ((l.length : Int)).toNat) (l.length : Int) v0 v1).bind g) = some r) : g (0, v0, v1) = some r := by
  rw [Int.toNat_natCast, List.drop_length] at h
  exact h

set_option maxHeartbeats 16000000 in
set_option maxRecDepth 100000 in
theorem value_calls (k : Nat) : ∀ (x : S24) (A : Option Addr) (cp : Nat) (y r er : Int) (w0 w : World) (g : Nat) (hr : Kd.C k24 w0 A x.f2.length x.f2) (hc : x.f2.length ≤ cp) (hg : w0.heap.size ≤ g) (hw : w.heap[g]? = some (.cells #[.int .i64 y, .int .i64 0] 34 (0, 0))) (hb : Below w0.heap.size w0 w)
    (y0 : -10000 ≤ y) (y1 : y ≤ 10000) (h : valF k x y = some (r, er)),
    Calls Tryd.prog 8 #[.pointer (some ⟨g, 0, none⟩), .agg #[.int .i64 x.f0, .int .i64 x.f1, .slice A x.f2.length cp]] w (VPost w0 w g y r er) := by
  induction k with
  | zero => intro x A cp y r er w0 w g hr hc hg hw hb y0 y1 h; cases h
  | succ k ih =>
    intro x A cp y r er w0 w g hr hc hg hw hb y0 y1 h
    simp only [valF] at h
    have HR := Aside0.mk hr
    have HW := Aside0.mk hw
    have HB := Aside0.mk hb
    have HG := Aside0.mk hg
    have HW0 := Aside0.mk hb.size
    have HH := Aside0.mk h
    have IH := Aside0.mk ih
    clear hr hw hb hg h ih
    go_enter Tryd.func8, Tryd.ntmps8
    go_wp2_with (first | ((with_reducible refine gate_dst (N := 3) rfl ?_); refine box_event ?hg (N := 3) ?hd (cs := #[.int .i64 x.f0, .int .i64 x.f1, .slice A x.f2.length cp]) (t := 24) ?hr ?_; (case hd => rfl); (case hg => rfl); (case hr => first | (go_simp; done) | (go_simp; rfl)); intro gb hg w1 hbox hb; have HW1 := bb_ HW hb; have HB1 := Aside0.mk (below_step HB.out hb); have HK1 := Aside0.mk (KeepBut.of_below hb g none); have N1 := bl_ HW hg; have N2 := bg_ HW hg; have GB := Aside0.mk (show w.heap.size ≤ gb by rw [hg]; exact Nat.le_refl _); have BX := Aside0.mk hbox; clear hb hbox hg HW HB) | ((with_reducible refine gate_dst (N := 5) rfl ?_); refine box_event ?hg (N := 5) ?hd (cs := #[.int .i64 0, .int .i64 0]) (t := 39) ?hr ?_; (case hd => rfl); (case hg => rfl); (case hr => first | (go_simp; done) | (go_simp; rfl)); intro gv hg w2 hbox hb; have HW2 := bb_ HW1 hb; have HB2 := Aside0.mk (below_step HB1.out hb); have HK2 := Aside0.mk (HK1.out.trans (KeepBut.of_below hb g none) (.inl rfl)); have N3 := bl_ HW1 hg; have N4 := bg_ HW1 hg; have N5 := bl_ BX hg; have N6 := bg_ BX hg; have GV := Aside0.mk (show w.heap.size ≤ gv by rw [hg]; exact HK1.out.1); have BX2 := bb_ BX hb; have BV := Aside0.mk hbox; clear hb hbox hg HW1 HB1 HK1 BX; have hb2 := (show w2.cell? ⟨gb, 2, none⟩ = some (.slice A x.f2.length cp) from (blk_cell BX2.out 2).trans rfl)))
    have HREL := Aside0.mk (show VRel k x A cp y r er w0 w g gb gv 0 w2 from ⟨0, 0, by omega, by omega, HH.out, HW2.out, BX2.out, BV.out, HB2.out, HK2.out⟩)
    clear HW2 HB2 HK2 BX2 BV HH hb2
    go_loopw [15] (fun v wr => ∃ i : Int, 0 ≤ i ∧ i ≤ (x.f2.length : Int) ∧ v = .int .i64 i ∧ Aside0 (VRel k x A cp y r er w0 w g gb gv i wr)) (fun v _ => x.f2.length - (intOf v).toNat)
    case atStart => exact ⟨0, by omega, by omega, rfl, HREL⟩
    case round =>
      clear HREL
      obtain ⟨i, j0, j1, rfl, HR0⟩ := hrel
      obtain ⟨v0, v1, vb0, vb1, hl, hwr, hxr, hvr, hbr, hkr⟩ := HR0.out
      have HWr := Aside0.mk hwr
      have BXr := Aside0.mk hxr
      have BVr := Aside0.mk hvr
      have HBr := Aside0.mk hbr
      have HKr := Aside0.mk hkr
      clear hwr hxr hvr hbr hkr HR0
      have hlm := (show x.f2.length ≤ 9223372036854775807 from HR.out.2.1)
      by_cases hlt : i < (x.f2.length : Int)
      · obtain ⟨p1, p2, hf, hn⟩ := valL_step hl j0 hlt
        have HF := Aside0.mk hf
        have pb := valF_bd hf
        clear hf hl
        obtain ⟨ad, A2, cp2, eA, hx0, hx1, hx2, l2, g2⟩ := at_T24 HR.out i j0 hlt
        cases eA
        replace hx0 := bc_ HBr hx0
        replace hx1 := bc_ HBr hx1
        replace hx2 := bc_ HBr hx2
        have G2 := Aside0.mk g2
        have L2 := Aside0.mk l2
        clear g2 l2
        have hi2 : i < 2 := by rcases hn with ⟨h, _⟩ | ⟨h, _⟩ <;> omega
        have HN := Aside0.mk hn
        clear hn
        have qi : (i < (x.f2.length : Int)) = True := eq_true hlt
        have pi : (0 ≤ i) = True := eq_true j0
        have t1 : decide (i < (x.f2.length : Int)) = true := decide_eq_true hlt
        by_cases z : p2 = 0
        · have z1 : (p2 == 0) = true := beq_iff_eq.mpr z
          have z2 : (p2 != 0) = false := bne_eq_false_iff_eq.mpr z
          clear z
          go_wp2_with (first | ((with_reducible refine gate_dst (N := 7) rfl ?_); refine box_event ?hg (N := 7) ?hd (cs := #[.int .i64 0, .int .i64 0, .slice none 0 0]) (t := 24) ?hr ?_; (case hd => rfl); (case hg => rfl); (case hr => first | (go_simp; done) | (go_simp; rfl)); intro gq hg wq hbox hb; have HWq := bb_ HWr hb; have BXq := bb_ BXr hb; have BVq := bb_ BVr hb; have HBq := Aside0.mk (below_step HBr.out hb); have HKq := Aside0.mk (HKr.out.trans (KeepBut.of_below hb g none) (.inl rfl)); have m1 := bl_ HWr hg; have m2 := bg_ HWr hg; have m3 := bl_ BXr hg; have m4 := bl_ BVr hg; have GQ := Aside0.mk (show w.heap.size ≤ gq by rw [hg]; exact HKr.out.1); have BQ := Aside0.mk hbox; obtain ⟨hz0, hz1, hz2⟩ := cells3 BQ; have hy0 := blk_frozen BQ.out 0; have hy1 := blk_frozen BQ.out 1; have hy2 := blk_frozen BQ.out 2; clear hb hbox hg hx0 hx1 hx2 HWr HBr HKr BXr BVr) | (go_at_call 8; (with_reducible refine (IH.out (rd_T24 x.f2 i) A2 cp2 y p1 p2 w0 _ g G2.out L2.out HG.out (blk_far (blk_far (blk_far HWq.out m1.out _) m1.out _) m1.out _) (below_set (below_set (below_set HBq.out (Nat.le_trans HW0.out GQ.out)) (Nat.le_trans HW0.out GQ.out)) (Nat.le_trans HW0.out GQ.out)) y0 y1 HF.out).mono ?_); rintro e w3 ⟨rfl, hw3, hb3, hk3⟩; have HW3 := Aside0.mk hw3; have HB3 := Aside0.mk hb3; have BX3 := Aside0.mk (hk3.blk (blk_far (blk_far (blk_far BXq.out m3.out _) m3.out _) m3.out _) N2.out (by simp)); have BV3 := Aside0.mk (hk3.blk (blk_far (blk_far (blk_far BVq.out m4.out _) m4.out _) m4.out _) N4.out (by simp)); have HK3 := Aside0.mk ((keep_far (keep_far (keep_far HKq.out GQ.out _) GQ.out _) GQ.out _).trans hk3 (.inl rfl)); clear hw3 hb3 hk3 HWq HBq HKq BXq BVq BQ hz0 hz1 hz2 hy0 hy1 hy2 m1 m2 m3 m4; obtain ⟨vv, hv0⟩ := two_cell BV3.out i j0 hi2; have hf0 := blk_frozen BV3.out i.toNat; have n3 := N3.out; have n4 := N4.out; have hg1 := (show w3.cell? ⟨g, 1, none⟩ = some (.int .i64 p2) from (blk_cell HW3.out 1).trans rfl)))
          go_roundw
          case rel =>
            obtain rfl := eq_of_beq z1
            refine ⟨i + 1, by omega, by omega, by first | rfl | (simp; done) | go_num, ?_⟩
            rcases HN.out with ⟨h0, h⟩ | ⟨h0, h⟩
            · subst h0
              rcases h with ⟨_, h⟩ | ⟨h, _⟩
              · exact ⟨⟨p1, v1, pb, vb1, h, blk_far HW3.out N3.out _, blk_far BX3.out N5.out _, blk_put (cs := #[.int .i64 v0, .int .i64 v1]) BV3.out 0 _ rfl, below_set HB3.out (Nat.le_trans HW0.out GV.out), keep_far HK3.out GV.out _⟩⟩
              · exact absurd rfl h
            · subst h0
              rcases h with ⟨_, h⟩ | ⟨h, _⟩
              · exact ⟨⟨v0, p1, vb0, pb, h, blk_far HW3.out N3.out _, blk_far BX3.out N5.out _, blk_put (cs := #[.int .i64 v0, .int .i64 v1]) BV3.out 1 _ rfl, below_set HB3.out (Nat.le_trans HW0.out GV.out), keep_far HK3.out GV.out _⟩⟩
              · exact absurd rfl h
          case measure => simp [intOf]; omega
        · have z1 : (p2 == 0) = false := beq_eq_false_iff_ne.mpr z
          have z2 : (p2 != 0) = true := bne_iff_ne.mpr z
          have HZ := Aside0.mk z
          clear z
          go_wp2_with (first | ((with_reducible refine gate_dst (N := 7) rfl ?_); refine box_event ?hg (N := 7) ?hd (cs := #[.int .i64 0, .int .i64 0, .slice none 0 0]) (t := 24) ?hr ?_; (case hd => rfl); (case hg => rfl); (case hr => first | (go_simp; done) | (go_simp; rfl)); intro gq hg wq hbox hb; have HWq := bb_ HWr hb; have BXq := bb_ BXr hb; have BVq := bb_ BVr hb; have HBq := Aside0.mk (below_step HBr.out hb); have HKq := Aside0.mk (HKr.out.trans (KeepBut.of_below hb g none) (.inl rfl)); have m1 := bl_ HWr hg; have m2 := bg_ HWr hg; have m3 := bl_ BXr hg; have m4 := bl_ BVr hg; have GQ := Aside0.mk (show w.heap.size ≤ gq by rw [hg]; exact HKr.out.1); have BQ := Aside0.mk hbox; obtain ⟨hz0, hz1, hz2⟩ := cells3 BQ; have hy0 := blk_frozen BQ.out 0; have hy1 := blk_frozen BQ.out 1; have hy2 := blk_frozen BQ.out 2; clear hb hbox hg hx0 hx1 hx2 HWr HBr HKr BXr BVr) | (go_at_call 8; (with_reducible refine (IH.out (rd_T24 x.f2 i) A2 cp2 y p1 p2 w0 _ g G2.out L2.out HG.out (blk_far (blk_far (blk_far HWq.out m1.out _) m1.out _) m1.out _) (below_set (below_set (below_set HBq.out (Nat.le_trans HW0.out GQ.out)) (Nat.le_trans HW0.out GQ.out)) (Nat.le_trans HW0.out GQ.out)) y0 y1 HF.out).mono ?_); rintro e w3 ⟨rfl, hw3, hb3, hk3⟩; have HW3 := Aside0.mk hw3; have HB3 := Aside0.mk hb3; have BX3 := Aside0.mk (hk3.blk (blk_far (blk_far (blk_far BXq.out m3.out _) m3.out _) m3.out _) N2.out (by simp)); have BV3 := Aside0.mk (hk3.blk (blk_far (blk_far (blk_far BVq.out m4.out _) m4.out _) m4.out _) N4.out (by simp)); have HK3 := Aside0.mk ((keep_far (keep_far (keep_far HKq.out GQ.out _) GQ.out _) GQ.out _).trans hk3 (.inl rfl)); clear hw3 hb3 hk3 HWq HBq HKq BXq BVq BQ hz0 hz1 hz2 hy0 hy1 hy2 m1 m2 m3 m4; obtain ⟨vv, hv0⟩ := two_cell BV3.out i j0 hi2; have hf0 := blk_frozen BV3.out i.toNat; have n3 := N3.out; have n4 := N4.out; have hg1 := (show w3.cell? ⟨g, 1, none⟩ = some (.int .i64 p2) from (blk_cell HW3.out 1).trans rfl)))
          go_ret
          have hE : r = 0 ∧ er = p2 := by
            have key : (if p2 = 0 then opF x y 0 0 else some (0, p2)) = some (r, er) := by
              rcases HN.out with ⟨_, ⟨h, _⟩ | ⟨_, h⟩⟩ | ⟨_, ⟨h, _⟩ | ⟨_, h⟩⟩
              · exact absurd h HZ.out
              · exact h
              · exact absurd h HZ.out
              · exact h
            rw [if_neg HZ.out] at key
            obtain ⟨rfl, rfl⟩ := Prod.mk.inj (Option.some.inj key)
            exact ⟨rfl, rfl⟩
          exact ⟨by rw [hE.1]; rfl, by rw [hE.2]; exact blk_far HW3.out N3.out _, below_set HB3.out (Nat.le_trans HW0.out GV.out), keep_far HK3.out GV.out _⟩
      · obtain rfl : i = (x.f2.length : Int) := by omega
        have hop : opF x y v0 v1 = some (r, er) := by have := valL_end hl; simpa using this
        clear hl hlt j0 j1
        have t1 : decide ((x.f2.length : Int) < (x.f2.length : Int)) = false := decide_eq_false (by omega)
        have c0 := (show wr.cell? ⟨gb, 0, none⟩ = some (.int .i64 x.f0) from (blk_cell BXr.out 0).trans rfl)
        have c1 := (show wr.cell? ⟨gb, 1, none⟩ = some (.int .i64 x.f1) from (blk_cell BXr.out 1).trans rfl)
        have c2 := (show wr.cell? ⟨gv, 0, none⟩ = some (.int .i64 v0) from (blk_cell BVr.out 0).trans rfl)
        have c3 := (show wr.cell? ⟨gv, 1, none⟩ = some (.int .i64 v1) from (blk_cell BVr.out 1).trans rfl)
        have c4 := (show wr.cell? ⟨g, 0, none⟩ = some (.int .i64 y) from (blk_cell HWr.out 0).trans rfl)
        have c5 := (show wr.cell? ⟨g, 1, none⟩ = some (.int .i64 0) from (blk_cell HWr.out 1).trans rfl)
        have f5 := blk_frozen HWr.out 1
        by_cases hx : x.f0 = 1
        · have k1 : (x.f0 == 1) = true := beq_iff_eq.mpr hx
          have k2 : (x.f0 == 2) = false := beq_eq_false_iff_ne.mpr (by omega)
          have k3 : (x.f0 == 3) = false := beq_eq_false_iff_ne.mpr (by omega)
          have k4 : (x.f0 == 4) = false := beq_eq_false_iff_ne.mpr (by omega)
          have k5 : (x.f0 == 5) = false := beq_eq_false_iff_ne.mpr (by omega)
          have k6 : (x.f0 == 6) = false := beq_eq_false_iff_ne.mpr (by omega)
          have k7 : (x.f0 == 7) = false := beq_eq_false_iff_ne.mpr (by omega)
          have k8 : (x.f0 == 8) = false := beq_eq_false_iff_ne.mpr (by omega)
          have k9 : (x.f0 == 9) = false := beq_eq_false_iff_ne.mpr (by omega)
          have k10 : (x.f0 == 10) = false := beq_eq_false_iff_ne.mpr (by omega)
          have k11 : (x.f0 == 11) = false := beq_eq_false_iff_ne.mpr (by omega)
          have k12 : (x.f0 == 12) = false := beq_eq_false_iff_ne.mpr (by omega)
          have k13 : (x.f0 == 13) = false := beq_eq_false_iff_ne.mpr (by omega)
          unfold opF at hop
          rw [if_pos hx] at hop
          by_cases a1 : x.f1 < -2147483647
          · have d1 : decide (x.f1 < -2147483647) = true := decide_eq_true a1
            unfold clampO at hop
            rw [if_pos (Or.inl a1)] at hop
            obtain ⟨rfl, rfl⟩ := Prod.mk.inj (Option.some.inj hop)
            clear hop a1
            have HX := Aside0.mk hx
            clear hx
            go_wp2
            repeat (go_quiet (fail); try go_wp2)
            go_ret
            exact ⟨rfl, by (with_reducible repeat (first | refine blk_drewN ?_ _ | refine blk_drew ?_)); refine blk_put (cs := #[.int .i64 y, .int .i64 0]) ?_ 1 _ rfl; (with_reducible repeat (first | refine blk_drewN ?_ _ | refine blk_drew ?_)); exact HWr.out, by repeat (first | exact HBr.out | refine below_set ?_ HG.out | apply pw_below_drewN | apply below_drew1), by repeat (first | exact HKr.out | refine KeepBut.set_ ?_ _ _ | apply keep_drewN | apply keep_drew)⟩
          have d1 : decide (x.f1 < -2147483647) = false := decide_eq_false a1
          by_cases a2 : 2147483647 < x.f1
          · have d2 : decide (2147483647 < x.f1) = true := decide_eq_true a2
            unfold clampO at hop
            rw [if_pos (Or.inr a2)] at hop
            obtain ⟨rfl, rfl⟩ := Prod.mk.inj (Option.some.inj hop)
            clear hop a1 a2
            have HX := Aside0.mk hx
            clear hx
            go_wp2
            repeat (go_quiet (fail); try go_wp2)
            go_ret
            exact ⟨rfl, by (with_reducible repeat (first | refine blk_drewN ?_ _ | refine blk_drew ?_)); refine blk_put (cs := #[.int .i64 y, .int .i64 0]) ?_ 1 _ rfl; (with_reducible repeat (first | refine blk_drewN ?_ _ | refine blk_drew ?_)); exact HWr.out, by repeat (first | exact HBr.out | refine below_set ?_ HG.out | apply pw_below_drewN | apply below_drew1), by repeat (first | exact HKr.out | refine KeepBut.set_ ?_ _ _ | apply keep_drewN | apply keep_drew)⟩
          have d2 : decide (2147483647 < x.f1) = false := decide_eq_false a2
          unfold clampO at hop
          rw [if_neg (by omega)] at hop
          obtain ⟨rfl, rfl⟩ := Prod.mk.inj (Option.some.inj hop)
          clear hop a1 a2
          have HX := Aside0.mk hx
          clear hx
          go_wp2
          repeat (go_quiet (fail); try go_wp2)
          go_ret
          exact ⟨rfl, by (with_reducible repeat (first | refine blk_drewN ?_ _ | refine blk_drew ?_)); exact HWr.out, by repeat (first | exact HBr.out | apply pw_below_drewN | apply below_drew1), by repeat (first | exact HKr.out | apply keep_drewN | apply keep_drew)⟩
        by_cases hx : x.f0 = 2
        · have k1 : (x.f0 == 1) = false := beq_eq_false_iff_ne.mpr (by omega)
          have k2 : (x.f0 == 2) = true := beq_iff_eq.mpr hx
          have k3 : (x.f0 == 3) = false := beq_eq_false_iff_ne.mpr (by omega)
          have k4 : (x.f0 == 4) = false := beq_eq_false_iff_ne.mpr (by omega)
          have k5 : (x.f0 == 5) = false := beq_eq_false_iff_ne.mpr (by omega)
          have k6 : (x.f0 == 6) = false := beq_eq_false_iff_ne.mpr (by omega)
          have k7 : (x.f0 == 7) = false := beq_eq_false_iff_ne.mpr (by omega)
          have k8 : (x.f0 == 8) = false := beq_eq_false_iff_ne.mpr (by omega)
          have k9 : (x.f0 == 9) = false := beq_eq_false_iff_ne.mpr (by omega)
          have k10 : (x.f0 == 10) = false := beq_eq_false_iff_ne.mpr (by omega)
          have k11 : (x.f0 == 11) = false := beq_eq_false_iff_ne.mpr (by omega)
          have k12 : (x.f0 == 12) = false := beq_eq_false_iff_ne.mpr (by omega)
          have k13 : (x.f0 == 13) = false := beq_eq_false_iff_ne.mpr (by omega)
          unfold opF at hop
          rw [if_neg (by omega), if_pos hx] at hop
          by_cases a1 : y < -2147483647
          · have d1 : decide (y < -2147483647) = true := decide_eq_true a1
            unfold clampO at hop
            rw [if_pos (Or.inl a1)] at hop
            obtain ⟨rfl, rfl⟩ := Prod.mk.inj (Option.some.inj hop)
            clear hop a1
            have HX := Aside0.mk hx
            clear hx
            go_wp2
            repeat (go_quiet (fail); try go_wp2)
            go_ret
            exact ⟨rfl, by (with_reducible repeat (first | refine blk_drewN ?_ _ | refine blk_drew ?_)); refine blk_put (cs := #[.int .i64 y, .int .i64 0]) ?_ 1 _ rfl; (with_reducible repeat (first | refine blk_drewN ?_ _ | refine blk_drew ?_)); exact HWr.out, by repeat (first | exact HBr.out | refine below_set ?_ HG.out | apply pw_below_drewN | apply below_drew1), by repeat (first | exact HKr.out | refine KeepBut.set_ ?_ _ _ | apply keep_drewN | apply keep_drew)⟩
          have d1 : decide (y < -2147483647) = false := decide_eq_false a1
          by_cases a2 : 2147483647 < y
          · have d2 : decide (2147483647 < y) = true := decide_eq_true a2
            unfold clampO at hop
            rw [if_pos (Or.inr a2)] at hop
            obtain ⟨rfl, rfl⟩ := Prod.mk.inj (Option.some.inj hop)
            clear hop a1 a2
            have HX := Aside0.mk hx
            clear hx
            go_wp2
            repeat (go_quiet (fail); try go_wp2)
            go_ret
            exact ⟨rfl, by (with_reducible repeat (first | refine blk_drewN ?_ _ | refine blk_drew ?_)); refine blk_put (cs := #[.int .i64 y, .int .i64 0]) ?_ 1 _ rfl; (with_reducible repeat (first | refine blk_drewN ?_ _ | refine blk_drew ?_)); exact HWr.out, by repeat (first | exact HBr.out | refine below_set ?_ HG.out | apply pw_below_drewN | apply below_drew1), by repeat (first | exact HKr.out | refine KeepBut.set_ ?_ _ _ | apply keep_drewN | apply keep_drew)⟩
          have d2 : decide (2147483647 < y) = false := decide_eq_false a2
          unfold clampO at hop
          rw [if_neg (by omega)] at hop
          obtain ⟨rfl, rfl⟩ := Prod.mk.inj (Option.some.inj hop)
          clear hop a1 a2
          have HX := Aside0.mk hx
          clear hx
          go_wp2
          repeat (go_quiet (fail); try go_wp2)
          go_ret
          exact ⟨rfl, by (with_reducible repeat (first | refine blk_drewN ?_ _ | refine blk_drew ?_)); exact HWr.out, by repeat (first | exact HBr.out | apply pw_below_drewN | apply below_drew1), by repeat (first | exact HKr.out | apply keep_drewN | apply keep_drew)⟩
        by_cases hx : x.f0 = 3
        · have k1 : (x.f0 == 1) = false := beq_eq_false_iff_ne.mpr (by omega)
          have k2 : (x.f0 == 2) = false := beq_eq_false_iff_ne.mpr (by omega)
          have k3 : (x.f0 == 3) = true := beq_iff_eq.mpr hx
          have k4 : (x.f0 == 4) = false := beq_eq_false_iff_ne.mpr (by omega)
          have k5 : (x.f0 == 5) = false := beq_eq_false_iff_ne.mpr (by omega)
          have k6 : (x.f0 == 6) = false := beq_eq_false_iff_ne.mpr (by omega)
          have k7 : (x.f0 == 7) = false := beq_eq_false_iff_ne.mpr (by omega)
          have k8 : (x.f0 == 8) = false := beq_eq_false_iff_ne.mpr (by omega)
          have k9 : (x.f0 == 9) = false := beq_eq_false_iff_ne.mpr (by omega)
          have k10 : (x.f0 == 10) = false := beq_eq_false_iff_ne.mpr (by omega)
          have k11 : (x.f0 == 11) = false := beq_eq_false_iff_ne.mpr (by omega)
          have k12 : (x.f0 == 12) = false := beq_eq_false_iff_ne.mpr (by omega)
          have k13 : (x.f0 == 13) = false := beq_eq_false_iff_ne.mpr (by omega)
          unfold opF at hop
          rw [if_neg (by omega), if_neg (by omega), if_pos hx] at hop
          have d1 : decide (-v0 < -2147483647) = false := decide_eq_false (by omega)
          have d2 : decide (2147483647 < -v0) = false := decide_eq_false (by omega)
          unfold clampO at hop
          rw [if_neg (by omega)] at hop
          obtain ⟨rfl, rfl⟩ := Prod.mk.inj (Option.some.inj hop)
          clear hop
          have HX := Aside0.mk hx
          clear hx
          go_wp2
          repeat (go_quiet (fail); try go_wp2)
          go_ret
          exact ⟨rfl, by (with_reducible repeat (first | refine blk_drewN ?_ _ | refine blk_drew ?_)); exact HWr.out, by repeat (first | exact HBr.out | apply pw_below_drewN | apply below_drew1), by repeat (first | exact HKr.out | apply keep_drewN | apply keep_drew)⟩
        by_cases hx : x.f0 = 4
        · have k1 : (x.f0 == 1) = false := beq_eq_false_iff_ne.mpr (by omega)
          have k2 : (x.f0 == 2) = false := beq_eq_false_iff_ne.mpr (by omega)
          have k3 : (x.f0 == 3) = false := beq_eq_false_iff_ne.mpr (by omega)
          have k4 : (x.f0 == 4) = true := beq_iff_eq.mpr hx
          have k5 : (x.f0 == 5) = false := beq_eq_false_iff_ne.mpr (by omega)
          have k6 : (x.f0 == 6) = false := beq_eq_false_iff_ne.mpr (by omega)
          have k7 : (x.f0 == 7) = false := beq_eq_false_iff_ne.mpr (by omega)
          have k8 : (x.f0 == 8) = false := beq_eq_false_iff_ne.mpr (by omega)
          have k9 : (x.f0 == 9) = false := beq_eq_false_iff_ne.mpr (by omega)
          have k10 : (x.f0 == 10) = false := beq_eq_false_iff_ne.mpr (by omega)
          have k11 : (x.f0 == 11) = false := beq_eq_false_iff_ne.mpr (by omega)
          have k12 : (x.f0 == 12) = false := beq_eq_false_iff_ne.mpr (by omega)
          have k13 : (x.f0 == 13) = false := beq_eq_false_iff_ne.mpr (by omega)
          unfold opF at hop
          rw [if_neg (by omega), if_neg (by omega), if_neg (by omega), if_pos hx] at hop
          by_cases a1 : (v0 + v1) < -2147483647
          · have d1 : decide ((v0 + v1) < -2147483647) = true := decide_eq_true a1
            unfold clampO at hop
            rw [if_pos (Or.inl a1)] at hop
            obtain ⟨rfl, rfl⟩ := Prod.mk.inj (Option.some.inj hop)
            clear hop a1
            have HX := Aside0.mk hx
            clear hx
            go_wp2
            repeat (go_quiet (fail); try go_wp2)
            go_ret
            exact ⟨rfl, by (with_reducible repeat (first | refine blk_drewN ?_ _ | refine blk_drew ?_)); refine blk_put (cs := #[.int .i64 y, .int .i64 0]) ?_ 1 _ rfl; (with_reducible repeat (first | refine blk_drewN ?_ _ | refine blk_drew ?_)); exact HWr.out, by repeat (first | exact HBr.out | refine below_set ?_ HG.out | apply pw_below_drewN | apply below_drew1), by repeat (first | exact HKr.out | refine KeepBut.set_ ?_ _ _ | apply keep_drewN | apply keep_drew)⟩
          have d1 : decide ((v0 + v1) < -2147483647) = false := decide_eq_false a1
          by_cases a2 : 2147483647 < (v0 + v1)
          · have d2 : decide (2147483647 < (v0 + v1)) = true := decide_eq_true a2
            unfold clampO at hop
            rw [if_pos (Or.inr a2)] at hop
            obtain ⟨rfl, rfl⟩ := Prod.mk.inj (Option.some.inj hop)
            clear hop a1 a2
            have HX := Aside0.mk hx
            clear hx
            go_wp2
            repeat (go_quiet (fail); try go_wp2)
            go_ret
            exact ⟨rfl, by (with_reducible repeat (first | refine blk_drewN ?_ _ | refine blk_drew ?_)); refine blk_put (cs := #[.int .i64 y, .int .i64 0]) ?_ 1 _ rfl; (with_reducible repeat (first | refine blk_drewN ?_ _ | refine blk_drew ?_)); exact HWr.out, by repeat (first | exact HBr.out | refine below_set ?_ HG.out | apply pw_below_drewN | apply below_drew1), by repeat (first | exact HKr.out | refine KeepBut.set_ ?_ _ _ | apply keep_drewN | apply keep_drew)⟩
          have d2 : decide (2147483647 < (v0 + v1)) = false := decide_eq_false a2
          unfold clampO at hop
          rw [if_neg (by omega)] at hop
          obtain ⟨rfl, rfl⟩ := Prod.mk.inj (Option.some.inj hop)
          clear hop a1 a2
          have HX := Aside0.mk hx
          clear hx
          go_wp2
          repeat (go_quiet (fail); try go_wp2)
          go_ret
          exact ⟨rfl, by (with_reducible repeat (first | refine blk_drewN ?_ _ | refine blk_drew ?_)); exact HWr.out, by repeat (first | exact HBr.out | apply pw_below_drewN | apply below_drew1), by repeat (first | exact HKr.out | apply keep_drewN | apply keep_drew)⟩
        by_cases hx : x.f0 = 5
        · have k1 : (x.f0 == 1) = false := beq_eq_false_iff_ne.mpr (by omega)
          have k2 : (x.f0 == 2) = false := beq_eq_false_iff_ne.mpr (by omega)
          have k3 : (x.f0 == 3) = false := beq_eq_false_iff_ne.mpr (by omega)
          have k4 : (x.f0 == 4) = false := beq_eq_false_iff_ne.mpr (by omega)
          have k5 : (x.f0 == 5) = true := beq_iff_eq.mpr hx
          have k6 : (x.f0 == 6) = false := beq_eq_false_iff_ne.mpr (by omega)
          have k7 : (x.f0 == 7) = false := beq_eq_false_iff_ne.mpr (by omega)
          have k8 : (x.f0 == 8) = false := beq_eq_false_iff_ne.mpr (by omega)
          have k9 : (x.f0 == 9) = false := beq_eq_false_iff_ne.mpr (by omega)
          have k10 : (x.f0 == 10) = false := beq_eq_false_iff_ne.mpr (by omega)
          have k11 : (x.f0 == 11) = false := beq_eq_false_iff_ne.mpr (by omega)
          have k12 : (x.f0 == 12) = false := beq_eq_false_iff_ne.mpr (by omega)
          have k13 : (x.f0 == 13) = false := beq_eq_false_iff_ne.mpr (by omega)
          unfold opF at hop
          rw [if_neg (by omega), if_neg (by omega), if_neg (by omega), if_neg (by omega), if_pos hx] at hop
          by_cases a1 : (v0 - v1) < -2147483647
          · have d1 : decide ((v0 - v1) < -2147483647) = true := decide_eq_true a1
            unfold clampO at hop
            rw [if_pos (Or.inl a1)] at hop
            obtain ⟨rfl, rfl⟩ := Prod.mk.inj (Option.some.inj hop)
            clear hop a1
            have HX := Aside0.mk hx
            clear hx
            go_wp2
            repeat (go_quiet (fail); try go_wp2)
            go_ret
            exact ⟨rfl, by (with_reducible repeat (first | refine blk_drewN ?_ _ | refine blk_drew ?_)); refine blk_put (cs := #[.int .i64 y, .int .i64 0]) ?_ 1 _ rfl; (with_reducible repeat (first | refine blk_drewN ?_ _ | refine blk_drew ?_)); exact HWr.out, by repeat (first | exact HBr.out | refine below_set ?_ HG.out | apply pw_below_drewN | apply below_drew1), by repeat (first | exact HKr.out | refine KeepBut.set_ ?_ _ _ | apply keep_drewN | apply keep_drew)⟩
          have d1 : decide ((v0 - v1) < -2147483647) = false := decide_eq_false a1
          by_cases a2 : 2147483647 < (v0 - v1)
          · have d2 : decide (2147483647 < (v0 - v1)) = true := decide_eq_true a2
            unfold clampO at hop
            rw [if_pos (Or.inr a2)] at hop
            obtain ⟨rfl, rfl⟩ := Prod.mk.inj (Option.some.inj hop)
            clear hop a1 a2
            have HX := Aside0.mk hx
            clear hx
            go_wp2
            repeat (go_quiet (fail); try go_wp2)
            go_ret
            exact ⟨rfl, by (with_reducible repeat (first | refine blk_drewN ?_ _ | refine blk_drew ?_)); refine blk_put (cs := #[.int .i64 y, .int .i64 0]) ?_ 1 _ rfl; (with_reducible repeat (first | refine blk_drewN ?_ _ | refine blk_drew ?_)); exact HWr.out, by repeat (first | exact HBr.out | refine below_set ?_ HG.out | apply pw_below_drewN | apply below_drew1), by repeat (first | exact HKr.out | refine KeepBut.set_ ?_ _ _ | apply keep_drewN | apply keep_drew)⟩
          have d2 : decide (2147483647 < (v0 - v1)) = false := decide_eq_false a2
          unfold clampO at hop
          rw [if_neg (by omega)] at hop
          obtain ⟨rfl, rfl⟩ := Prod.mk.inj (Option.some.inj hop)
          clear hop a1 a2
          have HX := Aside0.mk hx
          clear hx
          go_wp2
          repeat (go_quiet (fail); try go_wp2)
          go_ret
          exact ⟨rfl, by (with_reducible repeat (first | refine blk_drewN ?_ _ | refine blk_drew ?_)); exact HWr.out, by repeat (first | exact HBr.out | apply pw_below_drewN | apply below_drew1), by repeat (first | exact HKr.out | apply keep_drewN | apply keep_drew)⟩
        by_cases hx : x.f0 = 6
        · have k1 : (x.f0 == 1) = false := beq_eq_false_iff_ne.mpr (by omega)
          have k2 : (x.f0 == 2) = false := beq_eq_false_iff_ne.mpr (by omega)
          have k3 : (x.f0 == 3) = false := beq_eq_false_iff_ne.mpr (by omega)
          have k4 : (x.f0 == 4) = false := beq_eq_false_iff_ne.mpr (by omega)
          have k5 : (x.f0 == 5) = false := beq_eq_false_iff_ne.mpr (by omega)
          have k6 : (x.f0 == 6) = true := beq_iff_eq.mpr hx
          have k7 : (x.f0 == 7) = false := beq_eq_false_iff_ne.mpr (by omega)
          have k8 : (x.f0 == 8) = false := beq_eq_false_iff_ne.mpr (by omega)
          have k9 : (x.f0 == 9) = false := beq_eq_false_iff_ne.mpr (by omega)
          have k10 : (x.f0 == 10) = false := beq_eq_false_iff_ne.mpr (by omega)
          have k11 : (x.f0 == 11) = false := beq_eq_false_iff_ne.mpr (by omega)
          have k12 : (x.f0 == 12) = false := beq_eq_false_iff_ne.mpr (by omega)
          have k13 : (x.f0 == 13) = false := beq_eq_false_iff_ne.mpr (by omega)
          unfold opF at hop
          rw [if_neg (by omega), if_neg (by omega), if_neg (by omega), if_neg (by omega), if_neg (by omega), if_pos hx] at hop
          have hm := mul_bd vb0 vb1
          have hm1 := hm.1
          have hm2 := hm.2
          clear hm
          by_cases a1 : (v0 * v1) < -2147483647
          · have d1 : decide ((v0 * v1) < -2147483647) = true := decide_eq_true a1
            unfold clampO at hop
            rw [if_pos (Or.inl a1)] at hop
            obtain ⟨rfl, rfl⟩ := Prod.mk.inj (Option.some.inj hop)
            clear hop a1
            have HX := Aside0.mk hx
            clear hx
            go_wp2
            repeat (go_quiet (fail); try go_wp2)
            go_ret
            exact ⟨rfl, by (with_reducible repeat (first | refine blk_drewN ?_ _ | refine blk_drew ?_)); refine blk_put (cs := #[.int .i64 y, .int .i64 0]) ?_ 1 _ rfl; (with_reducible repeat (first | refine blk_drewN ?_ _ | refine blk_drew ?_)); exact HWr.out, by repeat (first | exact HBr.out | refine below_set ?_ HG.out | apply pw_below_drewN | apply below_drew1), by repeat (first | exact HKr.out | refine KeepBut.set_ ?_ _ _ | apply keep_drewN | apply keep_drew)⟩
          have d1 : decide ((v0 * v1) < -2147483647) = false := decide_eq_false a1
          by_cases a2 : 2147483647 < (v0 * v1)
          · have d2 : decide (2147483647 < (v0 * v1)) = true := decide_eq_true a2
            unfold clampO at hop
            rw [if_pos (Or.inr a2)] at hop
            obtain ⟨rfl, rfl⟩ := Prod.mk.inj (Option.some.inj hop)
            clear hop a1 a2
            have HX := Aside0.mk hx
            clear hx
            go_wp2
            repeat (go_quiet (fail); try go_wp2)
            go_ret
            exact ⟨rfl, by (with_reducible repeat (first | refine blk_drewN ?_ _ | refine blk_drew ?_)); refine blk_put (cs := #[.int .i64 y, .int .i64 0]) ?_ 1 _ rfl; (with_reducible repeat (first | refine blk_drewN ?_ _ | refine blk_drew ?_)); exact HWr.out, by repeat (first | exact HBr.out | refine below_set ?_ HG.out | apply pw_below_drewN | apply below_drew1), by repeat (first | exact HKr.out | refine KeepBut.set_ ?_ _ _ | apply keep_drewN | apply keep_drew)⟩
          have d2 : decide (2147483647 < (v0 * v1)) = false := decide_eq_false a2
          unfold clampO at hop
          rw [if_neg (by omega)] at hop
          obtain ⟨rfl, rfl⟩ := Prod.mk.inj (Option.some.inj hop)
          clear hop a1 a2
          have HX := Aside0.mk hx
          clear hx
          go_wp2
          repeat (go_quiet (fail); try go_wp2)
          go_ret
          exact ⟨rfl, by (with_reducible repeat (first | refine blk_drewN ?_ _ | refine blk_drew ?_)); exact HWr.out, by repeat (first | exact HBr.out | apply pw_below_drewN | apply below_drew1), by repeat (first | exact HKr.out | apply keep_drewN | apply keep_drew)⟩
        by_cases hx : x.f0 = 7
        · have k1 : (x.f0 == 1) = false := beq_eq_false_iff_ne.mpr (by omega)
          have k2 : (x.f0 == 2) = false := beq_eq_false_iff_ne.mpr (by omega)
          have k3 : (x.f0 == 3) = false := beq_eq_false_iff_ne.mpr (by omega)
          have k4 : (x.f0 == 4) = false := beq_eq_false_iff_ne.mpr (by omega)
          have k5 : (x.f0 == 5) = false := beq_eq_false_iff_ne.mpr (by omega)
          have k6 : (x.f0 == 6) = false := beq_eq_false_iff_ne.mpr (by omega)
          have k7 : (x.f0 == 7) = true := beq_iff_eq.mpr hx
          have k8 : (x.f0 == 8) = false := beq_eq_false_iff_ne.mpr (by omega)
          have k9 : (x.f0 == 9) = false := beq_eq_false_iff_ne.mpr (by omega)
          have k10 : (x.f0 == 10) = false := beq_eq_false_iff_ne.mpr (by omega)
          have k11 : (x.f0 == 11) = false := beq_eq_false_iff_ne.mpr (by omega)
          have k12 : (x.f0 == 12) = false := beq_eq_false_iff_ne.mpr (by omega)
          have k13 : (x.f0 == 13) = false := beq_eq_false_iff_ne.mpr (by omega)
          unfold opF at hop
          rw [if_neg (by omega), if_neg (by omega), if_neg (by omega), if_neg (by omega), if_neg (by omega), if_neg (by omega), if_pos hx] at hop
          obtain ⟨⟨q1, q2, q3⟩, hd, hop⟩ := Option.bind_eq_some_iff.mp hop
          have HD := Aside0.mk hd
          clear hd
          by_cases hz : q3 = 0
          · have e1 : (q3 == 0) = true := beq_iff_eq.mpr hz
            have e2 : (q3 != 0) = false := bne_eq_false_iff_eq.mpr hz
            replace hop : clampO q1 = some (r, er) := by simpa [hz] using hop
            clear hz
            by_cases a1 : q1 < -2147483647
            · have d1 : decide (q1 < -2147483647) = true := decide_eq_true a1
              unfold clampO at hop
              rw [if_pos (Or.inl a1)] at hop
              obtain ⟨rfl, rfl⟩ := Prod.mk.inj (Option.some.inj hop)
              clear hop a1
              have HX := Aside0.mk hx
              clear hx
              go_wp2_with (go_at_call 10; (with_reducible refine (whole_Div.calls 3 v0 v1 q1 q2 q3 _ HD.out).mono ?_); rintro e w' ⟨rfl, ⟨nd, rfl⟩⟩)
              repeat (go_quiet (fail); try go_wp2)
              go_ret
              exact ⟨rfl, by (with_reducible repeat (first | refine blk_drewN ?_ _ | refine blk_drew ?_)); refine blk_put (cs := #[.int .i64 y, .int .i64 0]) ?_ 1 _ rfl; (with_reducible repeat (first | refine blk_drewN ?_ _ | refine blk_drew ?_)); exact HWr.out, by repeat (first | exact HBr.out | refine below_set ?_ HG.out | apply pw_below_drewN | apply below_drew1), by repeat (first | exact HKr.out | refine KeepBut.set_ ?_ _ _ | apply keep_drewN | apply keep_drew)⟩
            have d1 : decide (q1 < -2147483647) = false := decide_eq_false a1
            by_cases a2 : 2147483647 < q1
            · have d2 : decide (2147483647 < q1) = true := decide_eq_true a2
              unfold clampO at hop
              rw [if_pos (Or.inr a2)] at hop
              obtain ⟨rfl, rfl⟩ := Prod.mk.inj (Option.some.inj hop)
              clear hop a1 a2
              have HX := Aside0.mk hx
              clear hx
              go_wp2_with (go_at_call 10; (with_reducible refine (whole_Div.calls 3 v0 v1 q1 q2 q3 _ HD.out).mono ?_); rintro e w' ⟨rfl, ⟨nd, rfl⟩⟩)
              repeat (go_quiet (fail); try go_wp2)
              go_ret
              exact ⟨rfl, by (with_reducible repeat (first | refine blk_drewN ?_ _ | refine blk_drew ?_)); refine blk_put (cs := #[.int .i64 y, .int .i64 0]) ?_ 1 _ rfl; (with_reducible repeat (first | refine blk_drewN ?_ _ | refine blk_drew ?_)); exact HWr.out, by repeat (first | exact HBr.out | refine below_set ?_ HG.out | apply pw_below_drewN | apply below_drew1), by repeat (first | exact HKr.out | refine KeepBut.set_ ?_ _ _ | apply keep_drewN | apply keep_drew)⟩
            have d2 : decide (2147483647 < q1) = false := decide_eq_false a2
            unfold clampO at hop
            rw [if_neg (by omega)] at hop
            obtain ⟨rfl, rfl⟩ := Prod.mk.inj (Option.some.inj hop)
            clear hop a1 a2
            have HX := Aside0.mk hx
            clear hx
            go_wp2_with (go_at_call 10; (with_reducible refine (whole_Div.calls 3 v0 v1 q1 q2 q3 _ HD.out).mono ?_); rintro e w' ⟨rfl, ⟨nd, rfl⟩⟩)
            repeat (go_quiet (fail); try go_wp2)
            go_ret
            exact ⟨rfl, by (with_reducible repeat (first | refine blk_drewN ?_ _ | refine blk_drew ?_)); exact HWr.out, by repeat (first | exact HBr.out | apply pw_below_drewN | apply below_drew1), by repeat (first | exact HKr.out | apply keep_drewN | apply keep_drew)⟩
          · have e1 : (q3 == 0) = false := beq_eq_false_iff_ne.mpr hz
            have e2 : (q3 != 0) = true := bne_iff_ne.mpr hz
            rw [if_neg hz] at hop
            obtain ⟨rfl, rfl⟩ := Prod.mk.inj (Option.some.inj hop)
            clear hop hz
            have HX := Aside0.mk hx
            clear hx
            go_wp2_with (go_at_call 10; (with_reducible refine (whole_Div.calls 3 v0 v1 q1 q2 q3 _ HD.out).mono ?_); rintro e w' ⟨rfl, ⟨nd, rfl⟩⟩)
            repeat (go_quiet (fail); try go_wp2)
            go_ret
            exact ⟨rfl, by (with_reducible repeat (first | refine blk_drewN ?_ _ | refine blk_drew ?_)); refine blk_put (cs := #[.int .i64 y, .int .i64 0]) ?_ 1 _ rfl; (with_reducible repeat (first | refine blk_drewN ?_ _ | refine blk_drew ?_)); exact HWr.out, by repeat (first | exact HBr.out | refine below_set ?_ HG.out | apply pw_below_drewN | apply below_drew1), by repeat (first | exact HKr.out | refine KeepBut.set_ ?_ _ _ | apply keep_drewN | apply keep_drew)⟩
        by_cases hx : x.f0 = 8
        · have k1 : (x.f0 == 1) = false := beq_eq_false_iff_ne.mpr (by omega)
          have k2 : (x.f0 == 2) = false := beq_eq_false_iff_ne.mpr (by omega)
          have k3 : (x.f0 == 3) = false := beq_eq_false_iff_ne.mpr (by omega)
          have k4 : (x.f0 == 4) = false := beq_eq_false_iff_ne.mpr (by omega)
          have k5 : (x.f0 == 5) = false := beq_eq_false_iff_ne.mpr (by omega)
          have k6 : (x.f0 == 6) = false := beq_eq_false_iff_ne.mpr (by omega)
          have k7 : (x.f0 == 7) = false := beq_eq_false_iff_ne.mpr (by omega)
          have k8 : (x.f0 == 8) = true := beq_iff_eq.mpr hx
          have k9 : (x.f0 == 9) = false := beq_eq_false_iff_ne.mpr (by omega)
          have k10 : (x.f0 == 10) = false := beq_eq_false_iff_ne.mpr (by omega)
          have k11 : (x.f0 == 11) = false := beq_eq_false_iff_ne.mpr (by omega)
          have k12 : (x.f0 == 12) = false := beq_eq_false_iff_ne.mpr (by omega)
          have k13 : (x.f0 == 13) = false := beq_eq_false_iff_ne.mpr (by omega)
          unfold opF at hop
          rw [if_neg (by omega), if_neg (by omega), if_neg (by omega), if_neg (by omega), if_neg (by omega), if_neg (by omega), if_neg (by omega), if_pos hx] at hop
          obtain ⟨⟨q1, q2, q3⟩, hd, hop⟩ := Option.bind_eq_some_iff.mp hop
          have HD := Aside0.mk hd
          clear hd
          by_cases hz : q3 = 0
          · have e1 : (q3 == 0) = true := beq_iff_eq.mpr hz
            have e2 : (q3 != 0) = false := bne_eq_false_iff_eq.mpr hz
            replace hop : clampO q2 = some (r, er) := by simpa [hz] using hop
            clear hz
            by_cases a1 : q2 < -2147483647
            · have d1 : decide (q2 < -2147483647) = true := decide_eq_true a1
              unfold clampO at hop
              rw [if_pos (Or.inl a1)] at hop
              obtain ⟨rfl, rfl⟩ := Prod.mk.inj (Option.some.inj hop)
              clear hop a1
              have HX := Aside0.mk hx
              clear hx
              go_wp2_with (go_at_call 10; (with_reducible refine (whole_Div.calls 3 v0 v1 q1 q2 q3 _ HD.out).mono ?_); rintro e w' ⟨rfl, ⟨nd, rfl⟩⟩)
              repeat (go_quiet (fail); try go_wp2)
              go_ret
              exact ⟨rfl, by (with_reducible repeat (first | refine blk_drewN ?_ _ | refine blk_drew ?_)); refine blk_put (cs := #[.int .i64 y, .int .i64 0]) ?_ 1 _ rfl; (with_reducible repeat (first | refine blk_drewN ?_ _ | refine blk_drew ?_)); exact HWr.out, by repeat (first | exact HBr.out | refine below_set ?_ HG.out | apply pw_below_drewN | apply below_drew1), by repeat (first | exact HKr.out | refine KeepBut.set_ ?_ _ _ | apply keep_drewN | apply keep_drew)⟩
            have d1 : decide (q2 < -2147483647) = false := decide_eq_false a1
            by_cases a2 : 2147483647 < q2
            · have d2 : decide (2147483647 < q2) = true := decide_eq_true a2
              unfold clampO at hop
              rw [if_pos (Or.inr a2)] at hop
              obtain ⟨rfl, rfl⟩ := Prod.mk.inj (Option.some.inj hop)
              clear hop a1 a2
              have HX := Aside0.mk hx
              clear hx
              go_wp2_with (go_at_call 10; (with_reducible refine (whole_Div.calls 3 v0 v1 q1 q2 q3 _ HD.out).mono ?_); rintro e w' ⟨rfl, ⟨nd, rfl⟩⟩)
              repeat (go_quiet (fail); try go_wp2)
              go_ret
              exact ⟨rfl, by (with_reducible repeat (first | refine blk_drewN ?_ _ | refine blk_drew ?_)); refine blk_put (cs := #[.int .i64 y, .int .i64 0]) ?_ 1 _ rfl; (with_reducible repeat (first | refine blk_drewN ?_ _ | refine blk_drew ?_)); exact HWr.out, by repeat (first | exact HBr.out | refine below_set ?_ HG.out | apply pw_below_drewN | apply below_drew1), by repeat (first | exact HKr.out | refine KeepBut.set_ ?_ _ _ | apply keep_drewN | apply keep_drew)⟩
            have d2 : decide (2147483647 < q2) = false := decide_eq_false a2
            unfold clampO at hop
            rw [if_neg (by omega)] at hop
            obtain ⟨rfl, rfl⟩ := Prod.mk.inj (Option.some.inj hop)
            clear hop a1 a2
            have HX := Aside0.mk hx
            clear hx
            go_wp2_with (go_at_call 10; (with_reducible refine (whole_Div.calls 3 v0 v1 q1 q2 q3 _ HD.out).mono ?_); rintro e w' ⟨rfl, ⟨nd, rfl⟩⟩)
            repeat (go_quiet (fail); try go_wp2)
            go_ret
            exact ⟨rfl, by (with_reducible repeat (first | refine blk_drewN ?_ _ | refine blk_drew ?_)); exact HWr.out, by repeat (first | exact HBr.out | apply pw_below_drewN | apply below_drew1), by repeat (first | exact HKr.out | apply keep_drewN | apply keep_drew)⟩
          · have e1 : (q3 == 0) = false := beq_eq_false_iff_ne.mpr hz
            have e2 : (q3 != 0) = true := bne_iff_ne.mpr hz
            rw [if_neg hz] at hop
            obtain ⟨rfl, rfl⟩ := Prod.mk.inj (Option.some.inj hop)
            clear hop hz
            have HX := Aside0.mk hx
            clear hx
            go_wp2_with (go_at_call 10; (with_reducible refine (whole_Div.calls 3 v0 v1 q1 q2 q3 _ HD.out).mono ?_); rintro e w' ⟨rfl, ⟨nd, rfl⟩⟩)
            repeat (go_quiet (fail); try go_wp2)
            go_ret
            exact ⟨rfl, by (with_reducible repeat (first | refine blk_drewN ?_ _ | refine blk_drew ?_)); refine blk_put (cs := #[.int .i64 y, .int .i64 0]) ?_ 1 _ rfl; (with_reducible repeat (first | refine blk_drewN ?_ _ | refine blk_drew ?_)); exact HWr.out, by repeat (first | exact HBr.out | refine below_set ?_ HG.out | apply pw_below_drewN | apply below_drew1), by repeat (first | exact HKr.out | refine KeepBut.set_ ?_ _ _ | apply keep_drewN | apply keep_drew)⟩
        by_cases hx : x.f0 = 9
        · have k1 : (x.f0 == 1) = false := beq_eq_false_iff_ne.mpr (by omega)
          have k2 : (x.f0 == 2) = false := beq_eq_false_iff_ne.mpr (by omega)
          have k3 : (x.f0 == 3) = false := beq_eq_false_iff_ne.mpr (by omega)
          have k4 : (x.f0 == 4) = false := beq_eq_false_iff_ne.mpr (by omega)
          have k5 : (x.f0 == 5) = false := beq_eq_false_iff_ne.mpr (by omega)
          have k6 : (x.f0 == 6) = false := beq_eq_false_iff_ne.mpr (by omega)
          have k7 : (x.f0 == 7) = false := beq_eq_false_iff_ne.mpr (by omega)
          have k8 : (x.f0 == 8) = false := beq_eq_false_iff_ne.mpr (by omega)
          have k9 : (x.f0 == 9) = true := beq_iff_eq.mpr hx
          have k10 : (x.f0 == 10) = false := beq_eq_false_iff_ne.mpr (by omega)
          have k11 : (x.f0 == 11) = false := beq_eq_false_iff_ne.mpr (by omega)
          have k12 : (x.f0 == 12) = false := beq_eq_false_iff_ne.mpr (by omega)
          have k13 : (x.f0 == 13) = false := beq_eq_false_iff_ne.mpr (by omega)
          unfold opF at hop
          rw [if_neg (by omega), if_neg (by omega), if_neg (by omega), if_neg (by omega), if_neg (by omega), if_neg (by omega), if_neg (by omega), if_neg (by omega), if_pos hx] at hop
          obtain ⟨hr1, hr2⟩ := Prod.mk.inj (Option.some.inj hop)
          clear hop
          subst hr2
          have HX := Aside0.mk hx
          clear hx
          by_cases h1 : v0 < v1
          · have u1 : decide (v0 < v1) = true := decide_eq_true h1
            obtain rfl : r = 1 := by rw [← hr1]; simp [b2i, *]
            clear hr1
            go_wp2_with (go_at_call 11; (with_reducible refine (rule_boolean.calls _ 1 _ rfl).mono ?_); rintro e w' ⟨rfl, ⟨nd, rfl⟩⟩)
            repeat (go_quiet (fail); try go_wp2)
            go_ret
            exact ⟨rfl, by (with_reducible repeat (first | refine blk_drewN ?_ _ | refine blk_drew ?_)); exact HWr.out, by repeat (first | exact HBr.out | apply pw_below_drewN | apply below_drew1), by repeat (first | exact HKr.out | apply keep_drewN | apply keep_drew)⟩
          · have u1 : decide (v0 < v1) = false := decide_eq_false h1
            obtain rfl : r = 0 := by rw [← hr1]; simp [b2i, *]
            clear hr1
            go_wp2_with (go_at_call 11; (with_reducible refine (rule_boolean.calls _ 0 _ rfl).mono ?_); rintro e w' ⟨rfl, ⟨nd, rfl⟩⟩)
            repeat (go_quiet (fail); try go_wp2)
            go_ret
            exact ⟨rfl, by (with_reducible repeat (first | refine blk_drewN ?_ _ | refine blk_drew ?_)); exact HWr.out, by repeat (first | exact HBr.out | apply pw_below_drewN | apply below_drew1), by repeat (first | exact HKr.out | apply keep_drewN | apply keep_drew)⟩
        by_cases hx : x.f0 = 10
        · have k1 : (x.f0 == 1) = false := beq_eq_false_iff_ne.mpr (by omega)
          have k2 : (x.f0 == 2) = false := beq_eq_false_iff_ne.mpr (by omega)
          have k3 : (x.f0 == 3) = false := beq_eq_false_iff_ne.mpr (by omega)
          have k4 : (x.f0 == 4) = false := beq_eq_false_iff_ne.mpr (by omega)
          have k5 : (x.f0 == 5) = false := beq_eq_false_iff_ne.mpr (by omega)
          have k6 : (x.f0 == 6) = false := beq_eq_false_iff_ne.mpr (by omega)
          have k7 : (x.f0 == 7) = false := beq_eq_false_iff_ne.mpr (by omega)
          have k8 : (x.f0 == 8) = false := beq_eq_false_iff_ne.mpr (by omega)
          have k9 : (x.f0 == 9) = false := beq_eq_false_iff_ne.mpr (by omega)
          have k10 : (x.f0 == 10) = true := beq_iff_eq.mpr hx
          have k11 : (x.f0 == 11) = false := beq_eq_false_iff_ne.mpr (by omega)
          have k12 : (x.f0 == 12) = false := beq_eq_false_iff_ne.mpr (by omega)
          have k13 : (x.f0 == 13) = false := beq_eq_false_iff_ne.mpr (by omega)
          unfold opF at hop
          rw [if_neg (by omega), if_neg (by omega), if_neg (by omega), if_neg (by omega), if_neg (by omega), if_neg (by omega), if_neg (by omega), if_neg (by omega), if_neg (by omega), if_pos hx] at hop
          obtain ⟨hr1, hr2⟩ := Prod.mk.inj (Option.some.inj hop)
          clear hop
          subst hr2
          have HX := Aside0.mk hx
          clear hx
          by_cases h1 : v0 = v1
          · have u1 : (v0 == v1) = true := beq_iff_eq.mpr h1
            have u2 : (v0 != v1) = false := bne_eq_false_iff_eq.mpr h1
            clear h1
            obtain rfl : r = 1 := by rw [← hr1]; simp [b2i, *]
            clear hr1
            go_wp2_with (go_at_call 11; (with_reducible refine (rule_boolean.calls _ 1 _ rfl).mono ?_); rintro e w' ⟨rfl, ⟨nd, rfl⟩⟩)
            repeat (go_quiet (fail); try go_wp2)
            go_ret
            exact ⟨rfl, by (with_reducible repeat (first | refine blk_drewN ?_ _ | refine blk_drew ?_)); exact HWr.out, by repeat (first | exact HBr.out | apply pw_below_drewN | apply below_drew1), by repeat (first | exact HKr.out | apply keep_drewN | apply keep_drew)⟩
          · have u1 : (v0 == v1) = false := beq_eq_false_iff_ne.mpr h1
            have u2 : (v0 != v1) = true := bne_iff_ne.mpr h1
            clear h1
            obtain rfl : r = 0 := by rw [← hr1]; simp [b2i, *]
            clear hr1
            go_wp2_with (go_at_call 11; (with_reducible refine (rule_boolean.calls _ 0 _ rfl).mono ?_); rintro e w' ⟨rfl, ⟨nd, rfl⟩⟩)
            repeat (go_quiet (fail); try go_wp2)
            go_ret
            exact ⟨rfl, by (with_reducible repeat (first | refine blk_drewN ?_ _ | refine blk_drew ?_)); exact HWr.out, by repeat (first | exact HBr.out | apply pw_below_drewN | apply below_drew1), by repeat (first | exact HKr.out | apply keep_drewN | apply keep_drew)⟩
        by_cases hx : x.f0 = 11
        · have k1 : (x.f0 == 1) = false := beq_eq_false_iff_ne.mpr (by omega)
          have k2 : (x.f0 == 2) = false := beq_eq_false_iff_ne.mpr (by omega)
          have k3 : (x.f0 == 3) = false := beq_eq_false_iff_ne.mpr (by omega)
          have k4 : (x.f0 == 4) = false := beq_eq_false_iff_ne.mpr (by omega)
          have k5 : (x.f0 == 5) = false := beq_eq_false_iff_ne.mpr (by omega)
          have k6 : (x.f0 == 6) = false := beq_eq_false_iff_ne.mpr (by omega)
          have k7 : (x.f0 == 7) = false := beq_eq_false_iff_ne.mpr (by omega)
          have k8 : (x.f0 == 8) = false := beq_eq_false_iff_ne.mpr (by omega)
          have k9 : (x.f0 == 9) = false := beq_eq_false_iff_ne.mpr (by omega)
          have k10 : (x.f0 == 10) = false := beq_eq_false_iff_ne.mpr (by omega)
          have k11 : (x.f0 == 11) = true := beq_iff_eq.mpr hx
          have k12 : (x.f0 == 12) = false := beq_eq_false_iff_ne.mpr (by omega)
          have k13 : (x.f0 == 13) = false := beq_eq_false_iff_ne.mpr (by omega)
          unfold opF at hop
          rw [if_neg (by omega), if_neg (by omega), if_neg (by omega), if_neg (by omega), if_neg (by omega), if_neg (by omega), if_neg (by omega), if_neg (by omega), if_neg (by omega), if_neg (by omega), if_pos hx] at hop
          obtain ⟨hr1, hr2⟩ := Prod.mk.inj (Option.some.inj hop)
          clear hop
          subst hr2
          have HX := Aside0.mk hx
          clear hx
          by_cases h1 : v0 = 0
          · have u1 : (v0 == 0) = true := beq_iff_eq.mpr h1
            have u2 : (v0 != 0) = false := bne_eq_false_iff_eq.mpr h1
            clear h1
            obtain rfl : r = 1 := by rw [← hr1]; simp [b2i, *]
            clear hr1
            go_wp2_with (go_at_call 11; (with_reducible refine (rule_boolean.calls _ 1 _ rfl).mono ?_); rintro e w' ⟨rfl, ⟨nd, rfl⟩⟩)
            repeat (go_quiet (fail); try go_wp2)
            go_ret
            exact ⟨rfl, by (with_reducible repeat (first | refine blk_drewN ?_ _ | refine blk_drew ?_)); exact HWr.out, by repeat (first | exact HBr.out | apply pw_below_drewN | apply below_drew1), by repeat (first | exact HKr.out | apply keep_drewN | apply keep_drew)⟩
          · have u1 : (v0 == 0) = false := beq_eq_false_iff_ne.mpr h1
            have u2 : (v0 != 0) = true := bne_iff_ne.mpr h1
            clear h1
            obtain rfl : r = 0 := by rw [← hr1]; simp [b2i, *]
            clear hr1
            go_wp2_with (go_at_call 11; (with_reducible refine (rule_boolean.calls _ 0 _ rfl).mono ?_); rintro e w' ⟨rfl, ⟨nd, rfl⟩⟩)
            repeat (go_quiet (fail); try go_wp2)
            go_ret
            exact ⟨rfl, by (with_reducible repeat (first | refine blk_drewN ?_ _ | refine blk_drew ?_)); exact HWr.out, by repeat (first | exact HBr.out | apply pw_below_drewN | apply below_drew1), by repeat (first | exact HKr.out | apply keep_drewN | apply keep_drew)⟩
        by_cases hx : x.f0 = 12
        · have k1 : (x.f0 == 1) = false := beq_eq_false_iff_ne.mpr (by omega)
          have k2 : (x.f0 == 2) = false := beq_eq_false_iff_ne.mpr (by omega)
          have k3 : (x.f0 == 3) = false := beq_eq_false_iff_ne.mpr (by omega)
          have k4 : (x.f0 == 4) = false := beq_eq_false_iff_ne.mpr (by omega)
          have k5 : (x.f0 == 5) = false := beq_eq_false_iff_ne.mpr (by omega)
          have k6 : (x.f0 == 6) = false := beq_eq_false_iff_ne.mpr (by omega)
          have k7 : (x.f0 == 7) = false := beq_eq_false_iff_ne.mpr (by omega)
          have k8 : (x.f0 == 8) = false := beq_eq_false_iff_ne.mpr (by omega)
          have k9 : (x.f0 == 9) = false := beq_eq_false_iff_ne.mpr (by omega)
          have k10 : (x.f0 == 10) = false := beq_eq_false_iff_ne.mpr (by omega)
          have k11 : (x.f0 == 11) = false := beq_eq_false_iff_ne.mpr (by omega)
          have k12 : (x.f0 == 12) = true := beq_iff_eq.mpr hx
          have k13 : (x.f0 == 13) = false := beq_eq_false_iff_ne.mpr (by omega)
          unfold opF at hop
          rw [if_neg (by omega), if_neg (by omega), if_neg (by omega), if_neg (by omega), if_neg (by omega), if_neg (by omega), if_neg (by omega), if_neg (by omega), if_neg (by omega), if_neg (by omega), if_neg (by omega), if_pos hx] at hop
          obtain ⟨hr1, hr2⟩ := Prod.mk.inj (Option.some.inj hop)
          clear hop
          subst hr2
          have HX := Aside0.mk hx
          clear hx
          by_cases hu : v0 = 0
          · have n_u1 : (v0 == 0) = true := beq_iff_eq.mpr hu
            have n_u2 : (v0 != 0) = false := bne_eq_false_iff_eq.mpr hu
            clear hu
            by_cases hv : v1 = 0
            · have n_v1 : (v1 == 0) = true := beq_iff_eq.mpr hv
              have n_v2 : (v1 != 0) = false := bne_eq_false_iff_eq.mpr hv
              clear hv
              obtain rfl : r = 0 := by rw [← hr1]; simp [b2i, *]
              clear hr1
              go_wp2_with (go_at_call 11; (with_reducible refine (rule_boolean.calls _ 0 _ rfl).mono ?_); rintro e w' ⟨rfl, ⟨nd, rfl⟩⟩)
              repeat (go_quiet (fail); try go_wp2)
              go_ret
              exact ⟨rfl, by (with_reducible repeat (first | refine blk_drewN ?_ _ | refine blk_drew ?_)); exact HWr.out, by repeat (first | exact HBr.out | apply pw_below_drewN | apply below_drew1), by repeat (first | exact HKr.out | apply keep_drewN | apply keep_drew)⟩
            · have n_v1 : (v1 == 0) = false := beq_eq_false_iff_ne.mpr hv
              have n_v2 : (v1 != 0) = true := bne_iff_ne.mpr hv
              clear hv
              obtain rfl : r = 0 := by rw [← hr1]; simp [b2i, *]
              clear hr1
              go_wp2_with (go_at_call 11; (with_reducible refine (rule_boolean.calls _ 0 _ rfl).mono ?_); rintro e w' ⟨rfl, ⟨nd, rfl⟩⟩)
              repeat (go_quiet (fail); try go_wp2)
              go_ret
              exact ⟨rfl, by (with_reducible repeat (first | refine blk_drewN ?_ _ | refine blk_drew ?_)); exact HWr.out, by repeat (first | exact HBr.out | apply pw_below_drewN | apply below_drew1), by repeat (first | exact HKr.out | apply keep_drewN | apply keep_drew)⟩
          · have n_u1 : (v0 == 0) = false := beq_eq_false_iff_ne.mpr hu
            have n_u2 : (v0 != 0) = true := bne_iff_ne.mpr hu
            clear hu
            by_cases hv : v1 = 0
            · have n_v1 : (v1 == 0) = true := beq_iff_eq.mpr hv
              have n_v2 : (v1 != 0) = false := bne_eq_false_iff_eq.mpr hv
              clear hv
              obtain rfl : r = 0 := by rw [← hr1]; simp [b2i, *]
              clear hr1
              go_wp2_with (go_at_call 11; (with_reducible refine (rule_boolean.calls _ 0 _ rfl).mono ?_); rintro e w' ⟨rfl, ⟨nd, rfl⟩⟩)
              repeat (go_quiet (fail); try go_wp2)
              go_ret
              exact ⟨rfl, by (with_reducible repeat (first | refine blk_drewN ?_ _ | refine blk_drew ?_)); exact HWr.out, by repeat (first | exact HBr.out | apply pw_below_drewN | apply below_drew1), by repeat (first | exact HKr.out | apply keep_drewN | apply keep_drew)⟩
            · have n_v1 : (v1 == 0) = false := beq_eq_false_iff_ne.mpr hv
              have n_v2 : (v1 != 0) = true := bne_iff_ne.mpr hv
              clear hv
              obtain rfl : r = 1 := by rw [← hr1]; simp [b2i, *]
              clear hr1
              go_wp2_with (go_at_call 11; (with_reducible refine (rule_boolean.calls _ 1 _ rfl).mono ?_); rintro e w' ⟨rfl, ⟨nd, rfl⟩⟩)
              repeat (go_quiet (fail); try go_wp2)
              go_ret
              exact ⟨rfl, by (with_reducible repeat (first | refine blk_drewN ?_ _ | refine blk_drew ?_)); exact HWr.out, by repeat (first | exact HBr.out | apply pw_below_drewN | apply below_drew1), by repeat (first | exact HKr.out | apply keep_drewN | apply keep_drew)⟩
        by_cases hx : x.f0 = 13
        · have k1 : (x.f0 == 1) = false := beq_eq_false_iff_ne.mpr (by omega)
          have k2 : (x.f0 == 2) = false := beq_eq_false_iff_ne.mpr (by omega)
          have k3 : (x.f0 == 3) = false := beq_eq_false_iff_ne.mpr (by omega)
          have k4 : (x.f0 == 4) = false := beq_eq_false_iff_ne.mpr (by omega)
          have k5 : (x.f0 == 5) = false := beq_eq_false_iff_ne.mpr (by omega)
          have k6 : (x.f0 == 6) = false := beq_eq_false_iff_ne.mpr (by omega)
          have k7 : (x.f0 == 7) = false := beq_eq_false_iff_ne.mpr (by omega)
          have k8 : (x.f0 == 8) = false := beq_eq_false_iff_ne.mpr (by omega)
          have k9 : (x.f0 == 9) = false := beq_eq_false_iff_ne.mpr (by omega)
          have k10 : (x.f0 == 10) = false := beq_eq_false_iff_ne.mpr (by omega)
          have k11 : (x.f0 == 11) = false := beq_eq_false_iff_ne.mpr (by omega)
          have k12 : (x.f0 == 12) = false := beq_eq_false_iff_ne.mpr (by omega)
          have k13 : (x.f0 == 13) = true := beq_iff_eq.mpr hx
          unfold opF at hop
          rw [if_neg (by omega), if_neg (by omega), if_neg (by omega), if_neg (by omega), if_neg (by omega), if_neg (by omega), if_neg (by omega), if_neg (by omega), if_neg (by omega), if_neg (by omega), if_neg (by omega), if_neg (by omega), if_pos hx] at hop
          obtain ⟨hr1, hr2⟩ := Prod.mk.inj (Option.some.inj hop)
          clear hop
          subst hr2
          have HX := Aside0.mk hx
          clear hx
          by_cases hu : v0 = 0
          · have n_u1 : (v0 == 0) = true := beq_iff_eq.mpr hu
            have n_u2 : (v0 != 0) = false := bne_eq_false_iff_eq.mpr hu
            clear hu
            by_cases hv : v1 = 0
            · have n_v1 : (v1 == 0) = true := beq_iff_eq.mpr hv
              have n_v2 : (v1 != 0) = false := bne_eq_false_iff_eq.mpr hv
              clear hv
              obtain rfl : r = 0 := by rw [← hr1]; simp [b2i, *]
              clear hr1
              go_wp2_with (go_at_call 11; (with_reducible refine (rule_boolean.calls _ 0 _ rfl).mono ?_); rintro e w' ⟨rfl, ⟨nd, rfl⟩⟩)
              repeat (go_quiet (fail); try go_wp2)
              go_ret
              exact ⟨rfl, by (with_reducible repeat (first | refine blk_drewN ?_ _ | refine blk_drew ?_)); exact HWr.out, by repeat (first | exact HBr.out | apply pw_below_drewN | apply below_drew1), by repeat (first | exact HKr.out | apply keep_drewN | apply keep_drew)⟩
            · have n_v1 : (v1 == 0) = false := beq_eq_false_iff_ne.mpr hv
              have n_v2 : (v1 != 0) = true := bne_iff_ne.mpr hv
              clear hv
              obtain rfl : r = 1 := by rw [← hr1]; simp [b2i, *]
              clear hr1
              go_wp2_with (go_at_call 11; (with_reducible refine (rule_boolean.calls _ 1 _ rfl).mono ?_); rintro e w' ⟨rfl, ⟨nd, rfl⟩⟩)
              repeat (go_quiet (fail); try go_wp2)
              go_ret
              exact ⟨rfl, by (with_reducible repeat (first | refine blk_drewN ?_ _ | refine blk_drew ?_)); exact HWr.out, by repeat (first | exact HBr.out | apply pw_below_drewN | apply below_drew1), by repeat (first | exact HKr.out | apply keep_drewN | apply keep_drew)⟩
          · have n_u1 : (v0 == 0) = false := beq_eq_false_iff_ne.mpr hu
            have n_u2 : (v0 != 0) = true := bne_iff_ne.mpr hu
            clear hu
            by_cases hv : v1 = 0
            · have n_v1 : (v1 == 0) = true := beq_iff_eq.mpr hv
              have n_v2 : (v1 != 0) = false := bne_eq_false_iff_eq.mpr hv
              clear hv
              obtain rfl : r = 1 := by rw [← hr1]; simp [b2i, *]
              clear hr1
              go_wp2_with (go_at_call 11; (with_reducible refine (rule_boolean.calls _ 1 _ rfl).mono ?_); rintro e w' ⟨rfl, ⟨nd, rfl⟩⟩)
              repeat (go_quiet (fail); try go_wp2)
              go_ret
              exact ⟨rfl, by (with_reducible repeat (first | refine blk_drewN ?_ _ | refine blk_drew ?_)); exact HWr.out, by repeat (first | exact HBr.out | apply pw_below_drewN | apply below_drew1), by repeat (first | exact HKr.out | apply keep_drewN | apply keep_drew)⟩
            · have n_v1 : (v1 == 0) = false := beq_eq_false_iff_ne.mpr hv
              have n_v2 : (v1 != 0) = true := bne_iff_ne.mpr hv
              clear hv
              obtain rfl : r = 1 := by rw [← hr1]; simp [b2i, *]
              clear hr1
              go_wp2_with (go_at_call 11; (with_reducible refine (rule_boolean.calls _ 1 _ rfl).mono ?_); rintro e w' ⟨rfl, ⟨nd, rfl⟩⟩)
              repeat (go_quiet (fail); try go_wp2)
              go_ret
              exact ⟨rfl, by (with_reducible repeat (first | refine blk_drewN ?_ _ | refine blk_drew ?_)); exact HWr.out, by repeat (first | exact HBr.out | apply pw_below_drewN | apply below_drew1), by repeat (first | exact HKr.out | apply keep_drewN | apply keep_drew)⟩
        have k1 : (x.f0 == 1) = false := beq_eq_false_iff_ne.mpr (by omega)
        have k2 : (x.f0 == 2) = false := beq_eq_false_iff_ne.mpr (by omega)
        have k3 : (x.f0 == 3) = false := beq_eq_false_iff_ne.mpr (by omega)
        have k4 : (x.f0 == 4) = false := beq_eq_false_iff_ne.mpr (by omega)
        have k5 : (x.f0 == 5) = false := beq_eq_false_iff_ne.mpr (by omega)
        have k6 : (x.f0 == 6) = false := beq_eq_false_iff_ne.mpr (by omega)
        have k7 : (x.f0 == 7) = false := beq_eq_false_iff_ne.mpr (by omega)
        have k8 : (x.f0 == 8) = false := beq_eq_false_iff_ne.mpr (by omega)
        have k9 : (x.f0 == 9) = false := beq_eq_false_iff_ne.mpr (by omega)
        have k10 : (x.f0 == 10) = false := beq_eq_false_iff_ne.mpr (by omega)
        have k11 : (x.f0 == 11) = false := beq_eq_false_iff_ne.mpr (by omega)
        have k12 : (x.f0 == 12) = false := beq_eq_false_iff_ne.mpr (by omega)
        have k13 : (x.f0 == 13) = false := beq_eq_false_iff_ne.mpr (by omega)
        unfold opF at hop
        rw [if_neg (by omega), if_neg (by omega), if_neg (by omega), if_neg (by omega), if_neg (by omega), if_neg (by omega), if_neg (by omega), if_neg (by omega), if_neg (by omega), if_neg (by omega), if_neg (by omega), if_neg (by omega), if_neg (by omega)] at hop
        obtain ⟨rfl, rfl⟩ := Prod.mk.inj (Option.some.inj hop)
        clear hop
        go_wp2
        repeat (go_quiet (fail); try go_wp2)
        go_ret
        exact ⟨rfl, by (with_reducible repeat (first | refine blk_drewN ?_ _ | refine blk_drew ?_)); exact HWr.out, by repeat (first | exact HBr.out | apply pw_below_drewN | apply below_drew1), by repeat (first | exact HKr.out | apply keep_drewN | apply keep_drew)⟩
end Go.Proofs.YtboddbgmgcjppaaDoor
