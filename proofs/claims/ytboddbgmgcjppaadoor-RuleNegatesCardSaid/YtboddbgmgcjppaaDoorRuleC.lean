import Derived.Test.YtboddbgmgcjppaaDoorRuleB
set_option linter.unusedVariables false
set_option linter.unusedSimpArgs false
namespace Go.Proofs.YtboddbgmgcjppaaDoor.QRuleNegates
open Go.RowKit Go.Proofs.YtboddbgmgcjppaaDoorW.PrintWords Go.Proofs.YtboddbgmgcjppaaDoorW.PrintLast Go.Proofs.YtboddbgmgcjppaaDoor Go.Proofs.YtboddbgmgcjppaaDoorFar
theorem walkL_mono {f g : S24 → Int → Option (Int × Int)} (h : ∀ y c, LeO (f y c) (g y c)) : ∀ l c, LeO (walkL f l c) (walkL g l c)
  | [], c => LeO.refl _
  | y :: r, c => LeO.bind (h y c) fun p => LeO.ite (walkL_mono h r p.2) (LeO.refl _)
theorem walkF_mono : ∀ k x d c, LeO (walkF k x d c) (walkF (k + 1) x d c)
  | 0, _, _, _ => fun r h => by cases h
  | k + 1, x, d, c => by
    unfold walkF
    exact LeO.ite (LeO.refl _) (LeO.ite (LeO.refl _) (LeO.ite (LeO.refl _) (walkL_mono (fun y c => walkF_mono k y (d + 1) c) _ _)))
theorem valL_mono {f g : S24 → Option (Int × Int)} (h : ∀ y, LeO (f y) (g y)) : ∀ l i v0 v1, LeO (valL f l i v0 v1) (valL g l i v0 v1)
  | [], _, _, _ => LeO.refl _
  | y :: r, i, v0, v1 => LeO.bind (h y) fun p => LeO.ite (LeO.ite (valL_mono h r _ _ _) (LeO.refl _)) (LeO.ite (LeO.ite (valL_mono h r _ _ _) (LeO.refl _)) (LeO.refl _))
theorem valF_mono : ∀ k x y, LeO (valF k x y) (valF (k + 1) x y)
  | 0, _, _ => fun r h => by cases h
  | k + 1, x, y => by
    unfold valF
    exact LeO.bind (valL_mono (fun z => valF_mono k z y) _ _ _ _) fun t => LeO.refl _
def rule_Eval.f (k : Nat) (x0 x1 : Int) (l : List S24) (y : Int) : Option (Int × Int) :=
  (walkF k ⟨x0, x1, l⟩ 1 0).bind fun p => if p.1 = 0 then (if y < -10000 ∨ y > 10000 then some (0, 3) else valF k ⟨x0, x1, l⟩ y) else some (0, p.1)
theorem rule_Eval.mono : ∀ x0 x1 l y k, LeO (rule_Eval.f k x0 x1 l y) (rule_Eval.f (k + 1) x0 x1 l y) := fun x0 x1 l y k =>
  LeO.bind (walkF_mono k _ _ _) fun p => LeO.ite (LeO.ite (LeO.refl _) (valF_mono k _ _)) (LeO.refl _)
set_option maxHeartbeats 8000000 in
set_option maxRecDepth 100000 in
theorem rule_Eval.calls (k : Nat) (x0 x1 : Int) (A : Option Addr) (cp : Nat) (l : List S24) (y r er : Int) (w : World) [hG : Glob w] (hr : Kd.C k24 w A l.length l) (hc : l.length ≤ cp) (h : rule_Eval.f k x0 x1 l y = some (r, er)) :
    Calls Tryd.prog 5 #[.agg #[.int .i64 x0, .int .i64 x1, .slice A l.length cp], .int .i64 y] w fun e w' => e = .returned (.tuple #[.int .i64 r, .int .i64 er]) ∧ Below w.heap.size w w' := by
  obtain ⟨⟨p1, p2⟩, hw, h⟩ := Option.bind_eq_some_iff.mp h
  replace h : (if p1 = 0 then (if y < -10000 ∨ y > 10000 then some (0, 3) else valF k ⟨x0, x1, l⟩ y) else some (0, p1)) = some (r, er) := h
  have HR := Aside0.mk hr
  have HF := Aside0.mk hw
  have HB := Aside0.mk (Below.refl w.heap.size w)
  clear hr hw
  by_cases z : p1 = 0
  rotate_left
  · rw [if_neg z] at h
    obtain ⟨rfl, rfl⟩ := Prod.mk.inj (Option.some.inj h)
    have z1 : (p1 == 0) = false := beq_eq_false_iff_ne.mpr z
    have z2 : (p1 != 0) = true := bne_iff_ne.mpr z
    clear z h
    go_enter Tryd.func5, Tryd.ntmps5
    go_wp2_with (first | ((with_reducible refine gate_dst (N := 2) rfl ?_); refine box_event ?hg (N := 2) ?hd (cs := #[.int .i64 x0, .int .i64 x1, .slice A l.length cp]) (t := 24) ?hr ?_; (case hd => rfl); (case hg => rfl); (case hr => first | (go_simp; done) | (go_simp; rfl)); intro gb hg w1 hbox hb; have HB1 := Aside0.mk (below_step HB.out hb); have GB := Aside0.mk (show w.heap.size ≤ gb by rw [hg]; exact Nat.le_refl _); have BK := Aside0.mk hbox; have HG1 := Aside0.mk (Glob.below hG HB1.out); have HR1 := Aside0.mk (Kd.C_below HR.out HB1.out); clear hb hbox hg HB) | ((with_reducible refine gate_dst (N := 6) rfl ?_); refine box_event ?hg (N := 6) ?hd (cs := #[.int .i64 0]) (t := 3) ?hr ?_; (case hd => rfl); (case hg => rfl); (case hr => first | (go_simp; done) | (go_simp; rfl)); intro gn hg w2 hbox hb; have HB2 := Aside0.mk (below_step (Below.refl w1.heap.size w1) hb); have GN := Aside0.mk (show w1.heap.size ≤ gn by rw [hg]; exact Nat.le_refl _); have HB0 := HB1; have BK1 := BK; have M1 := bl_ BK hg; have M2 := bg_ BK hg; have BK2 := bb_ BK hb; have BN := Aside0.mk hbox; clear BK; obtain ⟨hb0, hb1, hb2⟩ := cells3 BK2; have hn0 := (show w2.cell? ⟨gn, 0, none⟩ = some (.int .i64 0) from (blk_cell BN.out 0).trans rfl); have hf0 := blk_frozen BN.out 0; have m1 := M1.out; have m2 := M2.out; clear hb hbox hg HB1) | (go_at_call 7; (with_reducible refine (walk_calls k ⟨x0, x1, l⟩ A cp 1 0 _ p2 w1 _ gn HG1.out HR1.out hc GN.out (by first | exact blk_drewN (blk_put (cs := #[.int .i64 0]) BN.out 0 _ rfl) _ | exact blk_put (cs := #[.int .i64 0]) BN.out 0 _ rfl | exact BN.out) (by repeat (first | (with_reducible first | exact HB2.out | apply below_alloc | apply pw_below_drewN | apply below_drew1 | refine below_set ?_ GN.out) | exact HB2.out)) (by omega) (by omega) (by omega) (by omega) HF.out).mono ?_); rintro e w3 ⟨rfl, hw3, hb3⟩; have HB3 := Aside0.mk (HB0.out.trans (Below.mono hb3 HB0.out.size)); have BK3 := Aside0.mk (heap_bel hb3 BK1.out); clear hw3 hb3 BN hb0 hb1 hb2 hn0 hf0 HB2 BK1 HB0 BK2))
    go_ret2
    exact ⟨rfl, by repeat (first | (with_reducible first | exact HB3.out | apply below_alloc | apply pw_below_drewN | apply below_drew1) | exact HB3.out)⟩
  subst z
  have z1 : ((0 : Int) == 0) = true := rfl
  have z2 : ((0 : Int) != 0) = false := rfl
  rw [if_pos rfl] at h
  by_cases b1 : y < -10000
  · rw [if_pos (.inl b1)] at h
    obtain ⟨rfl, rfl⟩ := Prod.mk.inj (Option.some.inj h)
    clear h
    have f1 : decide (y < -10000) = true := decide_eq_true b1
    go_enter Tryd.func5, Tryd.ntmps5
    go_wp2_with (first | ((with_reducible refine gate_dst (N := 2) rfl ?_); refine box_event ?hg (N := 2) ?hd (cs := #[.int .i64 x0, .int .i64 x1, .slice A l.length cp]) (t := 24) ?hr ?_; (case hd => rfl); (case hg => rfl); (case hr => first | (go_simp; done) | (go_simp; rfl)); intro gb hg w1 hbox hb; have HB1 := Aside0.mk (below_step HB.out hb); have GB := Aside0.mk (show w.heap.size ≤ gb by rw [hg]; exact Nat.le_refl _); have BK := Aside0.mk hbox; have HG1 := Aside0.mk (Glob.below hG HB1.out); have HR1 := Aside0.mk (Kd.C_below HR.out HB1.out); clear hb hbox hg HB) | ((with_reducible refine gate_dst (N := 6) rfl ?_); refine box_event ?hg (N := 6) ?hd (cs := #[.int .i64 0]) (t := 3) ?hr ?_; (case hd => rfl); (case hg => rfl); (case hr => first | (go_simp; done) | (go_simp; rfl)); intro gn hg w2 hbox hb; have HB2 := Aside0.mk (below_step (Below.refl w1.heap.size w1) hb); have GN := Aside0.mk (show w1.heap.size ≤ gn by rw [hg]; exact Nat.le_refl _); have HB0 := HB1; have BK1 := BK; have M1 := bl_ BK hg; have M2 := bg_ BK hg; have BK2 := bb_ BK hb; have BN := Aside0.mk hbox; clear BK; obtain ⟨hb0, hb1, hb2⟩ := cells3 BK2; have hn0 := (show w2.cell? ⟨gn, 0, none⟩ = some (.int .i64 0) from (blk_cell BN.out 0).trans rfl); have hf0 := blk_frozen BN.out 0; have m1 := M1.out; have m2 := M2.out; clear hb hbox hg HB1) | (go_at_call 7; (with_reducible refine (walk_calls k ⟨x0, x1, l⟩ A cp 1 0 _ p2 w1 _ gn HG1.out HR1.out hc GN.out (by first | exact blk_drewN (blk_put (cs := #[.int .i64 0]) BN.out 0 _ rfl) _ | exact blk_put (cs := #[.int .i64 0]) BN.out 0 _ rfl | exact BN.out) (by repeat (first | (with_reducible first | exact HB2.out | apply below_alloc | apply pw_below_drewN | apply below_drew1 | refine below_set ?_ GN.out) | exact HB2.out)) (by omega) (by omega) (by omega) (by omega) HF.out).mono ?_); rintro e w3 ⟨rfl, hw3, hb3⟩; have HB3 := Aside0.mk (HB0.out.trans (Below.mono hb3 HB0.out.size)); have BK3 := Aside0.mk (heap_bel hb3 BK1.out); clear hw3 hb3 BN hb0 hb1 hb2 hn0 hf0 HB2 BK1 HB0 BK2))
    repeat (go_quiet (fail); try go_wp2)
    go_ret2
    exact ⟨rfl, by repeat (first | (with_reducible first | exact HB3.out | apply below_alloc | apply pw_below_drewN | apply below_drew1) | exact HB3.out)⟩
  have f1 : decide (y < -10000) = false := decide_eq_false b1
  by_cases b2 : 10000 < y
  · rw [if_pos (.inr b2)] at h
    obtain ⟨rfl, rfl⟩ := Prod.mk.inj (Option.some.inj h)
    clear h
    have f2 : decide (10000 < y) = true := decide_eq_true b2
    go_enter Tryd.func5, Tryd.ntmps5
    go_wp2_with (first | ((with_reducible refine gate_dst (N := 2) rfl ?_); refine box_event ?hg (N := 2) ?hd (cs := #[.int .i64 x0, .int .i64 x1, .slice A l.length cp]) (t := 24) ?hr ?_; (case hd => rfl); (case hg => rfl); (case hr => first | (go_simp; done) | (go_simp; rfl)); intro gb hg w1 hbox hb; have HB1 := Aside0.mk (below_step HB.out hb); have GB := Aside0.mk (show w.heap.size ≤ gb by rw [hg]; exact Nat.le_refl _); have BK := Aside0.mk hbox; have HG1 := Aside0.mk (Glob.below hG HB1.out); have HR1 := Aside0.mk (Kd.C_below HR.out HB1.out); clear hb hbox hg HB) | ((with_reducible refine gate_dst (N := 6) rfl ?_); refine box_event ?hg (N := 6) ?hd (cs := #[.int .i64 0]) (t := 3) ?hr ?_; (case hd => rfl); (case hg => rfl); (case hr => first | (go_simp; done) | (go_simp; rfl)); intro gn hg w2 hbox hb; have HB2 := Aside0.mk (below_step (Below.refl w1.heap.size w1) hb); have GN := Aside0.mk (show w1.heap.size ≤ gn by rw [hg]; exact Nat.le_refl _); have HB0 := HB1; have BK1 := BK; have M1 := bl_ BK hg; have M2 := bg_ BK hg; have BK2 := bb_ BK hb; have BN := Aside0.mk hbox; clear BK; obtain ⟨hb0, hb1, hb2⟩ := cells3 BK2; have hn0 := (show w2.cell? ⟨gn, 0, none⟩ = some (.int .i64 0) from (blk_cell BN.out 0).trans rfl); have hf0 := blk_frozen BN.out 0; have m1 := M1.out; have m2 := M2.out; clear hb hbox hg HB1) | (go_at_call 7; (with_reducible refine (walk_calls k ⟨x0, x1, l⟩ A cp 1 0 _ p2 w1 _ gn HG1.out HR1.out hc GN.out (by first | exact blk_drewN (blk_put (cs := #[.int .i64 0]) BN.out 0 _ rfl) _ | exact blk_put (cs := #[.int .i64 0]) BN.out 0 _ rfl | exact BN.out) (by repeat (first | (with_reducible first | exact HB2.out | apply below_alloc | apply pw_below_drewN | apply below_drew1 | refine below_set ?_ GN.out) | exact HB2.out)) (by omega) (by omega) (by omega) (by omega) HF.out).mono ?_); rintro e w3 ⟨rfl, hw3, hb3⟩; have HB3 := Aside0.mk (HB0.out.trans (Below.mono hb3 HB0.out.size)); have BK3 := Aside0.mk (heap_bel hb3 BK1.out); clear hw3 hb3 BN hb0 hb1 hb2 hn0 hf0 HB2 BK1 HB0 BK2))
    repeat (go_quiet (fail); try go_wp2)
    go_ret2
    exact ⟨rfl, by repeat (first | (with_reducible first | exact HB3.out | apply below_alloc | apply pw_below_drewN | apply below_drew1) | exact HB3.out)⟩
  have f2 : decide (10000 < y) = false := decide_eq_false b2
  rw [if_neg (by omega)] at h
  have HH := Aside0.mk h
  clear h
  · go_enter Tryd.func5, Tryd.ntmps5
    go_wp2_with (first | ((with_reducible refine gate_dst (N := 2) rfl ?_); refine box_event ?hg (N := 2) ?hd (cs := #[.int .i64 x0, .int .i64 x1, .slice A l.length cp]) (t := 24) ?hr ?_; (case hd => rfl); (case hg => rfl); (case hr => first | (go_simp; done) | (go_simp; rfl)); intro gb hg w1 hbox hb; have HB1 := Aside0.mk (below_step HB.out hb); have GB := Aside0.mk (show w.heap.size ≤ gb by rw [hg]; exact Nat.le_refl _); have BK := Aside0.mk hbox; have HG1 := Aside0.mk (Glob.below hG HB1.out); have HR1 := Aside0.mk (Kd.C_below HR.out HB1.out); clear hb hbox hg HB) | ((with_reducible refine gate_dst (N := 6) rfl ?_); refine box_event ?hg (N := 6) ?hd (cs := #[.int .i64 0]) (t := 3) ?hr ?_; (case hd => rfl); (case hg => rfl); (case hr => first | (go_simp; done) | (go_simp; rfl)); intro gn hg w2 hbox hb; have HB2 := Aside0.mk (below_step (Below.refl w1.heap.size w1) hb); have GN := Aside0.mk (show w1.heap.size ≤ gn by rw [hg]; exact Nat.le_refl _); have HB0 := HB1; have BK1 := BK; have M1 := bl_ BK hg; have M2 := bg_ BK hg; have BK2 := bb_ BK hb; have BN := Aside0.mk hbox; clear BK; obtain ⟨hb0, hb1, hb2⟩ := cells3 BK2; have hn0 := (show w2.cell? ⟨gn, 0, none⟩ = some (.int .i64 0) from (blk_cell BN.out 0).trans rfl); have hf0 := blk_frozen BN.out 0; have m1 := M1.out; have m2 := M2.out; clear hb hbox hg HB1) | (go_at_call 7; (with_reducible refine (walk_calls k ⟨x0, x1, l⟩ A cp 1 0 _ p2 w1 _ gn HG1.out HR1.out hc GN.out (by first | exact blk_drewN (blk_put (cs := #[.int .i64 0]) BN.out 0 _ rfl) _ | exact blk_put (cs := #[.int .i64 0]) BN.out 0 _ rfl | exact BN.out) (by repeat (first | (with_reducible first | exact HB2.out | apply below_alloc | apply pw_below_drewN | apply below_drew1 | refine below_set ?_ GN.out) | exact HB2.out)) (by omega) (by omega) (by omega) (by omega) HF.out).mono ?_); rintro e w3 ⟨rfl, hw3, hb3⟩; have HB3 := Aside0.mk (HB0.out.trans (Below.mono hb3 HB0.out.size)); have BK3 := Aside0.mk (heap_bel hb3 BK1.out); clear hw3 hb3 BN hb0 hb1 hb2 hn0 hf0 HB2 BK1 HB0 BK2; have GM := Aside0.mk (show w.heap.size ≤ w3.heap.size from HB3.out.size); have BM := Aside0.mk (show (w3.alloc (.cells #[.int .i64 y, .int .i64 0] 34)).heap[w3.heap.size]? = some (.cells #[.int .i64 y, .int .i64 0] 34 (0, 0)) from Array.getElem?_push_size); have BK4 := Aside0.mk (show (w3.alloc (.cells #[.int .i64 y, .int .i64 0] 34)).heap[gb]? = some (.cells #[.int .i64 x0, .int .i64 x1, .slice A l.length cp] 24 (0, 0)) from blk_alloc BK3.out _); have HB4 := Aside0.mk (show Below w.heap.size w (w3.alloc (.cells #[.int .i64 y, .int .i64 0] 34)) from below_alloc HB3.out _); obtain ⟨hb0, hb1, hb2⟩ := cells3 BK4) | (go_at_call 8; (with_reducible refine (value_calls k ⟨x0, x1, l⟩ A cp y r er w _ w3.heap.size HR.out hc GM.out (by first | exact BM.out | exact blk_drewN (blk_put (blk_put (cs := #[.int .i64 y, .int .i64 0]) BM.out 0 _ rfl) 1 _ rfl) _ | exact blk_put (blk_put (cs := #[.int .i64 y, .int .i64 0]) BM.out 0 _ rfl) 1 _ rfl) (by repeat (first | (with_reducible first | exact HB4.out | apply below_alloc | apply pw_below_drewN | apply below_drew1 | refine below_set ?_ GM.out) | exact HB4.out)) (by omega) (by omega) HH.out).mono ?_); rintro e w5 ⟨rfl, hw5, hb5, _⟩; have HB5 := Aside0.mk hb5; have hm1 := (show w5.cell? ⟨w3.heap.size, 1, none⟩ = some (.int .i64 er) from (blk_cell hw5 1).trans rfl); clear hw5 hb5 BM HB4 hb0 hb1 hb2))
    repeat (go_quiet (fail); try (go_wp2_with (first | (go_at_call 8; (with_reducible refine (value_calls k ⟨x0, x1, l⟩ A cp y r er w _ w3.heap.size HR.out hc GM.out (by first | exact BM.out | exact blk_drewN (blk_put (blk_put (cs := #[.int .i64 y, .int .i64 0]) BM.out 0 _ rfl) 1 _ rfl) _ | exact blk_put (blk_put (cs := #[.int .i64 y, .int .i64 0]) BM.out 0 _ rfl) 1 _ rfl) (by repeat (first | (with_reducible first | exact HB4.out | apply below_alloc | apply pw_below_drewN | apply below_drew1 | refine below_set ?_ GM.out) | exact HB4.out)) (by omega) (by omega) HH.out).mono ?_); rintro e w5 ⟨rfl, hw5, hb5, _⟩; have HB5 := Aside0.mk hb5; have hm1 := (show w5.cell? ⟨w3.heap.size, 1, none⟩ = some (.int .i64 er) from (blk_cell hw5 1).trans rfl); clear hw5 hb5 BM HB4 hb0 hb1 hb2))))
    go_ret2
    exact ⟨rfl, by repeat (first | (with_reducible first | exact HB5.out | apply below_alloc | apply pw_below_drewN | apply below_drew1) | exact HB5.out)⟩
end Go.Proofs.YtboddbgmgcjppaaDoor.QRuleNegates
