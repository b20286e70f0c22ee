import Derived.Test.YtidjaahpabppaaaDoorRuleD
import Derived.Lib.SliceRun
set_option linter.unusedVariables false
set_option linter.unusedSimpArgs false
namespace Go.Proofs.YtidjaahpabppaaaDoor.QCompileLeastSame
open Go.RowKit Go.Proofs.YtidjaahpabppaaaDoorW.PrintWords Go.Proofs.YtidjaahpabppaaaDoorW.PrintLast Go.Proofs.YtidjaahpabppaaaDoorW.PrintMore Go.Proofs.YtidjaahpabppaaaDoor Go.Proofs.YtidjaahpabppaaaDoorFar
def slices_Clone__M.f (l : List S46) : Option (List S46) := if l.length * 32 ≤ 140737488355328 then some l else none
set_option maxHeartbeats 8000000 in
set_option maxRecDepth 100000 in
theorem slices_Clone__M.calls (A : Option Addr) (cp : Nat) (l : List S46) (r : List S46) (w : World) (hr : Kd.C k46 w A l.length l) (hc : l.length ≤ cp) (h : slices_Clone__M.f l = some r) :
    Calls Tryd.prog 37 #[.slice A l.length cp] w fun e w' => ∃ v0_ : Value, e = .returned v0_ ∧ Kd.R k46 46 w' w.heap.size (fun _ => True) v0_ r ∧ Below w.heap.size w w' := by
  unfold slices_Clone__M.f at h
  split at h
  rotate_left
  · cases h
  rename_i hs
  obtain rfl := Option.some.inj h
  clear h
  have q42 : ∀ (w : World) (a : Option Addr) (n c n' c' : Nat), (binOp .eql 42 (.slice a n c) (.slice none n' c')).run Tryd.prog w = .ok (.bool a.isNone) w := fun w a n c n' c' => Lib.run_eql_slice_nil w _ _ a n c n' c' Tryd.underlying42
  have HR := Aside0.mk hr
  clear hr
  cases A with
  | none =>
    have e0 : l = [] := by
      rcases Nat.eq_zero_or_pos l.length with h0 | h0
      · exact List.eq_nil_of_length_eq_zero h0
      · obtain ⟨ad, h, _⟩ := HR.out.2.2 h0; cases h
    subst e0
    go_enter Tryd.func37, Tryd.ntmps37
    go_wp2
    go_ret
    exact ⟨_, rfl, Kd.R_nil _ _ _ _ _, by repeat (first | (with_reducible first | exact Below.refl _ _ | apply below_alloc | apply pw_below_drewN | apply below_drew1) | exact Below.refl _ _)⟩
  | some ad =>
    have HO := Aside0.mk (show k46.R 46 (w.alloc (.cells #[] 46)) w.heap.size (fun _ => True) (.slice (some ⟨w.heap.size, 0, none⟩) 0 0) [] from ⟨fun _ _ => trivial, OwnRow.lit (ps := ([] : List S46)) (inner := []) w w.heap.size (Reps.none _ _) (Nat.le_refl _) (by decide)⟩)
    have HC := Aside0.mk (Kd.C_alloc HR.out (.cells #[] 46))
    have HB := Aside0.mk (below_alloc (Below.refl w.heap.size w) (.cells #[] 46))
    go_enter Tryd.func37, Tryd.ntmps37
    go_wp2_with (((with_reducible refine gate_dst (N := 7) rfl ?_); refine Kd.R_append_rows k46 (Rr := k46.K (w.alloc (.cells #[] 46))) (w0 := w) w.heap.size rfl _ _ 42 46 (.agg #[.string ⟨#[]⟩, .int .i64 0, .int .i64 0]) 32 rfl Tryd.underlying42 info46 rfl (by decide) (by decide) _ [] l (some ad) l.length cp (fun _ => True) (fun k => some k ≠ some w.heap.size) rfl rfl HO.out HC.out (fun x cs h => by obtain rfl := k46_open h; exact k46_mkM _ _ _ _) (fun k h => ⟨trivial, h⟩) (fun _ _ => trivial) HB.out HB.out.size (by simpa using hs) ?_); intro v1 w1 hR hb1 _ _; have HR1 := Aside0.mk hR; have HB1 := Aside0.mk hb1; clear hR hb1)
    go_ret
    exact ⟨v1, rfl, HR1.out, by repeat (first | (with_reducible first | exact HB1.out | apply below_alloc | apply pw_below_drewN | apply below_drew1) | exact HB1.out)⟩
end Go.Proofs.YtidjaahpabppaaaDoor.QCompileLeastSame
