/- The told variables with those of rule.Print. -/
import Derived.Test.YtdkifonomakcbaaGreatDoorPG2
import Derived.Test.YtdkifonomakcbaaGreatDoorPK7
set_option linter.unusedVariables false
set_option linter.unusedSimpArgs false
namespace Go.Proofs.YtdkifonomakcbaaGreatDoorA
open Go Go.RowKit Go.Proofs Go.Proofs.YtdkifonomakcbaaGreatDoor
theorem el_str : ElemT Tryz.prog 9 := .inl (.inr (by kernel_rfl))
structure ToldC (laid : List (String × DataW Unit)) : Prop where
  t : ToldT laid
  lvl : ("ephemeris/rule.levels", .agg (listD Rows.laid_ephemeris_rule_levels)) ∈ laid
  sgn : ("ephemeris/rule.signs", .agg (listD Rows.laid_ephemeris_rule_signs)) ∈ laid
theorem rowLvl : (listD Rows.laid_ephemeris_rule_levels).map avD = lvlT := by kernel_rfl
theorem rowSgn : (listD Rows.laid_ephemeris_rule_signs).map avD = sgnT := by kernel_rfl
theorem globs_ofC {W : World} {laid : List (String × DataW Unit)} (hL : laidMet Tryz.prog laid W) (hT : ToldC laid) (hS : W.ShapedOpen Tryz.prog) : ∃ m, Globs (glC m) (okW W) W := by
  obtain ⟨m, hm⟩ := globs_of hL hT.t hS
  refine ⟨m, fun g row hg => ?_⟩
  unfold glC at hg
  split at hg
  · rename_i q
    obtain rfl := Nat.eq_of_beq_eq_true q
    cases hg
    have := glob_of hL hT.lvl (g := 1) (t := 116) (m := 14) (by kernel_rfl) (by kernel_rfl) (by kernel_rfl) el_int (by kernel_rfl) (by kernel_rfl)
    rw [rowLvl] at this
    exact this
  split at hg
  · rename_i q
    obtain rfl := Nat.eq_of_beq_eq_true q
    cases hg
    have := glob_of hL hT.sgn (g := 2) (t := 118) (m := 14) (by kernel_rfl) (by kernel_rfl) (by kernel_rfl) el_str (by kernel_rfl) (by kernel_rfl)
    rw [rowSgn] at this
    exact this
  · exact hm g row hg
end Go.Proofs.YtdkifonomakcbaaGreatDoorA
