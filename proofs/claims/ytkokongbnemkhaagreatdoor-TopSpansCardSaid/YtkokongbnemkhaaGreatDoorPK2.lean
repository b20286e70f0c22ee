/- rule.one as a contract for runs that are reckoned out. -/
import Derived.Test.YtkokongbnemkhaaGreatDoorPK1
set_option linter.unusedVariables false
set_option linter.unusedSimpArgs false
namespace Go.Proofs.YtkokongbnemkhaaGreatDoorA
open Go Go.RowKit Go.Proofs
noncomputable def oneD : DefP := match Tryz.f72.body, Tryz.f72.results.toList with
  | some (.seq (.region id0 ops0 _) (.seq (.region id1 ops1 _) rest)), [.cell rp rt] => (match ops1 with
    | #[⟨some d9, .makeFunc (.func g) fs bs, t1, p1, a1, _⟩, ⟨_, _, t2, p2, a2, _⟩] => ⟨id0, id1, d9, ops0, g, fs, bs, t1, t2, p1, p2, a1, a2, rest, rp, rt⟩
    | _ => ⟨0, 0, 0, #[], 0, #[], #[], 0, 0, "", "", #[], #[], .skip, 0, 0⟩)
  | _, _ => ⟨0, 0, 0, #[], 0, #[], #[], 0, 0, "", "", #[], #[], .skip, 0, 0⟩
theorem oneD_body : Tryz.f72.body = some oneD.body := by kernel_rfl
noncomputable def oneC : RecP := match Tryz.f97.body with
  | some (.seq (.region id ops _) rest) => (match ops with
    | #[⟨some d1, _, t1, p1, a1, _⟩, ⟨some d2, _, t2, p2, a2, _⟩] => ⟨id, d1, d2, t1, t2, p1, p2, a1, a2, rest⟩
    | _ => ⟨0, 0, 0, 0, 0, "", "", #[], #[], .skip⟩)
  | _ => ⟨0, 0, 0, 0, 0, "", "", #[], #[], .skip⟩
theorem oneC_body : Tryz.f97.body = some oneC.body := by kernel_rfl
noncomputable def oneR (m : Int) (args : List AV) (h : Hp) : Option (Out × Hp) := match Nat.ble args.length 3 with
  | true => evDZ (EK m) XK 1000000 Tryz.f72.ntmps Tryz.f97.ntmps oneD oneC args h
  | false => none
noncomputable def XP (m : Int) : XT := fun f args h => match Nat.beq f 72 with
  | true => oneR m args h
  | false => XK f args h
theorem xp (m : Int) : XOk (EK m) (XP m) := by
  intro f args h o h' e
  unfold XP at e
  split at e
  · rename_i hf; cases Nat.eq_of_beq_eq_true hf
    unfold oneR at e
    split at e
    · rename_i hl
      have hl' := Nat.le_of_ble_eq_true hl
      have h64 : 3 ≤ Tryz.f72.ntmps := by decide +kernel
      exact evDZ_ok (D := oneD) (C := oneC) (fc := Tryz.f97) (xk m) (ekN m) (ekO m) Tryz.func72 oneD_body rfl (by kernel_rfl) (by decide +kernel) (by kernel_rfl) oneC_body rfl (by kernel_rfl) (by decide +kernel) (by omega) e
    · cases e
  · exact xk m f args h o h' e
end Go.Proofs.YtkokongbnemkhaaGreatDoorA
