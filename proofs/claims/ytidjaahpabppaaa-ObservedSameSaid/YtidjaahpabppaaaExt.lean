/- Contracts proved by hand: functions that go through the bytes of a string. -/
import Derived.Test.YtidjaahpabppaaaProg
import Derived.Test.YtidjaahpabppaaaWMore
import Derived.Test.YtidjaahpabppaaaWNEv
import Derived.WalkKit
import Derived.KernelRfl
import Derived.Lib.ConvBytes
set_option linter.unusedVariables false
namespace Go.Proofs.Ytidjaahpabppaaa
open Go.RowKit Go.Proofs.YtidjaahpabppaaaW.PrintWords Go.Proofs.YtidjaahpabppaaaW.PrintLast
def inR (lo hi c : Int) : Bool := decide (lo ≤ c) && decide (c ≤ hi)
def allR (lo hi : Int) (s : ByteArray) : Bool := (List.range s.size).all fun i => inR lo hi (bt s i)
theorem allR_of (lo hi : Int) (s : ByteArray) (h : ∀ j : Nat, j < s.size → inR lo hi (bt s j) = true) : allR lo hi s = true := by
  unfold allR
  rw [List.all_eq_true]
  intro i hi
  exact h i (by simpa using hi)
theorem allR_not (lo hi : Int) (s : ByteArray) (j : Nat) (hj : j < s.size) (h : inR lo hi (bt s j) = false) : allR lo hi s = false := by
  unfold allR
  rw [List.all_eq_false]
  exact ⟨j, by simpa using hj, by rw [h]; decide⟩
theorem bytes_cell (w : World) (s : ByteArray) (e : TypeId) (k : Nat) (hk : k < s.size) : (Lib.bytesWorld w e s).cell? ⟨w.heap.size, k, none⟩ = some (.int .u8 (bt s k)) := by
  rw [Lib.bytesWorld_cell w e s k hk]
  have h' : k < s.data.toList.length := by rw [data_length]; exact hk
  congr 2
  unfold bt
  rw [dif_pos (by simpa using hk)]
  simp [List.getD_eq_getElem?_getD, List.getElem?_eq_getElem h']
  rfl

def nameB (s : ByteArray) : Bool := decide (1 ≤ s.size) && decide (s.size ≤ 12) && !(s.toList == [121]) && !(s.toList == [97, 110, 100]) && !(s.toList == [111, 114]) && !(s.toList == [110, 111, 116]) && allR 97 122 s
def rule_Name.f (a0 : ByteArray) : Option Bool := some (nameB a0)
set_option maxHeartbeats 1000000 in
theorem rule_Name.calls (a0 : ByteArray) (r : Bool) (w : World) (h : rule_Name.f a0 = some r) :
    Calls Try.prog 39 #[.string a0] w fun e w' => e = .returned (.bool r) ∧ Below w.heap.size w w' := by
  obtain rfl : nameB a0 = r := Option.some.inj h
  clear h
  by_cases c1 : a0.size < 1
  · have e : nameB a0 = false := by unfold nameB; simp; omega
    rw [e]
    clear e
    have d1 : decide (a0.size < 1) = true := decide_eq_true c1
    have d2 : decide ((a0.size : Int) < 1) = true := decide_eq_true (by omega)
    go_enter Try.func39, Try.ntmps39
    go_wp2
    go_ret
    exact ⟨rfl, Below.refl _ _⟩
  have d1 : decide (a0.size < 1) = false := decide_eq_false c1
  have d1' : decide ((a0.size : Int) < 1) = false := decide_eq_false (by omega)
  by_cases c2 : 12 < a0.size
  · have e : nameB a0 = false := by unfold nameB; simp; omega
    rw [e]
    clear e
    have d2 : decide (12 < a0.size) = true := decide_eq_true c2
    have d2' : decide (12 < (a0.size : Int)) = true := decide_eq_true (by omega)
    go_enter Try.func39, Try.ntmps39
    go_wp2
    go_ret
    exact ⟨rfl, Below.refl _ _⟩
  have d2 : decide (12 < a0.size) = false := decide_eq_false c2
  have d2' : decide (12 < (a0.size : Int)) = false := decide_eq_false (by omega)
  by_cases c3 : (a0.toList == [121]) = true
  · have e : nameB a0 = false := by unfold nameB; simp [c3]
    rw [e]
    clear e
    have c3' : a0.toList = [121] := by simpa using c3
    go_enter Try.func39, Try.ntmps39
    go_wp2
    go_ret
    exact ⟨rfl, Below.refl _ _⟩
  have c3' : ¬ (a0.toList = [121]) := by simpa using c3
  replace c3 : (a0.toList == [121]) = false := by simpa using c3
  by_cases c4 : (a0.toList == [97, 110, 100]) = true
  · have e : nameB a0 = false := by unfold nameB; simp [c4]
    rw [e]
    clear e
    have c4' : a0.toList = [97, 110, 100] := by simpa using c4
    go_enter Try.func39, Try.ntmps39
    go_wp2
    go_ret
    exact ⟨rfl, Below.refl _ _⟩
  have c4' : ¬ (a0.toList = [97, 110, 100]) := by simpa using c4
  replace c4 : (a0.toList == [97, 110, 100]) = false := by simpa using c4
  by_cases c5 : (a0.toList == [111, 114]) = true
  · have e : nameB a0 = false := by unfold nameB; simp [c5]
    rw [e]
    clear e
    have c5' : a0.toList = [111, 114] := by simpa using c5
    go_enter Try.func39, Try.ntmps39
    go_wp2
    go_ret
    exact ⟨rfl, Below.refl _ _⟩
  have c5' : ¬ (a0.toList = [111, 114]) := by simpa using c5
  replace c5 : (a0.toList == [111, 114]) = false := by simpa using c5
  by_cases c6 : (a0.toList == [110, 111, 116]) = true
  · have e : nameB a0 = false := by unfold nameB; simp [c6]
    rw [e]
    clear e
    have c6' : a0.toList = [110, 111, 116] := by simpa using c6
    go_enter Try.func39, Try.ntmps39
    go_wp2
    go_ret
    exact ⟨rfl, Below.refl _ _⟩
  have c6' : ¬ (a0.toList = [110, 111, 116]) := by simpa using c6
  replace c6 : (a0.toList == [110, 111, 116]) = false := by simpa using c6
  have hN : nameB a0 = allR 97 122 a0 := by
    unfold nameB
    rw [c3, c4, c5, c6, decide_eq_true (show 1 ≤ a0.size by omega), decide_eq_true (show a0.size ≤ 12 by omega)]
    simp
  have HN := Aside0.mk hN
  clear hN
  have kb := fun W => print_bytes (P := Try.prog) 9 110 5 Try.underlying9 Try.underlying110 Try.underlying5 a0 W
  have hb : Below w.heap.size w (Lib.bytesWorld w 5 a0) := bytes_below (Below.refl _ _) (Nat.le_refl _) 5 a0
  have HB := Aside0.mk hb
  clear hb
  go_enter Try.func39, Try.ntmps39
  go_wp2
  have h12 : a0.size ≤ 12 := by omega
  clear kb c1 c2 d1 d1' c3 c3' c4 c4' c5 c5' c6 c6'
  go_loop [32] (fun i => ∃ k : Nat, k ≤ a0.size ∧ i = .int .i64 k ∧ Aside0 (∀ j : Nat, j < k → inR 97 122 (bt a0 j) = true)) (fun i => a0.size - (intOf i).toNat)
  case atStart => exact ⟨0, Nat.zero_le _, rfl, ⟨fun j hj => by omega⟩⟩
  case round =>
    obtain ⟨k, hk, rfl, hlow⟩ := hrel
    by_cases hlt : k < a0.size
    · have hc := bytes_cell w a0 5 k hlt
      have hr := bt_range a0 k
      have hls := allR_not 97 122 a0 k hlt
      generalize hbt : bt a0 (k : Int) = c at *
      have Hbt := Aside0.mk hbt
      clear hbt
      have HLS := Aside0.mk hls
      clear hls
      by_cases l1 : c < 97
      · have l1' : decide (c < 97) = true := decide_eq_true l1
        go_wp2
        go_ret
        exact ⟨by rw [HN.out, HLS.out (by unfold inR; simp; omega)]; first | rfl | (simp; done), HB.out⟩
      · have l1' : decide (c < 97) = false := decide_eq_false l1
        by_cases l2 : 122 < c
        · have l2' : decide (122 < c) = true := decide_eq_true l2
          go_wp2
          go_ret
          exact ⟨by rw [HN.out, HLS.out (by unfold inR; simp; omega)]; first | rfl | (simp; done), HB.out⟩
        · have l2' : decide (122 < c) = false := decide_eq_false l2
          go_wp2
          go_round
          case rel =>
            refine ⟨k + 1, by omega, by go_num, ⟨fun j hj => ?_⟩⟩
            by_cases z : j = k
            · subst z; rw [Hbt.out]; unfold inR; simp; omega
            · exact hlow.out j (by omega)
          case measure => simp [intOf]; omega
    · have : k = a0.size := by omega
      subst this
      go_wp2
      go_ret
      exact ⟨by rw [HN.out, allR_of 97 122 a0 hlow.out]; first | rfl | (simp; done), HB.out⟩

end Go.Proofs.Ytidjaahpabppaaa
