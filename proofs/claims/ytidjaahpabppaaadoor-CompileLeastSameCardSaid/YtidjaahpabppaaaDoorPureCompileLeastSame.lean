/- CompileLeastSame, in plain Lean: the rules are compiled to a calendar in order or to an error; the least cycle is the least divisor of the cycle that the leap years repeat by; so leap years, lengths and the least cycle agree. No condition. -/
import Derived.Test.YtidjaahpabppaaaDoorQCompileLeastSamex16
import Derived.Test.YtidjaahpabppaaaDoorStmtCompileLeastSame
set_option linter.unusedVariables false
set_option linter.unusedSimpArgs false
namespace Go.Proofs.YtidjaahpabppaaaDoor.Pure
open Go.RowKit Go.Proofs.YtidjaahpabppaaaDoor.QCompileLeastSame Go.Proofs.YtidjaahpabppaaaDoorW.PrintWords Go.Proofs.YtidjaahpabppaaaDoorW.PrintLast

theorem lit64 {a : Int} (h : (Go.Lit.int .i64 a).wf = true) : -9223372036854775808 ≤ a ∧ a ≤ 9223372036854775807 := by
  simp only [Go.Lit.wf, Bool.and_eq_true, decide_eq_true_eq] at h
  have h1 : Go.IntKind.i64.min = -9223372036854775808 := by decide
  have h2 : Go.IntKind.i64.max = 9223372036854775807 := by decide
  omega
theorem w64 {n : Int} (h1 : -9223372036854775808 ≤ n) (h2 : n ≤ 9223372036854775807) : wrap64 n = n := by unfold wrap64; omega
theorem w64r (n : Int) : -9223372036854775808 ≤ wrap64 n ∧ wrap64 n ≤ 9223372036854775807 := by unfold wrap64; omega
theorem tmod_pos {a b : Int} (ha : 0 ≤ a) : Int.tmod a b = a % b := by rw [Int.tmod_eq_emod, if_pos (Or.inl ha)]; simp
theorem tdiv_pos {a b : Int} (ha : 0 ≤ a) : Int.tdiv a b = a / b := by rw [Int.tdiv_eq_ediv, if_pos (Or.inl ha)]; simp
theorem tmod_bounds {a b : Int} (hb : 0 < b) : -b < Int.tmod a b ∧ Int.tmod a b < b ∧ (0 ≤ a → 0 ≤ Int.tmod a b) ∧ (a ≤ 0 → Int.tmod a b ≤ 0) := by
  rw [Int.tmod_eq_emod]
  have h1 := Int.emod_nonneg a (show b ≠ 0 by omega)
  have h2 := Int.emod_lt_of_pos a hb
  split
  · rename_i h
    refine ⟨by omega, by omega, fun _ => by omega, fun h0 => ?_⟩
    rcases h with h | h
    · have : a = 0 := by omega
      subst this; simp
    · rw [Int.emod_eq_zero_of_dvd h]; simp
  · refine ⟨by omega, by omega, fun _ => by omega, fun _ => by omega⟩
/-- tmod and tdiv against emod and ediv, for a positive divisor. -/
theorem tmod_cases {a b : Int} (hb : 0 < b) : (Int.tmod a b = a % b ∧ Int.tdiv a b = a / b ∧ (0 ≤ a ∨ a % b = 0)) ∨ (a < 0 ∧ a % b ≠ 0 ∧ Int.tmod a b = a % b - b ∧ Int.tdiv a b = a / b + 1) := by
  by_cases h : 0 ≤ a ∨ b ∣ a
  · left
    refine ⟨by rw [Int.tmod_eq_emod, if_pos h]; simp, by rw [Int.tdiv_eq_ediv, if_pos h]; simp, h.imp id Int.emod_eq_zero_of_dvd⟩
  · right
    have h' := not_or.mp h
    refine ⟨by omega, fun e => h'.2 (Int.dvd_of_emod_eq_zero e), ?_, ?_⟩
    · rw [Int.tmod_eq_emod, if_neg h]; omega
    · rw [Int.tdiv_eq_ediv, if_neg h, Int.sign_eq_one_of_pos hb]
theorem ediv_range {a b : Int} (hb : 0 < b) (h1 : -9223372036854775808 ≤ a) (h2 : a ≤ 9223372036854775807) : -9223372036854775808 ≤ a / b ∧ a / b ≤ 9223372036854775807 := by
  have e := Int.mul_ediv_add_emod a b
  have l := Int.emod_nonneg a (show b ≠ 0 by omega)
  have u := Int.emod_lt_of_pos a hb
  constructor
  · by_cases c : 0 ≤ a
    · have := Int.ediv_nonneg c (show 0 ≤ b by omega); omega
    · have : a ≤ a / b := by
        rw [Int.le_ediv_iff_mul_le hb]
        have : a * b ≤ a * 1 := Int.mul_le_mul_of_nonpos_left (by omega) (by omega)
        omega
      omega
  · by_cases c : 0 ≤ a
    · have : a / b ≤ a := Int.ediv_le_self b c
      omega
    · have : a / b ≤ 0 := by
        have : a / b < 0 := Int.ediv_neg_of_neg_of_pos (by omega) hb
        omega
      omega
/-- the remainder from 0 on, as the program computes it twice. -/
theorem mod_twice {a b : Int} (hb : 0 < b) (hb2 : b ≤ 4611686018427387904) : Int.tmod (wrap64 ((Int.tmod a b) + b)) b = a % b := by
  have hc := tmod_bounds (a := a) hb
  have h1 := Int.emod_nonneg a (show b ≠ 0 by omega)
  have h2 := Int.emod_lt_of_pos a hb
  rw [w64 (by omega) (by omega)]
  rw [tmod_pos (by omega)]
  rcases tmod_cases (a := a) hb with ⟨e, _, _⟩ | ⟨_, _, e, _⟩
  · rw [e]; simp
  · rw [e, show a % b - b + b = a % b from by omega]; simp

theorem mod_is (a b : Int) (hb : 0 < b) (hb2 : b ≤ 4611686018427387904) : ephemeriskeep1_mod.f a b = some (a % b) := by
  unfold ephemeriskeep1_mod.f
  rw [if_neg (by omega), mod_twice hb hb2]
theorem cut_is (a l n : Int) (hn : 0 < n) (hn2 : n ≤ 4611686018427387904) (h1 : -4611686018427387904 ≤ l) (h2 : l ≤ 4611686018427387904) :
    ∃ r, ephemeriskeep1_cut.f a l n = some r ∧ l ≤ r ∧ r < l + n ∧ r = l + a % n := by
  have h3 := Int.emod_nonneg a (show n ≠ 0 by omega)
  have h4 := Int.emod_lt_of_pos a hn
  refine ⟨l + a % n, ?_, by omega, by omega, rfl⟩
  unfold ephemeriskeep1_cut.f
  rw [mod_is a n hn hn2, Option.bind_some, w64 (by omega) (by omega)]

theorem wmod_is (a b : Int) (hb : 0 < b) (hb2 : b ≤ 4611686018427387904) : whole_Mod.f a b = some (a % b) := by
  have hc := tmod_bounds (a := a) hb
  have h1 := Int.emod_nonneg a (show b ≠ 0 by omega)
  have h2 := Int.emod_lt_of_pos a hb
  unfold whole_Mod.f
  rw [if_neg (by omega)]
  rcases tmod_cases (a := a) hb with ⟨e, _, c⟩ | ⟨c, c', e, _⟩
  · rw [e, if_neg (by omega)]
  · rw [e, if_pos (by omega), w64 (by omega) (by omega)]
    congr 1; omega

theorem check_ok (d : Int) (h1 : -4000000 ≤ d) (h2 : d ≤ 4000000) : line_Check.f d = some 0 := by
  unfold line_Check.f
  rw [if_neg (by omega), if_neg (by omega)]
theorem check_bad (d : Int) (h : d < -4000000 ∨ 4000000 < d) : line_Check.f d = some 3 := by
  unfold line_Check.f
  by_cases c : d < -4000000
  · rw [if_pos c]
  · rw [if_neg c, if_pos (by omega)]

/-- With enough rounds. -/
def Ev (p : Nat → Prop) : Prop := ∃ K, ∀ k, K ≤ k → p k
theorem Ev.of {p : Nat → Prop} (h : ∀ k, p k) : Ev p := ⟨0, fun k _ => h k⟩
theorem Ev.and {p q : Nat → Prop} (h : Ev p) (g : Ev q) : Ev (fun k => p k ∧ q k) := by
  obtain ⟨K, hK⟩ := h
  obtain ⟨L, hL⟩ := g
  exact ⟨max K L, fun k hk => ⟨hK k (by omega), hL k (by omega)⟩⟩
theorem Ev.imp {p q : Nat → Prop} (h : Ev p) (g : ∀ k, p k → q k) : Ev q := by
  obtain ⟨K, hK⟩ := h
  exact ⟨K, fun k hk => g k (hK k hk)⟩
/-- One round more. -/
theorem Ev.up {p q : Nat → Prop} (h : Ev p) (g : ∀ k, p k → q (k + 1)) : Ev q := by
  obtain ⟨K, hK⟩ := h
  refine ⟨K + 1, fun k hk => ?_⟩
  obtain ⟨j, rfl⟩ : ∃ j, k = j + 1 := ⟨k - 1, by omega⟩
  exact g j (hK j (by omega))
theorem Ev.up0 {q : Nat → Prop} (g : ∀ k, q (k + 1)) : Ev q := Ev.up (p := fun _ => True) (Ev.of fun _ => trivial) (fun k _ => g k)
theorem Ev.ex {p : Nat → Prop} (h : Ev p) : ∃ k, p k := by
  obtain ⟨K, hK⟩ := h
  exact ⟨K, hK K (Nat.le_refl _)⟩
theorem Ev.mono {α : Type} {g : Nat → Option α} (hm : ∀ k, LeO (g k) (g (k + 1))) {k : Nat} {r : α} (h : g k = some r) : Ev (fun k => g k = some r) := by
  refine ⟨k, fun j hj => ?_⟩
  obtain ⟨d, rfl⟩ : ∃ d, j = k + d := ⟨j - k, by omega⟩
  clear hj
  induction d with
  | zero => exact h
  | succ d ih => exact hm _ _ ih
/-- Whatever the answer is, it is there with enough rounds. -/
def Tot {α : Type} (g : Nat → Option α) : Prop := ∃ t, Ev (fun k => g k = some t)
theorem tot_some {α : Type} (v : α) : Tot (fun _ => some v) := ⟨v, Ev.of fun _ => rfl⟩
theorem tot_ite {α : Type} {c : Prop} [Decidable c] {a b : Nat → Option α} (h : c → Tot a) (g : ¬ c → Tot b) : Tot (fun k => if c then a k else b k) := by
  by_cases z : c
  · obtain ⟨t, ht⟩ := h z
    exact ⟨t, ht.imp fun k hk => by show (if c then a k else b k) = some t; rw [if_pos z]; exact hk⟩
  · obtain ⟨t, ht⟩ := g z
    exact ⟨t, ht.imp fun k hk => by show (if c then a k else b k) = some t; rw [if_neg z]; exact hk⟩
theorem tot_bind {α β : Type} {a : Nat → Option α} {b : Nat → α → Option β} (h : Tot a) (g : ∀ x, Ev (fun k => a k = some x) → Tot (fun k => b k x)) : Tot (fun k => (a k).bind (b k)) := by
  obtain ⟨x, hx⟩ := h
  obtain ⟨t, ht⟩ := g x hx
  exact ⟨t, (hx.and ht).imp fun k hk => by show (a k).bind (b k) = some t; rw [hk.1]; exact hk.2⟩
theorem tot_up {α : Type} {a : Nat → Option α} (h : Tot (fun k => a (k + 1))) : Tot a := by
  obtain ⟨t, ht⟩ := h
  exact ⟨t, ht.up fun k hk => hk⟩
theorem Ev.inj {α : Type} {g : Nat → Option α} {s t : α} (h : Ev (fun k => g k = some s)) (h' : Ev (fun k => g k = some t)) : s = t := by
  obtain ⟨k, a, b⟩ := (h.and h').ex
  exact Option.some.inj (a.symm.trans b)
theorem Ev.ite_pos {α : Type} {c : Prop} [Decidable c] {a b : Nat → Option α} {t : α} (hc : c) (h : Ev (fun k => a k = some t)) : Ev (fun k => (if c then a k else b k) = some t) := h.imp fun k hk => by rw [if_pos hc]; exact hk
theorem Ev.ite_neg {α : Type} {c : Prop} [Decidable c] {a b : Nat → Option α} {t : α} (hc : ¬ c) (h : Ev (fun k => b k = some t)) : Ev (fun k => (if c then a k else b k) = some t) := h.imp fun k hk => by rw [if_neg hc]; exact hk
theorem Ev.bind {α β : Type} {a : Nat → Option α} {b : Nat → α → Option β} {x : α} {t : β} (h : Ev (fun k => a k = some x)) (g : Ev (fun k => b k x = some t)) : Ev (fun k => (a k).bind (b k) = some t) := (h.and g).imp fun k hk => by rw [hk.1]; exact hk.2

theorem walkL_total (f : S41 → Int → Option (Int × Int)) (hf : ∀ y c, ∃ p, f y c = some p) (l : List S41) : ∀ c, ∃ p, walkL f l c = some p := by
  induction l with
  | nil => intro c; exact ⟨_, rfl⟩
  | cons y r ih =>
    intro c
    obtain ⟨p, hp⟩ := hf y c
    simp only [walkL, hp, Option.bind_some]
    split
    · exact ih _
    · exact ⟨_, rfl⟩
theorem walkF_total (k : Nat) : ∀ (x : S41) (d c : Int), 13 - d < k → ∃ p, walkF (k + 1) x d c = some p := by
  induction k with
  | zero =>
    intro x d c h
    simp only [walkF]
    rw [if_pos (.inr (by omega))]
    exact ⟨_, rfl⟩
  | succ k ih =>
    intro x d c h
    simp only [walkF]
    split
    · exact ⟨_, rfl⟩
    · split
      · exact ⟨_, rfl⟩
      · split
        · exact ⟨_, rfl⟩
        · exact walkL_total _ (fun y c => ih y (d + 1) c (by omega)) _ _
/-- An expression that the walk lets through. -/
theorem walkL_each {f : S41 → Int → Option (Int × Int)} {l : List S41} : ∀ {c c' : Int}, walkL f l c = some (0, c') → ∀ y ∈ l, ∃ a b, f y a = some (0, b) := by
  induction l with
  | nil => intro c c' _ y hy; cases hy
  | cons x r ih =>
    intro c c' h y hy
    simp only [walkL] at h
    obtain ⟨⟨e, c1⟩, h1, h2⟩ := Option.bind_eq_some_iff.mp h
    by_cases z : e = 0
    · subst z
      rw [if_pos rfl] at h2
      rcases List.mem_cons.1 hy with rfl | hy
      · exact ⟨_, _, h1⟩
      · exact ih h2 y hy
    · rw [if_neg z] at h2
      exact absurd (Prod.mk.inj (Option.some.inj h2)).1 z
theorem wdiv_total (a b : Int) (h1 : -9223372036854775808 ≤ a) (h2 : a ≤ 9223372036854775807) : ∃ t, whole_Div.f 3 a b = some t := by
  have hj : ∀ q, b ≠ 0 → ∃ t, whole_Div.j0 3 a b q = some t := by
    intro q hb
    simp only [whole_Div.j0]
    rw [if_neg hb]
    repeat (first | exact ⟨_, rfl⟩ | split)
  unfold whole_Div.f
  split
  · exact ⟨_, rfl⟩
  · rename_i hb
    split
    · exact hj _ hb
    · exact hj _ hb
theorem clampO_total (x : Int) : ∃ p, clampO x = some p := by
  unfold clampO
  split <;> exact ⟨_, rfl⟩
theorem ite_ex {α : Type} {c : Prop} [Decidable c] {a b : Option α} (h : ∃ p, a = some p) (g : ∃ p, b = some p) : ∃ p, (if c then a else b) = some p := by
  by_cases z : c
  · rw [if_pos z]; exact h
  · rw [if_neg z]; exact g
theorem opF_total (x : S41) (y v0 v1 : Int) (h1 : -2147483647 ≤ v0 ∧ v0 ≤ 2147483647) : ∃ p, opF x y v0 v1 = some p := by
  obtain ⟨t, ht⟩ := wdiv_total v0 v1 (by omega) (by omega)
  unfold opF
  rw [ht]
  simp only [Option.bind_some]
  repeat' (first | exact clampO_total _ | with_reducible exact ⟨_, rfl⟩ | refine ite_ex ?_ ?_)
theorem valL_total {f : S41 → Option (Int × Int)} {l : List S41} (hf : ∀ y ∈ l, ∃ p, f y = some p ∧ -2147483647 ≤ p.1 ∧ p.1 ≤ 2147483647) : ∀ (i : Int) (v0 v1 : Int), 0 ≤ i → i + l.length ≤ 2 → (-2147483647 ≤ v0 ∧ v0 ≤ 2147483647) →
    ∃ t, valL f l i v0 v1 = some t ∧ (-2147483647 ≤ t.2.1 ∧ t.2.1 ≤ 2147483647) := by
  induction l with
  | nil => intro i v0 v1 _ _ h; exact ⟨_, rfl, h⟩
  | cons y r ih =>
    intro i v0 v1 h0 h2 hv
    obtain ⟨p, hp, hb⟩ := hf y (by simp)
    have ih2 := ih (fun z hz => hf z (by simp [hz]))
    rw [List.length_cons] at h2
    simp only [valL, hp, Option.bind_some]
    by_cases c0 : i = 0
    · rw [if_pos c0]
      split
      · exact ih2 1 _ _ (by omega) (by omega) hb
      · exact ⟨_, rfl, by simp⟩
    · rw [if_neg c0, if_pos (show i = 1 by omega)]
      split
      · exact ih2 2 _ _ (by omega) (by omega) hv
      · exact ⟨_, rfl, by simp⟩
theorem valF_total (k : Nat) : ∀ (x : S41) (d c c' y : Int), walkF k x d c = some (0, c') → ∃ p, valF k x y = some p := by
  induction k with
  | zero => intro x d c c' y h; cases h
  | succ k ih =>
    intro x d c c' y h
    simp only [walkF] at h
    split at h
    · exact absurd (Prod.mk.inj (Option.some.inj h)).1 (by decide)
    · split at h
      · exact absurd (Prod.mk.inj (Option.some.inj h)).1 (by decide)
      · rename_i hk
        split at h
        · exact absurd (Prod.mk.inj (Option.some.inj h)).1 (by decide)
        · have hle := kids_le x.f0.toNat
          have hl : (x.f2.length : Int) ≤ 2 := by
            have : (x.f2.length : Int) = kidsT.getD x.f0.toNat 0 := by
              by_cases z : (x.f2.length : Int) = kidsT.getD x.f0.toNat 0
              · exact z
              · exact absurd (.inr (.inr z)) hk
            omega
          have he := walkL_each h
          obtain ⟨t, ht, hb⟩ := valL_total (f := fun z => valF k z y) (l := x.f2) (fun z hz => by
            obtain ⟨a, b, hw⟩ := he z hz
            obtain ⟨p, hp⟩ := ih z _ _ _ y hw
            exact ⟨p, hp, valF_bd (v := p.1) (e := p.2) hp⟩) 0 0 0 (by omega) (by omega) (by omega)
          simp only [valF, ht, Option.bind_some]
          split
          · exact opF_total _ _ _ _ hb
          · exact ⟨_, rfl⟩
/-- The answer of rule.Eval does not wait for rounds. -/
theorem eval_total (x0 x1 : Int) (l : List S41) (y : Int) : ∃ r, Ev (fun k => rule_Eval.f k x0 x1 l y = some r) := by
  obtain ⟨⟨p1, p2⟩, hp⟩ := walkF_total 13 ⟨x0, x1, l⟩ 1 0 (by omega)
  by_cases z : p1 = 0
  · subst z
    by_cases hy : y < -10000 ∨ y > 10000
    · exact ⟨(0, 3), Ev.mono (k := 14) (fun k => rule_Eval.mono _ _ _ _ k) (by unfold rule_Eval.f; rw [hp]; simp only [Option.bind_some]; rw [if_pos trivial, if_pos hy])⟩
    · obtain ⟨p, hv⟩ := valF_total 14 _ 1 0 _ y hp
      exact ⟨p, Ev.mono (k := 14) (fun k => rule_Eval.mono _ _ _ _ k) (by unfold rule_Eval.f; rw [hp]; simp only [Option.bind_some]; rw [if_pos trivial, if_neg hy]; exact hv)⟩
  · exact ⟨(0, p1), Ev.mono (k := 14) (fun k => rule_Eval.mono _ _ _ _ k) (by unfold rule_Eval.f; rw [hp]; simp only [Option.bind_some]; rw [if_neg z])⟩

theorem months_l1 (l : List S46) (x3 x4 i : Int) (nm : ByteArray) (s lg : Int) (hA : ∀ a b, Tot (fun k => rule_Months.l0 k l a b l (l.length : Int) (wrap64 (i + 1)))) (y : List S46) (hy : y.length ≤ 20) :
    ∀ (n : Nat) (j : Int), 0 ≤ j → (y.length : Int) - j = n → Tot (fun k => rule_Months.l1 k l x3 x4 l (l.length : Int) i y (y.length : Int) j nm s lg) := by
  intro n
  induction n with
  | zero =>
    intro j h0 hj
    refine tot_up ?_
    simp only [rule_Months.l1]
    refine tot_ite (fun h => by omega) fun _ => ?_
    repeat' (first | exact tot_some _ | refine tot_ite (fun _ => ?_) fun _ => ?_)
    exact hA _ _
  | succ n ih =>
    intro j h0 hj
    refine tot_up ?_
    simp only [rule_Months.l1]
    refine tot_ite (fun _ => ?_) fun h => by omega
    refine tot_ite (fun _ => ?_) fun h => by omega
    refine tot_ite (fun _ => ?_) fun h => by omega
    refine tot_ite (fun _ => tot_some _) fun _ => ?_
    have := ih (j + 1) (by omega) (by omega)
    rw [← w64 (n := j + 1) (by omega) (by omega)] at this
    exact this
theorem months_l0 (l : List S46) (hl : l.length ≤ 20) :
    ∀ (n : Nat) (i : Int), 0 ≤ i → (l.length : Int) - i = n → ∀ a b, Tot (fun k => rule_Months.l0 k l a b l (l.length : Int) i) := by
  intro n
  induction n with
  | zero =>
    intro i h0 hi a b
    refine tot_up ?_
    simp only [rule_Months.l0]
    refine tot_ite (fun h => by omega) fun _ => ?_
    repeat' (first | exact tot_some _ | refine tot_ite (fun _ => ?_) fun _ => ?_)
  | succ n ih =>
    intro i h0 hi a b
    refine tot_up ?_
    simp only [rule_Months.l0]
    refine tot_ite (fun _ => ?_) fun h => by omega
    refine tot_ite (fun _ => ?_) fun h => by omega
    refine tot_ite (fun _ => ?_) fun h => by omega
    refine tot_bind (a := fun _ => rule_Name.f _) ⟨_, Ev.of fun _ => rfl⟩ fun t _ => ?_
    refine tot_ite (fun _ => ?_) fun _ => tot_some _
    refine tot_ite (fun _ => ?_) fun h => by omega
    simp only [Option.bind_some]
    refine months_l1 l a b i _ _ _ (fun a b => ?_) _ (by rw [List.length_take]; omega) _ 0 (by omega) (by rw [Int.sub_zero])
    rw [w64 (n := i + 1) (by omega) (by omega)]
    exact ih (i + 1) (by omega) (by omega) a b
theorem months_tot (l : List S46) : Tot (fun k => rule_Months.f k l) ∧ (Ev (fun k => rule_Months.f k l = some 0) → l.length ≤ 20) := by
  have key : ∀ q, (q = false → l.length ≤ 20) → Tot (fun k => rule_Months.j0 k l q) := by
    intro q hq
    refine tot_up ?_
    simp only [rule_Months.j0]
    refine tot_ite (fun _ => tot_some _) fun h => ?_
    exact months_l0 l (hq (by simpa using h)) _ 0 (by omega) (Int.sub_zero _) 0 0
  have bad : Ev (fun k => rule_Months.j0 k l true = some 2) := Ev.up0 fun k => by simp only [rule_Months.j0]; rfl
  refine ⟨?_, fun h => ?_⟩
  · unfold rule_Months.f
    refine tot_ite (fun _ => key _ (fun h => by cases h)) fun _ => key _ (fun h => ?_)
    have := of_decide_eq_false h
    omega
  · by_cases c : l.length ≤ 20
    · exact c
    · exfalso
      have e : (0 : Int) = 2 := Ev.inj h (by
        unfold rule_Months.f
        refine Ev.ite_neg (by omega) ?_
        rw [show decide ((l.length : Int) > 20) = true from decide_eq_true (by omega)]
        exact bad)
      exact absurd e (by decide)

/-- A calendar's head is in order. -/
structure Head (s : ByteArray) (ep cy : Int) (ms : List S46) : Prop where
  nm : rule_Name.f s = some true
  ep : line_Check.f ep = some 0
  lo : 1 ≤ cy
  hi : cy ≤ 3000
  ms : Ev (fun k => rule_Months.f k ms = some 0)
/-- A list of leap years is in order. -/
structure Inc (cy : Int) (L : List Int) : Prop where
  pw : L.Pairwise (· < ·)
  mem : ∀ y ∈ L, 1 ≤ y ∧ y ≤ cy
  len : L.length ≤ 3000
theorem rd_at {L : List Int} {i : Int} (h0 : 0 ≤ i) (h1 : i < (L.length : Int)) : L.drop i.toNat = rd L i :: L.drop (i + 1).toNat ∧ rd L i ∈ L := by
  have hl : i.toNat < L.length := by omega
  have e : rd L i = L[i.toNat] := by unfold rd; rw [List.getD_eq_getElem?_getD, List.getElem?_eq_getElem hl]; rfl
  rw [e, show (i + 1).toNat = i.toNat + 1 from by omega]
  exact ⟨List.drop_eq_getElem_cons hl, List.getElem_mem hl⟩
theorem ccheck_l0 {s : ByteArray} {ep cy : Int} {ms : List S46} {L : List Int} (hL : Inc cy L) :
    ∀ (n : Nat) (i : Int), 0 ≤ i → (L.length : Int) - i = n → ∀ last, (∀ y ∈ L.drop i.toNat, last < y) → Ev (fun k => compile_Check.l0 k last L (L.length : Int) i s ep cy ms L = some 0) := by
  intro n
  induction n with
  | zero =>
    intro i h0 hi last hlast
    exact Ev.up0 fun k => by simp only [compile_Check.l0]; rw [if_neg (by omega)]
  | succ n ih =>
    intro i h0 hi last hlast
    have hlen := hL.len
    obtain ⟨hd, hm⟩ := rd_at (L := L) (i := i) h0 (by omega)
    have hb := hL.mem _ hm
    have hpw : (L.drop i.toNat).Pairwise (· < ·) := hL.pw.sublist (List.drop_sublist _ _)
    rw [hd] at hlast hpw
    have h1 := hlast _ (List.mem_cons_self)
    have h2 := (List.pairwise_cons.1 hpw).1
    have := ih (i + 1) (by omega) (by omega) (rd L i) h2
    have := this.up (q := fun k => compile_Check.j2 k last (rd L i) L (L.length : Int) i (decide (rd L i > cy)) s ep cy ms L = some 0) (fun k hk => by
      simp only [compile_Check.j2]
      rw [decide_eq_false (by omega), if_neg (by decide), if_neg (by omega), w64 (by omega) (by omega)]
      exact hk)
    exact this.up fun k hk => by
      simp only [compile_Check.l0]
      rw [if_pos (by omega), if_pos (by omega), if_pos (by omega), if_neg (by omega)]
      exact hk
theorem ccheck_ok {s : ByteArray} {ep cy : Int} {ms : List S46} {L : List Int} (h : Head s ep cy ms) (hL : Inc cy L) : Ev (fun k => compile_Check.f k s ep cy ms L = some 0) := by
  have hl := ccheck_l0 (s := s) (ep := ep) (ms := ms) hL _ 0 (by omega) (Int.sub_zero _) 0 (fun y hy => by have := hL.mem y (List.mem_of_mem_drop hy); omega)
  have hj : Ev (fun k => compile_Check.j0 k false s ep cy ms L = some 0) := (h.ms.and hl).up fun k hk => by
    simp only [compile_Check.j0]
    rw [if_neg (by decide), hk.1]
    simp only [Option.bind_some]
    rw [if_pos trivial]
    exact hk.2
  exact hj.imp fun k hk => by
    have h1 := h.lo
    have h2 := h.hi
    unfold compile_Check.f
    rw [h.nm]
    simp only [Option.bind_some]
    rw [if_pos trivial, h.ep]
    simp only [Option.bind_some]
    rw [if_pos trivial, if_neg (by omega), decide_eq_false (by omega)]
    exact hk
theorem clone_ok {s : ByteArray} {ep cy : Int} {ms : List S46} (h : Head s ep cy ms) : slices_Clone__M.f ms = some ms := by
  have := (months_tot ms).2 h.ms
  unfold slices_Clone__M.f
  rw [if_pos (by omega)]
/-- What the rules come to: an error, or a calendar in order. -/
def CompOut (s : ByteArray) (ep cy : Int) (ms : List S46) (R : ByteArray × Int × Int × (List S46) × List Int × Int) : Prop := R.2.2.2.2.2 ≠ 0 ∨ ∃ L, R = (s, ep, cy, ms, L, 0) ∧ Inc cy L
theorem compile_l0 {s : ByteArray} {ep cy : Int} {x0 x1 : Int} {l : List S41} {ms ms0 : List S46} (hlo : 1 ≤ cy) (hhi : cy ≤ 3000) :
    ∀ (n : Nat) (y : Int) (acc : List Int), 1 ≤ y → cy + 1 - y = n → acc.Pairwise (· < ·) → (∀ z ∈ acc, 1 ≤ z ∧ z < y) → (acc.length : Int) < y →
      ∃ R, Ev (fun k => compile_Compile.l0 k y s ep cy x0 x1 l ms0 s ep cy ms acc = some R) ∧ CompOut s ep cy ms R := by
  intro n
  induction n with
  | zero =>
    intro y acc h1 hy hp hm hlen
    exact ⟨_, Ev.up0 fun k => by simp only [compile_Compile.l0]; rw [if_neg (by omega)], .inr ⟨acc, rfl, hp, fun z hz => by have := hm z hz; omega, by omega⟩⟩
  | succ n ih =>
    intro y acc h1 hy hp hm hlen
    obtain ⟨r, hr⟩ := eval_total x0 x1 l y
    by_cases c : r.2 = 0
    · by_cases c1 : r.1 = 0
      · obtain ⟨R, hR, ho⟩ := ih (y + 1) acc (by omega) (by omega) hp (fun z hz => by have := hm z hz; omega) (by omega)
        exact ⟨R, (hr.and hR).up fun k hk => by
          simp only [compile_Compile.l0]
          rw [if_pos (by omega), hk.1]
          simp only [Option.bind_some]
          rw [if_pos c, if_pos c1, w64 (by omega) (by omega)]
          exact hk.2, ho⟩
      · obtain ⟨R, hR, ho⟩ := ih (y + 1) (acc ++ [y]) (by omega) (by omega) (List.pairwise_append.2 ⟨hp, List.pairwise_singleton _ _, fun a ha b hb => by
            have := hm a ha
            obtain rfl := List.mem_singleton.1 hb
            omega⟩) (fun z hz => by
            rcases List.mem_append.1 hz with hz | hz
            · have := hm z hz; omega
            · obtain rfl := List.mem_singleton.1 hz; omega) (by rw [List.length_append, List.length_singleton]; omega)
        exact ⟨R, (hr.and hR).up fun k hk => by
          simp only [compile_Compile.l0]
          rw [if_pos (by omega), hk.1]
          simp only [Option.bind_some]
          rw [if_pos c, if_neg c1, if_pos (by omega), w64 (by omega) (by omega)]
          exact hk.2, ho⟩
    · exact ⟨_, hr.up fun k hk => by
        simp only [compile_Compile.l0]
        rw [if_pos (by omega), hk]
        simp only [Option.bind_some]
        rw [if_neg c], .inl c⟩
theorem line_tot (ep : Int) : ∃ t, line_Check.f ep = some t := by
  unfold line_Check.f
  repeat' (first | exact ⟨_, rfl⟩ | refine ite_ex ?_ ?_)
theorem name_tot (s : ByteArray) : ∃ t, rule_Name.f s = some t := ⟨_, rfl⟩
theorem rcheck_tot (s : ByteArray) (ep cy x0 x1 : Int) (l : List S41) (ms : List S46) : ∃ t, Ev (fun k => rule_Check.f k s ep cy x0 x1 l ms = some t) ∧ (t = 0 → Head s ep cy ms) := by
  obtain ⟨b, hb⟩ := name_tot s
  obtain ⟨t, ht⟩ := line_tot ep
  obtain ⟨p, hp⟩ := walkF_total 13 ⟨x0, x1, l⟩ 1 0 (by omega)
  have hpe : Ev (fun k => walkF k ⟨x0, x1, l⟩ 1 0 = some p) := Ev.mono (fun k => walkF_mono k _ _ _) hp
  obtain ⟨m, hm⟩ := (months_tot ms).1
  unfold rule_Check.f
  by_cases c : b = true
  · subst c
    by_cases c1 : t = 0
    · subst c1
      by_cases c2 : cy < 1
      · exact ⟨3, Ev.of fun k => by rw [hb]; simp only [Option.bind_some]; rw [if_pos trivial, ht]; simp only [Option.bind_some]; rw [if_pos trivial, if_pos c2], fun h => by omega⟩
      · by_cases c3 : 3000 < cy
        · exact ⟨3, Ev.of fun k => by rw [hb]; simp only [Option.bind_some]; rw [if_pos trivial, ht]; simp only [Option.bind_some]; rw [if_pos trivial, if_neg c2, if_pos c3], fun h => by omega⟩
        · by_cases c4 : p.1 = 0
          · exact ⟨m, (hpe.and hm).imp fun k hk => by rw [hb]; simp only [Option.bind_some]; rw [if_pos trivial, ht]; simp only [Option.bind_some]; rw [if_pos trivial, if_neg c2, if_neg c3, hk.1]; simp only [Option.bind_some]; rw [if_pos c4]; exact hk.2,
              fun h => ⟨hb, ht, by omega, by omega, by subst h; exact hm⟩⟩
          · exact ⟨p.1, hpe.imp fun k hk => by rw [hb]; simp only [Option.bind_some]; rw [if_pos trivial, ht]; simp only [Option.bind_some]; rw [if_pos trivial, if_neg c2, if_neg c3, hk]; simp only [Option.bind_some]; rw [if_neg c4], fun h => absurd h c4⟩
    · exact ⟨3, Ev.of fun k => by rw [hb]; simp only [Option.bind_some]; rw [if_pos trivial, ht]; simp only [Option.bind_some]; rw [if_neg c1], fun h => by omega⟩
  · exact ⟨5, Ev.of fun k => by rw [hb]; simp only [Option.bind_some]; rw [if_neg c], fun h => by omega⟩
theorem compile_tot (s : ByteArray) (ep cy x0 x1 : Int) (l : List S41) (ms : List S46) : ∃ R, Ev (fun k => compile_Compile.f k s ep cy x0 x1 l ms = some R) ∧ (R.2.2.2.2.2 ≠ 0 ∨ ∃ L, R = (s, ep, cy, ms, L, 0) ∧ Inc cy L ∧ Head s ep cy ms) := by
  obtain ⟨t, ht, hh⟩ := rcheck_tot s ep cy x0 x1 l ms
  by_cases c : t = 0
  · have hd := hh c
    obtain ⟨R, hR, ho⟩ := compile_l0 (s := s) (ep := ep) (cy := cy) (x0 := x0) (x1 := x1) (l := l) (ms := ms) (ms0 := ms) hd.lo hd.hi cy.toNat 1 [] (by omega) (by have := hd.lo; omega) List.Pairwise.nil (fun z hz => by cases hz) (by simp)
    refine ⟨R, (ht.and hR).imp fun k hk => ?_, ?_⟩
    · unfold compile_Compile.f
      rw [hk.1]
      simp only [Option.bind_some]
      rw [if_pos c, clone_ok hd]
      simp only [Option.bind_some]
      exact hk.2
    · rcases ho with h | ⟨L, h1, h2⟩
      · exact .inl h
      · exact .inr ⟨L, h1, h2, hd⟩
  · exact ⟨_, ht.imp fun k hk => by
      unfold compile_Compile.f
      rw [hk]
      simp only [Option.bind_some]
      rw [if_neg c], .inl c⟩

def Per (f : Nat → Bool) (c n : Nat) : Prop := ∀ i, n ≤ i → i < c → f i = f (i - n)
structure Good (f : Nat → Bool) (c n : Nat) : Prop where
  lo : 1 ≤ n
  dv : n ∣ c
  per : Per f c n
def LeastG (f : Nat → Bool) (c N : Nat) : Prop := Good f c N ∧ ∀ m, Good f c m → N ≤ m
theorem least_ex {P : Nat → Prop} (c : Nat) : P c → ∃ N, P N ∧ ∀ m, P m → N ≤ m := by
  induction c using Nat.strongRecOn with
  | ind c ih =>
    intro h
    by_cases z : ∃ m, m < c ∧ P m
    · obtain ⟨m, hm, hp⟩ := z
      exact ih m hm hp
    · exact ⟨c, h, fun m hm => by
        by_cases y : c ≤ m
        · exact y
        · exact absurd ⟨m, by omega, hm⟩ z⟩
theorem leastG_ex (f : Nat → Bool) (c : Nat) (h : 1 ≤ c) : ∃ N, LeastG f c N := least_ex (P := Good f c) c ⟨h, Nat.dvd_refl c, fun i h1 h2 => by omega⟩
theorem bool_rd (A : List Bool) (i : Nat) : rdOf false A (i : Int) = A.getD i false := by unfold rdOf; rw [Int.toNat_natCast]
theorem least_l2 {s : ByteArray} {ep : Int} {ms : List S46} {L : List Int} {A : List Bool} {f : Nat → Bool} {c n : Nat} (hA : A.length = c) (hf : ∀ j, j < c → A.getD j false = f j) (hc : c ≤ 3000) (hn : 1 ≤ n) {R : ByteArray × Int × Int × (List S46) × List Int × Int}
    (h1 : Per f c n → Ev (fun k => compile_Least.j3 k (n : Int) s ep (c : Int) ms L = some R)) (h2 : ¬ Per f c n → Ev (fun k => compile_Least.l1 k A ((n : Int) + 1) s ep (c : Int) ms L = some R)) :
    ∀ (m i : Nat) (b : Bool), n ≤ i → i ≤ c → c - i = m → (b = true ↔ ∀ j, n ≤ j → j < i → f j = f (j - n)) → Ev (fun k => compile_Least.l2 k A (n : Int) b (i : Int) s ep (c : Int) ms L = some R) := by
  intro m
  induction m with
  | zero =>
    intro i b hni hic hm hb
    obtain rfl : i = c := by omega
    by_cases cb : b = true
    · have := h1 (hb.1 cb)
      exact this.up fun k hk => by
        simp only [compile_Least.l2]
        rw [if_neg (by omega), if_pos cb]
        exact hk
    · have := h2 (fun hp => cb (hb.2 hp))
      exact this.up fun k hk => by
        simp only [compile_Least.l2]
        rw [if_neg (by omega), if_neg cb, w64 (by omega) (by omega)]
        exact hk
  | succ m ih =>
    intro i b hni hic hm hb
    by_cases cb : b = true
    · have := ih (i + 1) (f i == f (i - n)) (by omega) (by omega) (by omega) ⟨fun he j hj1 hj2 => by
        by_cases z : j = i
        · subst z; exact eq_of_beq he
        · exact (hb.1 cb) j hj1 (by omega), fun h => beq_iff_eq.2 (h i hni (by omega))⟩
      refine this.up fun k hk => ?_
      simp only [compile_Least.l2]
      rw [if_pos (by omega), if_pos cb, if_pos (by omega), if_pos (by rw [hA]; omega), w64 (n := (i : Int) - (n : Int)) (by omega) (by omega), w64 (n := (i : Int) + 1) (by omega) (by omega), if_pos (by omega), if_pos (by rw [hA]; omega)]
      rw [show (i : Int) - (n : Int) = ((i - n : Nat) : Int) from by omega, bool_rd, bool_rd, hf i (by omega), hf (i - n) (by omega)]
      exact hk
    · have := h2 (fun hp => cb (hb.2 fun j hj1 hj2 => hp j hj1 (by omega)))
      exact this.up fun k hk => by
        simp only [compile_Least.l2]
        rw [if_pos (by omega), if_neg cb, w64 (by omega) (by omega)]
        exact hk
theorem least_l1 {s : ByteArray} {ep : Int} {ms : List S46} {L : List Int} {A : List Bool} {f : Nat → Bool} {c N : Nat} (hA : A.length = c) (hf : ∀ j, j < c → A.getD j false = f j) (hc : c ≤ 3000) (hc1 : 1 ≤ c) (hN : LeastG f c N) {R : ByteArray × Int × Int × (List S46) × List Int × Int}
    (h : Ev (fun k => compile_Least.j3 k (N : Int) s ep (c : Int) ms L = some R)) :
    ∀ (m n : Nat), 1 ≤ n → n ≤ N → N - n = m → Ev (fun k => compile_Least.l1 k A (n : Int) s ep (c : Int) ms L = some R) := by
  have hNc : N ≤ c := Nat.le_of_dvd (by omega) hN.1.dv
  intro m
  induction m with
  | zero =>
    intro n h1 hn hm
    obtain rfl : n = N := by omega
    by_cases z : n = c
    · subst z
      exact h.up fun k hk => by
        simp only [compile_Least.l1]
        rw [if_neg (by omega)]
        exact hk
    · have hd : Int.tmod (c : Int) (n : Int) = 0 := by
        rw [tmod_pos (by omega)]
        have := Nat.mod_eq_zero_of_dvd hN.1.dv
        omega
      have := least_l2 (s := s) (ep := ep) (ms := ms) (L := L) hA hf hc h1 (fun _ => h) (fun hp => absurd hN.1.per hp) _ n true (Nat.le_refl _) (by omega) rfl ⟨fun _ j hj1 hj2 => by omega, fun _ => rfl⟩
      exact this.up fun k hk => by
        simp only [compile_Least.l1]
        rw [if_pos (by omega), if_neg (by omega), if_pos hd]
        exact hk
  | succ m ih =>
    intro n h1 hn hm
    have hnext := ih (n + 1) (by omega) (by omega) (by omega)
    have hnext' : Ev (fun k => compile_Least.l1 k A ((n : Int) + 1) s ep (c : Int) ms L = some R) := hnext
    by_cases hd : Int.tmod (c : Int) (n : Int) = 0
    · have hnp : ¬ Per f c n := fun hp => by
        have hdv : n ∣ c := by
          rw [tmod_pos (by omega)] at hd
          exact Nat.dvd_of_mod_eq_zero (by omega)
        have := hN.2 n ⟨h1, hdv, hp⟩
        omega
      have := least_l2 (s := s) (ep := ep) (ms := ms) (L := L) hA hf hc h1 (fun hp => absurd hp hnp) (fun _ => hnext') _ n true (Nat.le_refl _) (by omega) rfl ⟨fun _ j hj1 hj2 => by omega, fun _ => rfl⟩
      exact this.up fun k hk => by
        simp only [compile_Least.l1]
        rw [if_pos (by omega), if_neg (by omega), if_pos hd]
        exact hk
    · exact hnext'.up fun k hk => by
        simp only [compile_Least.l1]
        rw [if_pos (by omega), if_neg (by omega), if_neg hd, w64 (by omega) (by omega)]
        exact hk
theorem least_l3 {s : ByteArray} {ep N0 : Int} {ms : List S46} {L : List Int} (N : Int) (hL : L.length ≤ 3000) :
    ∀ (n : Nat) (i : Int) (acc : List Int), 0 ≤ i → (L.length : Int) - i = n → acc.length + n ≤ 3000 →
      Ev (fun k => compile_Least.l3 k N L (L.length : Int) i s ep N0 ms acc = some (s, ep, N0, ms, acc ++ (L.drop i.toNat).filter (fun y => decide (y ≤ N)), 0)) := by
  intro n
  induction n with
  | zero =>
    intro i acc h0 hi ha
    refine Ev.up0 fun k => ?_
    simp only [compile_Least.l3]
    rw [if_neg (by omega), List.drop_eq_nil_of_le (by omega), List.filter_nil, List.append_nil]
  | succ n ih =>
    intro i acc h0 hi ha
    obtain ⟨hd, hm⟩ := rd_at (L := L) (i := i) h0 (by omega)
    rw [hd]
    by_cases z : rd L i ≤ N
    · have := ih (i + 1) (acc ++ [rd L i]) (by omega) (by omega) (by rw [List.length_append, List.length_singleton]; omega)
      refine this.up fun k hk => ?_
      simp only [compile_Least.l3]
      rw [if_pos (by omega), if_pos (by omega), if_pos (by omega), if_pos z, if_pos (by omega), w64 (by omega) (by omega), hk, List.filter_cons, if_pos (decide_eq_true z), List.append_assoc, List.singleton_append]
    · have := ih (i + 1) acc (by omega) (by omega) (by omega)
      refine this.up fun k hk => ?_
      simp only [compile_Least.l3]
      rw [if_pos (by omega), if_pos (by omega), if_pos (by omega), if_neg z, w64 (by omega) (by omega), hk, List.filter_cons, if_neg (by simpa using z)]
theorem least_l0 {s : ByteArray} {ep : Int} {ms : List S46} {L : List Int} {c : Nat} (hc : c ≤ 3000) (hL : Inc (c : Int) L) {R : ByteArray × Int × Int × (List S46) × List Int × Int}
    (h : ∀ A : List Bool, A.length = c → (∀ j, j < c → A.getD j false = decide ((j : Int) + 1 ∈ L)) → Ev (fun k => compile_Least.l1 k A 1 s ep (c : Int) ms L = some R)) :
    ∀ (n : Nat) (i : Int) (A : List Bool), 0 ≤ i → (L.length : Int) - i = n → A.length = c → (∀ j, j < c → A.getD j false = decide ((j : Int) + 1 ∈ L.take i.toNat)) →
      Ev (fun k => compile_Least.l0 k A L (L.length : Int) i s ep (c : Int) ms L = some R) := by
  have hlen := hL.len
  intro n
  induction n with
  | zero =>
    intro i A h0 hi hA hf
    have := h A hA (fun j hj => by rw [hf j hj, List.take_of_length_le (by omega)])
    exact this.up fun k hk => by
      simp only [compile_Least.l0]
      rw [if_neg (by omega)]
      exact hk
  | succ n ih =>
    intro i A h0 hi hA hf
    obtain ⟨hd, hm⟩ := rd_at (L := L) (i := i) h0 (by omega)
    have hb := hL.mem _ hm
    have hlt : i.toNat < L.length := by omega
    have e : rd L i = L[i.toNat] := by unfold rd; rw [List.getD_eq_getElem?_getD, List.getElem?_eq_getElem hlt]; rfl
    have := ih (i + 1) (A.set (rd L i - 1).toNat true) (by omega) (by omega) (by rw [List.length_set]; exact hA) (fun j hj => by
      rw [show (i + 1).toNat = i.toNat + 1 from by omega, List.take_succ_eq_append_getElem hlt, ← e, List.getD_eq_getElem?_getD, List.getElem?_set]
      by_cases z : (rd L i - 1).toNat = j
      · rw [if_pos z, if_pos (by omega)]
        have : (j : Int) + 1 = rd L i := by omega
        rw [this]
        simp
      · rw [if_neg z, ← List.getD_eq_getElem?_getD, hf j hj]
        have hne : (j : Int) + 1 ≠ rd L i := by omega
        simp [hne])
    refine this.up fun k hk => ?_
    simp only [compile_Least.l0]
    rw [if_pos (by omega), if_pos (by omega), if_pos (by omega), w64 (n := rd L i - 1) (by omega) (by omega), w64 (n := i + 1) (by omega) (by omega), if_pos (by omega), if_pos (by rw [hA]; omega)]
    exact hk
/-- The indicator of the leap years of a cycle. -/
def ind (L : List Int) (j : Nat) : Bool := decide ((j : Int) + 1 ∈ L)
theorem least_ok {s : ByteArray} {ep : Int} {ms : List S46} {L : List Int} {c N : Nat} (hd : Head s ep (c : Int) ms) (hL : Inc (c : Int) L) (hN : LeastG (ind L) c N) :
    Ev (fun k => compile_Least.f k s ep (c : Int) ms L = some (s, ep, (N : Int), ms, L.filter (fun y => decide (y ≤ (N : Int))), 0)) := by
  have h1 := hd.lo
  have h2 := hd.hi
  have hlen := hL.len
  have h3 := least_l3 (s := s) (ep := ep) (N0 := (N : Int)) (ms := ms) (N : Int) hlen _ 0 [] (by omega) (Int.sub_zero _) (by simpa using hlen)
  have hj : Ev (fun k => compile_Least.j3 k (N : Int) s ep (c : Int) ms L = some (s, ep, (N : Int), ms, L.filter (fun y => decide (y ≤ (N : Int))), 0)) := h3.up fun k hk => by
    simp only [compile_Least.j3]
    rw [clone_ok hd]
    simp only [Option.bind_some]
    rw [hk]
    rfl
  have h0 := least_l0 (s := s) (ep := ep) (ms := ms) (by omega) hL (fun A hA hf => least_l1 hA hf (by omega) (by omega) hN hj _ 1 (Nat.le_refl _) hN.1.lo rfl) _ 0 (List.replicate c false) (by omega) (Int.sub_zero _) (List.length_replicate) (fun j hj => by
    rw [List.getD_eq_getElem?_getD, List.getElem?_replicate, if_pos hj]
    simp)
  exact ((ccheck_ok hd hL).and h0).imp fun k hk => by
    unfold compile_Least.f
    rw [hk.1]
    simp only [Option.bind_some]
    rw [if_pos trivial, if_pos (by omega), if_pos (by omega), Int.toNat_natCast]
    exact hk.2

def cn (f : Nat → Bool) : Nat → Nat
  | 0 => 0
  | c + 1 => cn f c + (if f c = true then 1 else 0)
theorem cn_add (f : Nat → Bool) (a b : Nat) : cn f (a + b) = cn f a + cn (fun i => f (a + i)) b := by
  induction b with
  | zero => rfl
  | succ b ih => rw [← Nat.add_assoc]; simp only [cn]; rw [ih, Nat.add_assoc]
theorem cn_congr {f g : Nat → Bool} {b : Nat} (h : ∀ i, i < b → f i = g i) : cn f b = cn g b := by
  induction b with
  | zero => rfl
  | succ b ih => simp only [cn]; rw [ih (fun i hi => h i (by omega)), h b (by omega)]
theorem per_mod {f : Nat → Bool} {c N : Nat} (h : Per f c N) (h1 : 1 ≤ N) (i : Nat) : i < c → f i = f (i % N) := by
  induction i using Nat.strongRecOn with
  | ind i ih =>
    intro hi
    by_cases z : i < N
    · rw [Nat.mod_eq_of_lt z]
    · rw [h i (by omega) hi, ih (i - N) (by omega) (by omega), ← Nat.mod_eq_sub_mod (by omega)]
theorem cn_per {f : Nat → Bool} {c N : Nat} (h : Per f c N) (h1 : 1 ≤ N) (q : Nat) : q * N ≤ c → cn f (q * N) = q * cn f N := by
  induction q with
  | zero => intro _; rw [Nat.zero_mul, Nat.zero_mul]; rfl
  | succ q ih =>
    intro hq
    rw [Nat.succ_mul] at hq ⊢
    rw [cn_add, ih (by omega), Nat.succ_mul]
    congr 1
    refine cn_congr fun i hi => ?_
    rw [per_mod h h1 (q * N + i) (by omega), Nat.mul_comm q N, Nat.mul_add_mod, Nat.mod_eq_of_lt hi]
theorem flt_step {L : List Int} (a : Int) : L.Pairwise (· < ·) → (L.filter (fun y => decide (y ≤ a + 1))).length = (L.filter (fun y => decide (y ≤ a))).length + (if decide (a + 1 ∈ L) = true then 1 else 0) := by
  induction L with
  | nil => intro _; simp
  | cons x r ih =>
    intro h
    have h1 := List.pairwise_cons.1 h
    have ih2 := ih h1.2
    by_cases c : x ≤ a
    · have hne : a + 1 ≠ x := by omega
      rw [List.filter_cons, if_pos (decide_eq_true (by omega)), List.filter_cons, if_pos (decide_eq_true c), List.length_cons, List.length_cons, ih2]
      have e : decide (a + 1 ∈ x :: r) = decide (a + 1 ∈ r) := by simp [hne]
      rw [e]
      omega
    · by_cases c1 : x = a + 1
      · subst c1
        have hn : a + 1 ∉ r := fun hm => by have := h1.1 _ hm; omega
        rw [List.filter_cons, if_pos (decide_eq_true (by omega)), List.filter_cons, if_neg (by simpa using c), List.length_cons, ih2, decide_eq_false hn, if_neg (by decide), decide_eq_true (List.mem_cons_self), if_pos rfl]
      · have hne : a + 1 ≠ x := by omega
        rw [List.filter_cons, if_neg (by simp; omega), List.filter_cons, if_neg (by simpa using c), ih2]
        have e : decide (a + 1 ∈ x :: r) = decide (a + 1 ∈ r) := by simp [hne]
        rw [e]
theorem flt_cn {L : List Int} (hp : L.Pairwise (· < ·)) (h1 : ∀ y ∈ L, 1 ≤ y) (c : Nat) : (L.filter (fun y => decide (y ≤ (c : Int)))).length = cn (ind L) c := by
  induction c with
  | zero =>
    have : L.filter (fun y => decide (y ≤ ((0 : Nat) : Int))) = [] := List.filter_eq_nil_iff.2 fun y hy => by have := h1 y hy; simp; omega
    rw [this]
    rfl
  | succ c ih =>
    have := flt_step (c : Int) hp
    simp only [cn]
    rw [← ih]
    exact this
theorem len_cn {L : List Int} {c : Nat} (hL : Inc (c : Int) L) : L.length = cn (ind L) c := by
  rw [← flt_cn hL.pw (fun y hy => (hL.mem y hy).1) c]
  congr 1
  exact (List.filter_eq_self.2 fun y hy => decide_eq_true (hL.mem y hy).2).symm
theorem inc_flt {L : List Int} {c N : Nat} (hL : Inc (c : Int) L) : Inc (N : Int) (L.filter (fun y => decide (y ≤ (N : Int)))) := by
  refine ⟨hL.pw.sublist List.filter_sublist, fun y hy => ?_, Nat.le_trans (List.length_filter_le _ _) hL.len⟩
  obtain ⟨h1, h2⟩ := List.mem_filter.1 hy
  exact ⟨(hL.mem y h1).1, of_decide_eq_true h2⟩
theorem ind_flt (L : List Int) {N j : Nat} (h : j < N) : ind (L.filter (fun y => decide (y ≤ (N : Int)))) j = ind L j := by
  unfold ind
  refine decide_eq_decide.2 ?_
  rw [List.mem_filter]
  exact ⟨fun h => h.1, fun g => ⟨g, decide_eq_true (by omega)⟩⟩
theorem least_again {L : List Int} {c N : Nat} (hN : LeastG (ind L) c N) (hc : 1 ≤ c) : LeastG (ind (L.filter (fun y => decide (y ≤ (N : Int))))) N N := by
  have h1 := hN.1.lo
  have hNc : N ≤ c := Nat.le_of_dvd (by omega) hN.1.dv
  refine ⟨⟨h1, Nat.dvd_refl N, fun i h1 h2 => by omega⟩, fun m hm => hN.2 m ⟨hm.lo, Nat.dvd_trans hm.dv hN.1.dv, fun i hi hic => ?_⟩⟩
  have key : ∀ i, i < c → ind L i = ind (L.filter (fun y => decide (y ≤ (N : Int)))) (i % m) := fun i hi => by
    have hl : i % N < N := Nat.mod_lt _ (by omega)
    rw [per_mod hN.1.per h1 i hi, ← ind_flt L hl, per_mod hm.per hm.lo (i % N) hl, Nat.mod_mod_of_dvd _ hm.dv]
  rw [key i hic, key (i - m) (by omega), Nat.mod_eq_sub_mod hi]
theorem search_is {L : List Int} (r : Int) : L.Pairwise (· < ·) → (if L.countP (fun y => !decide (r ≤ y)) < L.length then (L.getD (L.countP (fun y => !decide (r ≤ y))) 0 == r) else false) = decide (r ∈ L) := by
  induction L with
  | nil => intro _; simp
  | cons x xs ih =>
    intro h
    have h1 := List.pairwise_cons.1 h
    by_cases c : r ≤ x
    · have h0 : (x :: xs).countP (fun y => !decide (r ≤ y)) = 0 := List.countP_eq_zero.2 fun y hy => by
        rcases List.mem_cons.1 hy with rfl | hy
        · simp [c]
        · have := h1.1 y hy
          simp; omega
      rw [h0, if_pos (by simp)]
      by_cases z : x = r
      · subst z; simp
      · have : r ∉ x :: xs := fun hm => by
          rcases List.mem_cons.1 hm with rfl | hm
          · exact z rfl
          · have := h1.1 r hm; omega
        rw [decide_eq_false this]
        simp [z]
    · have hne : r ≠ x := by omega
      have e : (x :: xs).countP (fun y => !decide (r ≤ y)) = xs.countP (fun y => !decide (r ≤ y)) + 1 := List.countP_cons_of_pos (by simpa using c)
      have e2 : decide (r ∈ x :: xs) = decide (r ∈ xs) := by simp [hne]
      rw [e, e2, ← ih h1.2, List.length_cons, List.getD_cons_succ]
      by_cases z : xs.countP (fun y => !decide (r ≤ y)) < xs.length
      · rw [if_pos z, if_pos (by omega)]
      · rw [if_neg z, if_neg (by omega)]
theorem leap_is {s : ByteArray} {ep : Int} {ms : List S46} {L : List Int} {c : Nat} (hc : 1 ≤ c) (hc2 : c ≤ 3000) (hL : Inc (c : Int) L) (y : Int) (h1 : -10000 ≤ y) (h2 : y ≤ 10000) :
    arith_leap.f s ep (c : Int) ms L y = some (ind L ((y - 1) % (c : Int)).toNat) := by
  have hm1 := Int.emod_nonneg (y - 1) (show (c : Int) ≠ 0 by omega)
  have hm2 := Int.emod_lt_of_pos (y - 1) (show (0 : Int) < c by omega)
  have hlen := hL.len
  unfold arith_leap.f
  rw [w64 (n := y - 1) (by omega) (by omega), wmod_is _ _ (by omega) (by omega)]
  simp only [Option.bind_some]
  rw [w64 (n := (y - 1) % (c : Int) + 1) (by omega) (by omega)]
  unfold sort_SearchInts.f
  rw [if_pos ⟨hL.pw.imp fun h => Int.le_of_lt h, by omega⟩]
  simp only [Option.bind_some]
  have hs := search_is (L := L) ((y - 1) % (c : Int) + 1) hL.pw
  have hi : ind L ((y - 1) % (c : Int)).toNat = decide ((y - 1) % (c : Int) + 1 ∈ L) := by unfold ind; rw [Int.toNat_of_nonneg hm1]
  rw [hi, ← hs]
  generalize L.countP (fun z => !decide ((y - 1) % (c : Int) + 1 ≤ z)) = t
  by_cases z : t < L.length
  · rw [if_pos (by omega), if_pos (by omega), if_pos z]
    unfold rd
    rw [Int.toNat_natCast]
  · rw [if_neg (by omega), if_neg z]

theorem Leap_is {s : ByteArray} {ep : Int} {ms : List S46} {L : List Int} {c : Nat} (hd : Head s ep (c : Int) ms) (hL : Inc (c : Int) L) (y : Int) (h1 : -10000 ≤ y) (h2 : y ≤ 10000) :
    Ev (fun k => arith_Leap.f k s ep (c : Int) ms L y = some (ind L ((y - 1) % (c : Int)).toNat, 0)) := by
  have l1 := hd.lo
  have l2 := hd.hi
  exact (ccheck_ok hd hL).imp fun k hk => by
    unfold arith_Leap.f arith_begin.f
    rw [hk]
    simp only [Option.bind_some]
    rw [if_pos trivial, if_neg (by omega), if_neg (by omega)]
    simp only [Option.bind_some]
    rw [if_pos trivial, leap_is (by omega) (by omega) hL y h1 h2]
    rfl
theorem lengths_l0 (ms : List S46) (hl : ms.length ≤ 20) : ∀ (n : Nat) (i : Int), 0 ≤ i → (ms.length : Int) - i = n → ∀ a b, Tot (fun k => compile_Lengths.l0 k a b ms (ms.length : Int) i) := by
  intro n
  induction n with
  | zero =>
    intro i h0 hi a b
    refine tot_up ?_
    simp only [compile_Lengths.l0]
    exact tot_ite (fun h => by omega) fun _ => tot_some _
  | succ n ih =>
    intro i h0 hi a b
    refine tot_up ?_
    simp only [compile_Lengths.l0]
    refine tot_ite (fun _ => ?_) fun h => by omega
    refine tot_ite (fun _ => ?_) fun h => by omega
    refine tot_ite (fun _ => ?_) fun h => by omega
    rw [w64 (n := i + 1) (by omega) (by omega)]
    exact ih (i + 1) (by omega) (by omega) _ _
theorem wrap_ex (x : Int) : ∃ q, wrap64 x = x + 18446744073709551616 * q := ⟨-((x + 9223372036854775808) / 18446744073709551616), by unfold wrap64; omega⟩
theorem wrap_add (x q : Int) : wrap64 (x + 18446744073709551616 * q) = wrap64 x := by unfold wrap64; omega
def total (a b A l : Int) : Int := wrap64 (wrap64 (a * A) + wrap64 (b * l))
theorem total_is (a b A l : Int) : total a b A l = wrap64 (a * A + b * l) := by
  obtain ⟨q1, e1⟩ := wrap_ex (a * A)
  obtain ⟨q2, e2⟩ := wrap_ex (b * l)
  unfold total
  rw [e1, e2, show a * A + 18446744073709551616 * q1 + (b * l + 18446744073709551616 * q2) = a * A + b * l + 18446744073709551616 * (q1 + q2) from by omega, wrap_add]
theorem total_mul (a b A l q : Int) : total a b (A * q) (l * q) = wrap64 (total a b A l * q) := by
  rw [total_is, total_is]
  obtain ⟨q1, e1⟩ := wrap_ex (a * A + b * l)
  rw [e1, Int.add_mul, Int.mul_assoc 18446744073709551616, wrap_add, Int.add_mul, Int.mul_assoc a, Int.mul_assoc b]
theorem Total_is {s : ByteArray} {ep : Int} {ms : List S46} {L : List Int} {c : Nat} {a b : Int} (hab : Ev (fun k => compile_Lengths.l0 k 0 0 ms (ms.length : Int) 0 = some (a, b))) (hd : Head s ep (c : Int) ms) (hL : Inc (c : Int) L) :
    Ev (fun k => compile_Total.f k s ep (c : Int) ms L = some (total a b ((c : Int) - (L.length : Int)) (L.length : Int), 0)) := by
  have l1 := hd.lo
  have l2 := hd.hi
  have l3 := hL.len
  exact ((ccheck_ok hd hL).and hab).imp fun k hk => by
    unfold compile_Total.f compile_Lengths.f
    rw [hk.1]
    simp only [Option.bind_some]
    rw [if_pos trivial, hk.2]
    simp only [Option.bind_some]
    rw [w64 (n := (c : Int) - (L.length : Int)) (by omega) (by omega)]
    rfl
theorem head_small : Head (⟨#[97]⟩ : ByteArray) 0 ((4 : Nat) : Int) [(⟨(⟨#[98]⟩ : ByteArray), 5, 6⟩ : S46)] := by
  refine ⟨by decide +kernel, check_ok 0 (by omega) (by omega), by omega, by omega, Ev.mono (k := 12) (fun k => rule_Months.mono _ k) ?_⟩
  decide +kernel
theorem least_small : LeastG (ind [2, 4]) 4 2 := by
  refine ⟨⟨by omega, by decide, fun i h1 h2 => ?_⟩, fun m hm => ?_⟩
  · rcases (show i = 2 ∨ i = 3 by omega) with rfl | rfl <;> decide
  · by_cases z : 2 ≤ m
    · exact z
    · have h1 := hm.lo
      obtain rfl : m = 1 := by omega
      have := hm.per 1 (by omega) (by omega)
      exact absurd this (by decide)
theorem CompileLeastSame : ephemeriskeep1_CompileLeastSame.Pure := by
  intro s ep cy x0 x1 l ms y _ _ _ _ _ _ _ _
  refine Ev.ex ?_
  obtain ⟨R, hR, ho⟩ := compile_tot s ep cy x0 x1 l ms
  have inc_small : Inc ((4 : Nat) : Int) [2, 4] := ⟨by decide, by decide, by decide⟩
  have h0 := least_ok head_small inc_small least_small
  suffices hj : Ev (fun k => ephemeriskeep1_CompileLeastSame.j0 k y false s ep cy x0 x1 l ms = some true) by
    exact (h0.and hj).imp fun k hk => by
      unfold ephemeriskeep1_CompileLeastSame.f
      have e := hk.1
      rw [show ((4 : Nat) : Int) = 4 from rfl] at e
      rw [e]
      simp only [Option.bind_some]
      rw [if_pos trivial]
      exact hk.2
  rcases ho with he | ⟨L, rfl, hL, hd⟩
  · exact hR.up fun k hk => by
      simp only [ephemeriskeep1_CompileLeastSame.j0]
      rw [if_neg (by decide), hk]
      simp only [Option.bind_some]
      rw [if_neg he]
  · have l1 := hd.lo
    have l2 := hd.hi
    obtain ⟨c, rfl⟩ : ∃ c : Nat, cy = (c : Int) := ⟨cy.toNat, by omega⟩
    obtain ⟨N, hN⟩ := leastG_ex (ind L) c (by omega)
    have n1 := hN.1.lo
    have hNc : N ≤ c := Nat.le_of_dvd (by omega) hN.1.dv
    have hLd : Inc (N : Int) (L.filter (fun y => decide (y ≤ (N : Int)))) := inc_flt hL
    have hdN : Head s ep (N : Int) ms := ⟨hd.nm, hd.ep, by omega, by omega, hd.ms⟩
    have hleast := least_ok hd hL hN
    have hagain := least_ok hdN hLd (least_again hN (by omega))
    obtain ⟨Y, hY, y1, y2, _⟩ := cut_is y (-10000) 20001 (by omega) (by omega) (by omega) (by omega)
    have hleap1 := Leap_is hd hL Y (by omega) (by omega)
    have hleap2 := Leap_is hdN hLd Y (by omega) (by omega)
    obtain ⟨⟨a, b⟩, hab⟩ := lengths_l0 ms ((months_tot ms).2 hd.ms) _ 0 (by omega) (Int.sub_zero _) 0 0
    have htot1 := Total_is hab hd hL
    have htot2 := Total_is hab hdN hLd
    have m1 := Int.emod_nonneg (Y - 1) (show (c : Int) ≠ 0 by omega)
    have m2 := Int.emod_lt_of_pos (Y - 1) (show (0 : Int) < c by omega)
    have m3 := Int.emod_nonneg (Y - 1) (show (N : Int) ≠ 0 by omega)
    have m4 := Int.emod_lt_of_pos (Y - 1) (show (0 : Int) < N by omega)
    have hsame : ind L ((Y - 1) % (c : Int)).toNat = ind (L.filter (fun y => decide (y ≤ (N : Int)))) ((Y - 1) % (N : Int)).toNat := by
      rw [ind_flt L (show ((Y - 1) % (N : Int)).toNat < N by omega), per_mod hN.1.per n1 _ (by omega)]
      congr 1
      have hdv : (N : Int) ∣ (c : Int) := Int.natCast_dvd_natCast.2 hN.1.dv
      have e1 := Int.emod_emod_of_dvd (Y - 1) hdv
      have e2 : ((((Y - 1) % (c : Int)).toNat % N : Nat) : Int) = ((Y - 1) % (c : Int)) % (N : Int) := by rw [Int.natCast_emod, Int.toNat_of_nonneg m1]
      rw [e1] at e2
      generalize ((Y - 1) % (c : Int)).toNat % N = u at e2 ⊢
      omega
    obtain ⟨q, hq⟩ := hN.1.dv
    have hcq : (c : Int) = (N : Int) * (q : Int) := by rw [hq]; exact Int.natCast_mul N q
    have hlen : (L.length : Int) = ((L.filter (fun y => decide (y ≤ (N : Int)))).length : Int) * (q : Int) := by
      rw [len_cn hL, flt_cn hL.pw (fun y hy => (hL.mem y hy).1) N, hq, Nat.mul_comm N q, cn_per hN.1.per n1 q (by rw [hq, Nat.mul_comm]; exact Nat.le_refl _), Int.natCast_mul, Int.mul_comm]
    have hdiv : Int.tdiv (c : Int) (N : Int) = (q : Int) := by
      rw [tdiv_pos (by omega), hcq, Int.mul_ediv_cancel_left _ (by omega)]
    have hmod : Int.tmod (c : Int) (N : Int) = 0 := by
      rw [tmod_pos (by omega), hcq, Int.mul_emod_right]
    have hq3 : q ≤ c := by
      rw [hq]
      exact Nat.le_mul_of_pos_left q (by omega)
    have htotal : total a b ((c : Int) - (L.length : Int)) (L.length : Int) = wrap64 (total a b ((N : Int) - ((L.filter (fun y => decide (y ≤ (N : Int)))).length : Int)) ((L.filter (fun y => decide (y ≤ (N : Int)))).length : Int) * wrap64 (Int.tdiv (c : Int) (N : Int))) := by
      rw [hdiv, w64 (n := (q : Int)) (by omega) (by omega), ← total_mul, ← hlen, Int.sub_mul, ← hlen, ← hcq]
    have hj1 : Ev (fun k => ephemeriskeep1_CompileLeastSame.j1 k y false s ep (c : Int) ms L s ep (N : Int) ms (L.filter (fun y => decide (y ≤ (N : Int)))) = some true) :=
      (hleap1.and (hleap2.and (hagain.and (htot1.and htot2)))).up fun k hk => by
        obtain ⟨k1, k2, k3, k4, k5⟩ := hk
        simp only [ephemeriskeep1_CompileLeastSame.j1]
        rw [if_neg (by decide), hY]
        simp only [Option.bind_some]
        rw [k1]
        simp only [Option.bind_some]
        rw [k2]
        simp only [Option.bind_some]
        rw [k3]
        simp only [Option.bind_some]
        rw [k4]
        simp only [Option.bind_some]
        rw [k5]
        simp only [Option.bind_some]
        rw [if_pos trivial, if_pos (by rw [hsame]; exact beq_self_eq_true _), if_pos trivial, if_neg (by omega), htotal, beq_self_eq_true]
    exact (hR.and (hleast.and hj1)).up fun k hk => by
      obtain ⟨k1, k2, k3⟩ := hk
      simp only [ephemeriskeep1_CompileLeastSame.j0]
      rw [if_neg (by decide), k1]
      simp only [Option.bind_some]
      rw [if_pos trivial, k2]
      simp only [Option.bind_some]
      rw [if_pos trivial, if_neg (by omega), hmod]
      exact k3

end Go.Proofs.YtidjaahpabppaaaDoor.Pure
