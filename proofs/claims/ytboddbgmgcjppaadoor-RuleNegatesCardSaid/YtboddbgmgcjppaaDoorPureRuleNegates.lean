/- RuleNegates: double negation keeps truth, over plain values. -/
import Derived.Test.YtboddbgmgcjppaaDoorQRuleNegatesx4
import Derived.Test.YtboddbgmgcjppaaDoorStmtRuleNegates
set_option linter.unusedVariables false
set_option linter.unusedSimpArgs false
namespace Go.Proofs.YtboddbgmgcjppaaDoor.Pure
open Go.RowKit Go.Proofs.YtboddbgmgcjppaaDoor.QRuleNegates Go.Proofs.YtboddbgmgcjppaaDoorW.PrintWords Go.Proofs.YtboddbgmgcjppaaDoorW.PrintLast

theorem lit64 {a : Int} (h : (Go.Lit.int .i64 a).wf = true) : -9223372036854775808 ≤ a ∧ a ≤ 9223372036854775807 := by
  simp only [Go.Lit.wf, Bool.and_eq_true, decide_eq_true_eq] at h
  have h1 : Go.IntKind.i64.min = -9223372036854775808 := by decide
  have h2 : Go.IntKind.i64.max = 9223372036854775807 := by decide
  omega
theorem w64 {n : Int} (h1 : -9223372036854775808 ≤ n) (h2 : n ≤ 9223372036854775807) : wrap64 n = n := by unfold wrap64; omega
theorem w64r (n : Int) : -9223372036854775808 ≤ wrap64 n ∧ wrap64 n ≤ 9223372036854775807 := by unfold wrap64; omega
theorem tmod_pos {a b : Int} (ha : 0 ≤ a) : Int.tmod a b = a % b := by rw [Int.tmod_eq_emod, if_pos (Or.inl ha)]; simp
theorem tdiv_pos {a b : Int} (ha : 0 ≤ a) : Int.tdiv a b = a / b := by rw [Int.tdiv_eq_ediv, if_pos (Or.inl ha)]; simp
theorem tmod_bounds {a b : Int} (hb : 0 < b) : -b < Int.tmod a b ∧ Int.tmod a b < b ∧ (0 ≤ a → 0 ≤ Int.tmod a b) ∧ (a ≤ 0 → Int.tmod a b ≤ 0) := by
  rw [Int.tmod_eq_emod]
  have h1 := Int.emod_nonneg a (show b ≠ 0 by omega)
  have h2 := Int.emod_lt_of_pos a hb
  split
  · rename_i h
    refine ⟨by omega, by omega, fun _ => by omega, fun h0 => ?_⟩
    rcases h with h | h
    · have : a = 0 := by omega
      subst this; simp
    · rw [Int.emod_eq_zero_of_dvd h]; simp
  · refine ⟨by omega, by omega, fun _ => by omega, fun _ => by omega⟩
/-- tmod and tdiv against emod and ediv, for a positive divisor. -/
theorem tmod_cases {a b : Int} (hb : 0 < b) : (Int.tmod a b = a % b ∧ Int.tdiv a b = a / b ∧ (0 ≤ a ∨ a % b = 0)) ∨ (a < 0 ∧ a % b ≠ 0 ∧ Int.tmod a b = a % b - b ∧ Int.tdiv a b = a / b + 1) := by
  by_cases h : 0 ≤ a ∨ b ∣ a
  · left
    refine ⟨by rw [Int.tmod_eq_emod, if_pos h]; simp, by rw [Int.tdiv_eq_ediv, if_pos h]; simp, h.imp id Int.emod_eq_zero_of_dvd⟩
  · right
    have h' := not_or.mp h
    refine ⟨by omega, fun e => h'.2 (Int.dvd_of_emod_eq_zero e), ?_, ?_⟩
    · rw [Int.tmod_eq_emod, if_neg h]; omega
    · rw [Int.tdiv_eq_ediv, if_neg h, Int.sign_eq_one_of_pos hb]
theorem ediv_range {a b : Int} (hb : 0 < b) (h1 : -9223372036854775808 ≤ a) (h2 : a ≤ 9223372036854775807) : -9223372036854775808 ≤ a / b ∧ a / b ≤ 9223372036854775807 := by
  have e := Int.mul_ediv_add_emod a b
  have l := Int.emod_nonneg a (show b ≠ 0 by omega)
  have u := Int.emod_lt_of_pos a hb
  constructor
  · by_cases c : 0 ≤ a
    · have := Int.ediv_nonneg c (show 0 ≤ b by omega); omega
    · have : a ≤ a / b := by
        rw [Int.le_ediv_iff_mul_le hb]
        have : a * b ≤ a * 1 := Int.mul_le_mul_of_nonpos_left (by omega) (by omega)
        omega
      omega
  · by_cases c : 0 ≤ a
    · have : a / b ≤ a := Int.ediv_le_self b c
      omega
    · have : a / b ≤ 0 := by
        have : a / b < 0 := Int.ediv_neg_of_neg_of_pos (by omega) hb
        omega
      omega
/-- the remainder from 0 on, as the program computes it twice. -/
theorem mod_twice {a b : Int} (hb : 0 < b) (hb2 : b ≤ 4611686018427387904) : Int.tmod (wrap64 ((Int.tmod a b) + b)) b = a % b := by
  have hc := tmod_bounds (a := a) hb
  have h1 := Int.emod_nonneg a (show b ≠ 0 by omega)
  have h2 := Int.emod_lt_of_pos a hb
  rw [w64 (by omega) (by omega)]
  rw [tmod_pos (by omega)]
  rcases tmod_cases (a := a) hb with ⟨e, _, _⟩ | ⟨_, _, e, _⟩
  · rw [e]; simp
  · rw [e, show a % b - b + b = a % b from by omega]; simp

theorem mod_is (a b : Int) (hb : 0 < b) (hb2 : b ≤ 4611686018427387904) : ephemeriskeep1_mod.f a b = some (a % b) := by
  unfold ephemeriskeep1_mod.f
  rw [if_neg (by omega), mod_twice hb hb2]
theorem cut_is (a l n : Int) (hn : 0 < n) (hn2 : n ≤ 4611686018427387904) (h1 : -4611686018427387904 ≤ l) (h2 : l ≤ 4611686018427387904) :
    ∃ r, ephemeriskeep1_cut.f a l n = some r ∧ l ≤ r ∧ r < l + n ∧ r = l + a % n := by
  have h3 := Int.emod_nonneg a (show n ≠ 0 by omega)
  have h4 := Int.emod_lt_of_pos a hn
  refine ⟨l + a % n, ?_, by omega, by omega, rfl⟩
  unfold ephemeriskeep1_cut.f
  rw [mod_is a n hn hn2, Option.bind_some, w64 (by omega) (by omega)]

/-- With enough rounds. -/
def Ev (p : Nat → Prop) : Prop := ∃ K, ∀ k, K ≤ k → p k
theorem Ev.of {p : Nat → Prop} (h : ∀ k, p k) : Ev p := ⟨0, fun k _ => h k⟩
theorem Ev.and {p q : Nat → Prop} (h : Ev p) (g : Ev q) : Ev (fun k => p k ∧ q k) := by
  obtain ⟨K, hK⟩ := h
  obtain ⟨L, hL⟩ := g
  exact ⟨max K L, fun k hk => ⟨hK k (by omega), hL k (by omega)⟩⟩
theorem Ev.imp {p q : Nat → Prop} (h : Ev p) (g : ∀ k, p k → q k) : Ev q := by
  obtain ⟨K, hK⟩ := h
  exact ⟨K, fun k hk => g k (hK k hk)⟩
/-- One round more. -/
theorem Ev.up {p q : Nat → Prop} (h : Ev p) (g : ∀ k, p k → q (k + 1)) : Ev q := by
  obtain ⟨K, hK⟩ := h
  refine ⟨K + 1, fun k hk => ?_⟩
  obtain ⟨j, rfl⟩ : ∃ j, k = j + 1 := ⟨k - 1, by omega⟩
  exact g j (hK j (by omega))
theorem Ev.up0 {q : Nat → Prop} (g : ∀ k, q (k + 1)) : Ev q := Ev.up (p := fun _ => True) (Ev.of fun _ => trivial) (fun k _ => g k)
theorem Ev.ex {p : Nat → Prop} (h : Ev p) : ∃ k, p k := by
  obtain ⟨K, hK⟩ := h
  exact ⟨K, hK K (Nat.le_refl _)⟩
theorem Ev.mono {α : Type} {g : Nat → Option α} (hm : ∀ k, LeO (g k) (g (k + 1))) {k : Nat} {r : α} (h : g k = some r) : Ev (fun k => g k = some r) := by
  refine ⟨k, fun j hj => ?_⟩
  obtain ⟨d, rfl⟩ : ∃ d, j = k + d := ⟨j - k, by omega⟩
  clear hj
  induction d with
  | zero => exact h
  | succ d ih => exact hm _ _ ih
/-- Whatever the answer is, it is there with enough rounds. -/
def Tot {α : Type} (g : Nat → Option α) : Prop := ∃ t, Ev (fun k => g k = some t)
theorem tot_some {α : Type} (v : α) : Tot (fun _ => some v) := ⟨v, Ev.of fun _ => rfl⟩
theorem tot_ite {α : Type} {c : Prop} [Decidable c] {a b : Nat → Option α} (h : c → Tot a) (g : ¬ c → Tot b) : Tot (fun k => if c then a k else b k) := by
  by_cases z : c
  · obtain ⟨t, ht⟩ := h z
    exact ⟨t, ht.imp fun k hk => by show (if c then a k else b k) = some t; rw [if_pos z]; exact hk⟩
  · obtain ⟨t, ht⟩ := g z
    exact ⟨t, ht.imp fun k hk => by show (if c then a k else b k) = some t; rw [if_neg z]; exact hk⟩
theorem tot_bind {α β : Type} {a : Nat → Option α} {b : Nat → α → Option β} (h : Tot a) (g : ∀ x, Ev (fun k => a k = some x) → Tot (fun k => b k x)) : Tot (fun k => (a k).bind (b k)) := by
  obtain ⟨x, hx⟩ := h
  obtain ⟨t, ht⟩ := g x hx
  exact ⟨t, (hx.and ht).imp fun k hk => by show (a k).bind (b k) = some t; rw [hk.1]; exact hk.2⟩
theorem tot_up {α : Type} {a : Nat → Option α} (h : Tot (fun k => a (k + 1))) : Tot a := by
  obtain ⟨t, ht⟩ := h
  exact ⟨t, ht.up fun k hk => hk⟩
theorem Ev.inj {α : Type} {g : Nat → Option α} {s t : α} (h : Ev (fun k => g k = some s)) (h' : Ev (fun k => g k = some t)) : s = t := by
  obtain ⟨k, a, b⟩ := (h.and h').ex
  exact Option.some.inj (a.symm.trans b)
theorem Ev.ite_pos {α : Type} {c : Prop} [Decidable c] {a b : Nat → Option α} {t : α} (hc : c) (h : Ev (fun k => a k = some t)) : Ev (fun k => (if c then a k else b k) = some t) := h.imp fun k hk => by rw [if_pos hc]; exact hk
theorem Ev.ite_neg {α : Type} {c : Prop} [Decidable c] {a b : Nat → Option α} {t : α} (hc : ¬ c) (h : Ev (fun k => b k = some t)) : Ev (fun k => (if c then a k else b k) = some t) := h.imp fun k hk => by rw [if_neg hc]; exact hk
theorem Ev.bind {α β : Type} {a : Nat → Option α} {b : Nat → α → Option β} {x : α} {t : β} (h : Ev (fun k => a k = some x)) (g : Ev (fun k => b k x = some t)) : Ev (fun k => (a k).bind (b k) = some t) := (h.and g).imp fun k hk => by rw [hk.1]; exact hk.2

theorem walkL_total (f : S24 → Int → Option (Int × Int)) (hf : ∀ y c, ∃ p, f y c = some p) (l : List S24) : ∀ c, ∃ p, walkL f l c = some p := by
  induction l with
  | nil => intro c; exact ⟨_, rfl⟩
  | cons y r ih =>
    intro c
    obtain ⟨p, hp⟩ := hf y c
    simp only [walkL, hp, Option.bind_some]
    split
    · exact ih _
    · exact ⟨_, rfl⟩
theorem walkF_total (k : Nat) : ∀ (x : S24) (d c : Int), 13 - d < k → ∃ p, walkF (k + 1) x d c = some p := by
  induction k with
  | zero =>
    intro x d c h
    simp only [walkF]
    rw [if_pos (.inr (by omega))]
    exact ⟨_, rfl⟩
  | succ k ih =>
    intro x d c h
    simp only [walkF]
    split
    · exact ⟨_, rfl⟩
    · split
      · exact ⟨_, rfl⟩
      · split
        · exact ⟨_, rfl⟩
        · exact walkL_total _ (fun y c => ih y (d + 1) c (by omega)) _ _
/-- An expression that the walk lets through. -/
theorem walkL_each {f : S24 → Int → Option (Int × Int)} {l : List S24} : ∀ {c c' : Int}, walkL f l c = some (0, c') → ∀ y ∈ l, ∃ a b, f y a = some (0, b) := by
  induction l with
  | nil => intro c c' _ y hy; cases hy
  | cons x r ih =>
    intro c c' h y hy
    simp only [walkL] at h
    obtain ⟨⟨e, c1⟩, h1, h2⟩ := Option.bind_eq_some_iff.mp h
    by_cases z : e = 0
    · subst z
      rw [if_pos rfl] at h2
      rcases List.mem_cons.1 hy with rfl | hy
      · exact ⟨_, _, h1⟩
      · exact ih h2 y hy
    · rw [if_neg z] at h2
      exact absurd (Prod.mk.inj (Option.some.inj h2)).1 z
theorem wdiv_total (a b : Int) (h1 : -9223372036854775808 ≤ a) (h2 : a ≤ 9223372036854775807) : ∃ t, whole_Div.f 3 a b = some t := by
  have hj : ∀ q, b ≠ 0 → ∃ t, whole_Div.j0 3 a b q = some t := by
    intro q hb
    simp only [whole_Div.j0]
    rw [if_neg hb]
    repeat (first | exact ⟨_, rfl⟩ | split)
  unfold whole_Div.f
  split
  · exact ⟨_, rfl⟩
  · rename_i hb
    split
    · exact hj _ hb
    · exact hj _ hb
theorem clampO_total (x : Int) : ∃ p, clampO x = some p := by
  unfold clampO
  split <;> exact ⟨_, rfl⟩
theorem ite_ex {α : Type} {c : Prop} [Decidable c] {a b : Option α} (h : ∃ p, a = some p) (g : ∃ p, b = some p) : ∃ p, (if c then a else b) = some p := by
  by_cases z : c
  · rw [if_pos z]; exact h
  · rw [if_neg z]; exact g
theorem opF_total (x : S24) (y v0 v1 : Int) (h1 : -2147483647 ≤ v0 ∧ v0 ≤ 2147483647) : ∃ p, opF x y v0 v1 = some p := by
  obtain ⟨t, ht⟩ := wdiv_total v0 v1 (by omega) (by omega)
  unfold opF
  rw [ht]
  simp only [Option.bind_some]
  repeat' (first | exact clampO_total _ | with_reducible exact ⟨_, rfl⟩ | refine ite_ex ?_ ?_)
theorem valL_total {f : S24 → Option (Int × Int)} {l : List S24} (hf : ∀ y ∈ l, ∃ p, f y = some p ∧ -2147483647 ≤ p.1 ∧ p.1 ≤ 2147483647) : ∀ (i : Int) (v0 v1 : Int), 0 ≤ i → i + l.length ≤ 2 → (-2147483647 ≤ v0 ∧ v0 ≤ 2147483647) →
    ∃ t, valL f l i v0 v1 = some t ∧ (-2147483647 ≤ t.2.1 ∧ t.2.1 ≤ 2147483647) := by
  induction l with
  | nil => intro i v0 v1 _ _ h; exact ⟨_, rfl, h⟩
  | cons y r ih =>
    intro i v0 v1 h0 h2 hv
    obtain ⟨p, hp, hb⟩ := hf y (by simp)
    have ih2 := ih (fun z hz => hf z (by simp [hz]))
    rw [List.length_cons] at h2
    simp only [valL, hp, Option.bind_some]
    by_cases c0 : i = 0
    · rw [if_pos c0]
      split
      · exact ih2 1 _ _ (by omega) (by omega) hb
      · exact ⟨_, rfl, by simp⟩
    · rw [if_neg c0, if_pos (show i = 1 by omega)]
      split
      · exact ih2 2 _ _ (by omega) (by omega) hv
      · exact ⟨_, rfl, by simp⟩
theorem valF_total (k : Nat) : ∀ (x : S24) (d c c' y : Int), walkF k x d c = some (0, c') → ∃ p, valF k x y = some p := by
  induction k with
  | zero => intro x d c c' y h; cases h
  | succ k ih =>
    intro x d c c' y h
    simp only [walkF] at h
    split at h
    · exact absurd (Prod.mk.inj (Option.some.inj h)).1 (by decide)
    · split at h
      · exact absurd (Prod.mk.inj (Option.some.inj h)).1 (by decide)
      · rename_i hk
        split at h
        · exact absurd (Prod.mk.inj (Option.some.inj h)).1 (by decide)
        · have hle := kids_le x.f0.toNat
          have hl : (x.f2.length : Int) ≤ 2 := by
            have : (x.f2.length : Int) = kidsT.getD x.f0.toNat 0 := by
              by_cases z : (x.f2.length : Int) = kidsT.getD x.f0.toNat 0
              · exact z
              · exact absurd (.inr (.inr z)) hk
            omega
          have he := walkL_each h
          obtain ⟨t, ht, hb⟩ := valL_total (f := fun z => valF k z y) (l := x.f2) (fun z hz => by
            obtain ⟨a, b, hw⟩ := he z hz
            obtain ⟨p, hp⟩ := ih z _ _ _ y hw
            exact ⟨p, hp, valF_bd (v := p.1) (e := p.2) hp⟩) 0 0 0 (by omega) (by omega) (by omega)
          simp only [valF, ht, Option.bind_some]
          split
          · exact opF_total _ _ _ _ hb
          · exact ⟨_, rfl⟩
/-- The answer of rule.Eval does not wait for rounds. -/
theorem eval_total (x0 x1 : Int) (l : List S24) (y : Int) : ∃ r, Ev (fun k => rule_Eval.f k x0 x1 l y = some r) := by
  obtain ⟨⟨p1, p2⟩, hp⟩ := walkF_total 13 ⟨x0, x1, l⟩ 1 0 (by omega)
  by_cases z : p1 = 0
  · subst z
    by_cases hy : y < -10000 ∨ y > 10000
    · exact ⟨(0, 3), Ev.mono (k := 14) (fun k => rule_Eval.mono _ _ _ _ k) (by unfold rule_Eval.f; rw [hp]; simp only [Option.bind_some]; rw [if_pos trivial, if_pos hy])⟩
    · obtain ⟨p, hv⟩ := valF_total 14 _ 1 0 _ y hp
      exact ⟨p, Ev.mono (k := 14) (fun k => rule_Eval.mono _ _ _ _ k) (by unfold rule_Eval.f; rw [hp]; simp only [Option.bind_some]; rw [if_pos trivial, if_neg hy]; exact hv)⟩
  · exact ⟨(0, p1), Ev.mono (k := 14) (fun k => rule_Eval.mono _ _ _ _ k) (by unfold rule_Eval.f; rw [hp]; simp only [Option.bind_some]; rw [if_neg z])⟩

theorem walkL_shift {f g : S24 → Int → Option (Int × Int)} {l : List S24} (hf : ∀ y ∈ l, ∀ c c', f y c = some (0, c') → ∃ p, g y (c + 2) = some p ∧ (p = (0, c' + 2) ∨ p.1 = 2)) :
    ∀ c c', walkL f l c = some (0, c') → ∃ p, walkL g l (c + 2) = some p ∧ (p = (0, c' + 2) ∨ p.1 = 2) := by
  induction l with
  | nil =>
    intro c c' h
    obtain rfl : c = c' := (Prod.mk.inj (Option.some.inj h)).2
    exact ⟨_, rfl, .inl rfl⟩
  | cons y r ih =>
    intro c c' h
    simp only [walkL] at h
    obtain ⟨⟨e, c1⟩, h1, h2⟩ := Option.bind_eq_some_iff.mp h
    by_cases z : e = 0
    rotate_left
    · rw [if_neg z] at h2
      exact absurd (Prod.mk.inj (Option.some.inj h2)).1 z
    subst z
    rw [if_pos rfl] at h2
    obtain ⟨p, hp, hq⟩ := hf y (by simp) c c1 h1
    simp only [walkL, hp, Option.bind_some]
    rcases hq with rfl | hq
    · rw [if_pos rfl]
      exact ih (fun z hz => hf z (by simp [hz])) c1 c' h2
    · rw [if_neg (by rw [hq]; decide)]
      exact ⟨_, rfl, .inr hq⟩
theorem walkF_shift (k : Nat) : ∀ (x : S24) (d c c' : Int), walkF k x d c = some (0, c') → ∃ p, walkF k x (d + 2) (c + 2) = some p ∧ (p = (0, c' + 2) ∨ p.1 = 2) := by
  induction k with
  | zero => intro x d c c' h; cases h
  | succ k ih =>
    intro x d c c' h
    simp only [walkF] at h ⊢
    by_cases b : c + 2 + 1 > 60 ∨ d + 2 > 12
    · rw [if_pos b]
      exact ⟨_, rfl, .inr rfl⟩
    · rw [if_neg b]
      rw [if_neg (fun z => b (by omega))] at h
      split at h
      · exact absurd (Prod.mk.inj (Option.some.inj h)).1 (by decide)
      · rename_i b2
        rw [if_neg b2]
        split at h
        · exact absurd (Prod.mk.inj (Option.some.inj h)).1 (by decide)
        · rename_i b3
          rw [if_neg b3]
          have := walkL_shift (f := fun y c => walkF k y (d + 1) c) (g := fun y c => walkF k y (d + 2 + 1) c) (l := x.f2) (fun y _ c c' hy => by
            have := ih y (d + 1) c c' hy
            rwa [show d + 1 + 2 = d + 2 + 1 from by omega] at this) (c + 1) c' h
          rwa [show c + 1 + 2 = c + 2 + 1 from by omega] at this
theorem one_walk (k : Nat) (x : S24) (d c : Int) (p : Int × Int) (hc : c + 1 ≤ 60) (hd : d ≤ 12) (h : walkF k x (d + 1) (c + 1) = some p) : walkF (k + 1) ⟨11, 0, [x]⟩ d c = some p := by
  simp only [walkF]
  rw [if_neg (by omega), if_neg (fun z => by rcases z with z | z | z; exact absurd z (by decide); exact absurd z (by decide); exact z rfl), if_neg (by decide)]
  simp only [walkL, h, Option.bind_some]
  split
  · rename_i z
    rw [← z]
  · rfl
theorem one_val (k : Nat) (x : S24) (y v : Int) (h : valF k x y = some (v, 0)) : valF (k + 1) ⟨11, 0, [x]⟩ y = some (if v = 0 then 1 else 0, 0) := by
  simp only [valF, valL, h, Option.bind_some]
  rw [if_pos trivial, if_pos trivial]
  simp only [Option.bind_some]
  rw [if_pos trivial]
  simp only [opF]
  rw [if_neg (by decide), if_neg (by decide), if_neg (by decide), if_neg (by decide), if_neg (by decide), if_neg (by decide), if_neg (by decide), if_neg (by decide), if_neg (by decide), if_neg (by decide), if_pos trivial]
  by_cases z : v = 0
  · subst z; rfl
  · rw [if_neg z, beq_eq_false_iff_ne.mpr z]; rfl
theorem nn_eval (k : Nat) (x : S24) (y v c : Int) (hy : -10000 ≤ y ∧ y ≤ 10000) (hw : walkF k x 1 0 = some (0, c)) (hv : valF k x y = some (v, 0)) :
    ∃ s, rule_Eval.f (k + 2) 11 0 [⟨11, 0, [x]⟩] y = some s ∧ (s.2 = 2 ∨ s = (if v = 0 then 0 else 1, 0)) := by
  obtain ⟨p, hp, hq⟩ := walkF_shift k x 1 0 c hw
  have h2 := one_walk (k + 1) ⟨11, 0, [x]⟩ 1 0 p (by omega) (by omega) (one_walk k x 2 1 p (by omega) (by omega) hp)
  have h3 := one_val (k + 1) ⟨11, 0, [x]⟩ y _ (one_val k x y v hv)
  unfold rule_Eval.f
  rw [h2]
  simp only [Option.bind_some]
  rcases hq with rfl | hq
  · rw [if_pos rfl, if_neg (by omega), h3]
    refine ⟨_, rfl, .inr ?_⟩
    by_cases z : v = 0
    · rw [if_pos z, if_pos z]; rfl
    · rw [if_neg z, if_neg z]; rfl
  · rw [if_neg (by rw [hq]; decide)]
    exact ⟨_, rfl, .inl hq⟩
theorem two_eval : Ev (fun k => rule_Eval.f k 11 0 [⟨11, 0, [⟨1, 2, []⟩]⟩] 1 = some (1, 0)) := by
  have hw : walkF 1 ⟨1, 2, []⟩ 1 0 = some (0, 1) := rfl
  have hv : valF 1 ⟨1, 2, []⟩ 1 = some (2, 0) := rfl
  have hp : walkF 1 ⟨1, 2, []⟩ 3 2 = some (0, 3) := rfl
  have h2 := one_walk 2 ⟨11, 0, [⟨1, 2, []⟩]⟩ 1 0 _ (by omega) (by omega) (one_walk 1 ⟨1, 2, []⟩ 2 1 _ (by omega) (by omega) hp)
  have h3 := one_val 2 ⟨11, 0, [⟨1, 2, []⟩]⟩ 1 _ (one_val 1 ⟨1, 2, []⟩ 1 2 hv)
  refine Ev.mono (k := 3) (fun k => rule_Eval.mono _ _ _ _ k) ?_
  unfold rule_Eval.f
  rw [h2]
  simp only [Option.bind_some]
  rw [if_pos trivial, if_neg (by omega), h3]
  rfl
theorem RuleNegates : ephemeriskeep1_RuleNegates.Pure := by
  intro x0 x1 l a1 _ _ _ _
  obtain ⟨y, hY, y1, y2, _⟩ := cut_is a1 (-10000) 20001 (by omega) (by omega) (by omega) (by omega)
  obtain ⟨⟨p1, p2⟩, hp⟩ := walkF_total 13 ⟨x0, x1, l⟩ 1 0 (by omega)
  have hrun : ∀ {q : Int × Int} (hq : Ev (fun k => rule_Eval.f k x0 x1 l y = some q)) (h : q.2 = 0 → ∃ s, Ev (fun k => rule_Eval.f k 11 0 [⟨11, 0, [⟨x0, x1, l⟩]⟩] y = some s) ∧ (s.2 = 2 ∨ s = (if q.1 = 0 then 0 else 1, 0))), ∃ k, ephemeriskeep1_RuleNegates.f k x0 x1 l a1 = some true := by
    intro q hq h
    by_cases z : q.2 = 0
    · obtain ⟨s, hs, hor⟩ := h z
      obtain ⟨k, k1, k2, k3⟩ := (two_eval.and (hq.and hs)).ex
      refine ⟨k, ?_⟩
      unfold ephemeriskeep1_RuleNegates.f
      rw [k1]
      simp only [Option.bind_some]
      rw [if_pos ⟨trivial, trivial⟩, hY]
      simp only [Option.bind_some]
      rw [k2]
      simp only [Option.bind_some]
      rw [if_pos z, k3]
      simp only [Option.bind_some]
      rcases hor with e | rfl
      · rw [if_pos e]
      · rw [if_neg (by show ¬ ((0 : Int) = 2); decide)]
        refine if_pos ⟨rfl, ?_⟩
        by_cases w : q.1 = 0
        · exact .inr ⟨w, if_pos w⟩
        · exact .inl ⟨w, if_neg w⟩
    · obtain ⟨k, k1, k2⟩ := (two_eval.and hq).ex
      refine ⟨k, ?_⟩
      unfold ephemeriskeep1_RuleNegates.f
      rw [k1]
      simp only [Option.bind_some]
      rw [if_pos ⟨trivial, trivial⟩, hY]
      simp only [Option.bind_some]
      rw [k2]
      simp only [Option.bind_some]
      rw [if_neg z]
  have hy : -10000 ≤ y ∧ y ≤ 10000 := by omega
  by_cases z : p1 = 0
  · subst z
    obtain ⟨q, hv⟩ := valF_total 14 _ 1 0 _ y hp
    refine hrun (q := q) (Ev.mono (k := 14) (fun k => rule_Eval.mono _ _ _ _ k) (by unfold rule_Eval.f; rw [hp]; simp only [Option.bind_some]; rw [if_pos trivial, if_neg (by omega)]; exact hv)) fun e => ?_
    obtain ⟨q1, q2⟩ := q
    obtain rfl : q2 = 0 := e
    obtain ⟨s, hs, hor⟩ := nn_eval 14 ⟨x0, x1, l⟩ y q1 p2 hy hp hv
    exact ⟨s, Ev.mono (fun k => rule_Eval.mono _ _ _ _ k) hs, hor⟩
  · exact hrun (q := (0, p1)) (Ev.mono (k := 14) (fun k => rule_Eval.mono _ _ _ _ k) (by unfold rule_Eval.f; rw [hp]; simp only [Option.bind_some]; rw [if_neg z])) fun e => absurd e z

end Go.Proofs.YtboddbgmgcjppaaDoor.Pure
