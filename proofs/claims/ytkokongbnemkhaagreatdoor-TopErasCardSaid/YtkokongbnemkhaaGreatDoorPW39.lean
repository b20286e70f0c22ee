/- TopEras as a contract. -/
import Derived.Test.YtkokongbnemkhaaGreatDoorPW38
import Derived.Test.YtkokongbnemkhaaGreatDoorPW15t
set_option linter.unusedVariables false
set_option linter.unusedSimpArgs false
namespace Go.Proofs.YtkokongbnemkhaaGreatDoorA
open Go Go.RowKit Go.Proofs.YtkokongbnemkhaaGreatDoorFx Go.Proofs
variable {m : Int}
theorem RgOk.uniq {l : Reigns} (h : RgOk l) {day : Int} {k j : Nat} (a : (rgR l).In day k) (b : (rgR l).In day j) : k = j := by
  have al := a.lt; have bl := b.lt; have an := a.nx; have bn := b.nx
  rw [rgR_len] at al bl an bn
  rcases Nat.lt_trichotomy k j with q | q | q
  · exfalso
    have h1 := an (by omega)
    have h2 := b.le
    rcases Nat.lt_or_ge (k + 1) j with q2 | q2
    · have := h.mono q2 bl; omega
    · have : k + 1 = j := by omega
      rw [this] at h1; omega
  · exact q
  · exfalso
    have h1 := bn (by omega)
    have h2 := a.le
    rcases Nat.lt_or_ge (j + 1) k with q2 | q2
    · have := h.mono q2 al; omega
    · have : j + 1 = k := by omega
      rw [this] at h1; omega
theorem Cal.At.uniq {c : Cal} (hc : c.Ok) {day y y' : Int} {mo mo' : Nat} (h : c.At day y mo) (h' : c.At day y' mo') : y' = y ∧ mo' = mo := by
  obtain rfl := h.year hc h'
  refine ⟨rfl, ?_⟩
  have a := h.r1; have b := h.r2; have a' := h'.r1; have b' := h'.r2
  rcases Nat.lt_trichotomy mo' mo with q | q | q
  · have := hc.bef_mono y' (show mo' + 1 ≤ mo from q); omega
  · exact q
  · have := hc.bef_mono y' (show mo + 1 ≤ mo' from q); omega
/-- What Say answers of a day that is not ahead of the first reign. -/
theorem say_any (l : Reigns) (hs : ∀ p ∈ l, p.1.length ≤ 140737488351232) (hk : rgChk l = 0) {c : Cal} (hg : c.Good m) {s : List UInt8} {mode d : Int} (hm : mode = 1 ∨ mode = 2) (hC : MeetsP Tryz.prog (glT m) 26 [.s s] (.tup [c.A, .i .i64 0])) (hd : chkDay d = 0) (h0 : (rgR l).f 0 ≤ d) :
    ∃ z n e j, (rgR l).In d j ∧ MeetsP Tryz.prog (glT m) 18 [rgA l, .s s, .i .i64 mode, .i .i64 d] (sayA z n e) ∧ (e = 0 ∨ e = 3) ∧ (e = 0 → -40000 ≤ n ∧ n ≤ 40000) ∧
      (∀ y (mo : Nat) fy (fk : Nat), c.At d y mo → c.At ((rgR l).f j) fy fk → z = rgN l j ∧ n = y - fy + xtr mode ∧ e = 0) ∧ (e = 0 → (∃ y, ∃ mo : Nat, c.At d y mo) ∧ ∃ fy, ∃ fk : Nat, c.At ((rgR l).f j) fy fk) := by
  have hok := rgChk_ok hk
  obtain ⟨j, hin⟩ := Ref.part0 (r := rgR l) (day := d) (by rw [rgR_len]; exact hok.l1) h0
  have hxb : 0 ≤ xtr mode ∧ xtr mode ≤ 1 := by unfold xtr; split <;> omega
  by_cases h1 : ∃ y, ∃ mo : Nat, c.At d y mo
  · obtain ⟨y, mo, hat⟩ := h1
    by_cases h2 : ∃ fy, ∃ fk : Nat, c.At ((rgR l).f j) fy fk
    · obtain ⟨fy, fk, hfat⟩ := h2
      have q1 := hat.y1; have q2 := hat.y2; have q3 := hfat.y1; have q4 := hfat.y2
      have hS := sayIn (m := m) l hs hk hm hC hd hin (hat.run hg) (hfat.run hg) (by omega)
      rw [if_neg (by simp), if_neg (by simp)] at hS
      refine ⟨_, _, _, j, hin, hS, .inl rfl, fun _ => by omega, fun y' mo' fy' fk' a b => ?_, fun _ => ⟨⟨y, mo, hat⟩, fy, fk, hfat⟩⟩
      rw [hat.year hg.toOk a, hfat.year hg.toOk b]
      exact ⟨rfl, rfl, rfl⟩
    · rcases fromDay_all hg ((rgR l).f j) with hF | ⟨fy, fk, hfat⟩
      · have hS := sayIn (m := m) l hs hk hm hC hd hin (hat.run hg) hF (by have := hat.y1; have := hat.y2; omega)
        rw [if_neg (by simp), if_pos (by simp)] at hS
        exact ⟨_, _, _, j, hin, hS, .inr rfl, (fun e => by cases e), (fun y' mo' fy' fk' a b => absurd ⟨fy', fk', b⟩ h2), (fun e => by cases e)⟩
      · exact absurd ⟨fy, fk, hfat⟩ h2
  · rcases fromDay_all hg d with hf | ⟨y, mo, hat⟩
    · rcases fromDay_all hg ((rgR l).f j) with hF | ⟨fy, fk, hfat⟩
      · have hS := sayIn (m := m) l hs hk hm hC hd hin hf hF (by omega)
        rw [if_pos (by simp)] at hS
        exact ⟨_, _, _, j, hin, hS, .inr rfl, (fun e => by cases e), (fun y' mo' fy' fk' a b => absurd ⟨y', mo', a⟩ h1), (fun e => by cases e)⟩
      · have hS := sayIn (m := m) l hs hk hm hC hd hin hf (hfat.run hg) (by have := hfat.y1; have := hfat.y2; omega)
        rw [if_pos (by simp)] at hS
        exact ⟨_, _, _, j, hin, hS, .inr rfl, (fun e => by cases e), (fun y' mo' fy' fk' a b => absurd ⟨y', mo', a⟩ h1), (fun e => by cases e)⟩
    · exact absurd ⟨y, mo, hat⟩ h1
/-- How many reigns begin behind a day, up to another one. -/
def bgN (f : Nat → Int) (D X : Int) : Nat → Int
  | 0 => 0
  | i + 1 => bgN f D X i + if D < f i ∧ f i ≤ X then 1 else 0
theorem bgN_nonneg (f : Nat → Int) (D X : Int) : ∀ i, 0 ≤ bgN f D X i ∧ bgN f D X i ≤ i
  | 0 => by simp [bgN]
  | i + 1 => by have := bgN_nonneg f D X i; unfold bgN; split <;> omega
theorem bgN_zero {f : Nat → Int} {D X : Int} : ∀ {i : Nat}, bgN f D X i = 0 → ∀ j, j < i → ¬ (D < f j ∧ f j ≤ X)
  | 0, _, j, hj => by omega
  | i + 1, h, j, hj => by
    have h1 := bgN_nonneg f D X i
    unfold bgN at h
    split at h
    · omega
    · rename_i q
      rcases Nat.lt_or_ge j i with e | e
      · exact bgN_zero (by omega) j e
      · have : j = i := by omega
        subst this; exact q
set_option maxRecDepth 100000 in
set_option maxHeartbeats 8000000 in
theorem topErasP (l : Reigns) (hs : ∀ p ∈ l, p.1.length ≤ 140737488351232) (k mode day : Int) : MeetsP Tryz.prog (glT m) 8 [rgA l, .i .i64 k, .i .i64 mode, .i .i64 day] (.b true) := by
  have hone := sayOne (m := m) (mode := 2) (.inr rfl)
  rw [show (1 : Int) + xtr 2 = 1 from rfl] at hone
  have hn := tnameP (m := m) k
  have hC := calAtP (m := m) k
  have hg := calAt_good (m := m) k
  have hct := tcutP (m := m) (a := mode) (lo := 1) (n := 2) (by omega) (by omega) (by omega) (by omega)
  have hct2 := tcutP (m := m) (a := day) (lo := 1) (n := 700000) (by omega) (by omega) (by omega) (by omega)
  have hm1 := Int.emod_nonneg mode (show (2 : Int) ≠ 0 by omega)
  have hm2 := Int.emod_lt_of_pos mode (show (0 : Int) < 2 by omega)
  have hm3 := Int.emod_nonneg day (show (700000 : Int) ≠ 0 by omega)
  have hm4 := Int.emod_lt_of_pos day (show (0 : Int) < 700000 by omega)
  generalize hY : 1 + mode % 2 = MD at hct
  have hMD : MD = 1 ∨ MD = 2 := by omega
  generalize hZ : 1 + day % 700000 = D at hct2
  have hD : chkDay D = 0 := chkDay_ok (by omega) (by omega)
  have hD1 : 1 ≤ D := by omega
  clear hY hZ hm1 hm2 hm3 hm4
  have hbad : ∀ e, e ≠ 0 → ∀ z n, MeetsP Tryz.prog (glT m) 18 [rgA l, .s (rowAt k).name, .i .i64 MD, .i .i64 D] (sayA z n e) → MeetsP Tryz.prog (glT m) 8 [rgA l, .i .i64 k, .i .i64 mode, .i .i64 day] (.b true) := fun e he z n hS => by
    unfold sayA grgS at *
    unfold rgA at *
    generalize rgRows l = R at *
    refine meetsP (E := (EW m)) 156 [.tmp 8] (ew m) Tryz.func8 rfl (by decide) rfl rfl (by simp) ?_
    repeat' first
      | ((with_reducible refine wr_isCall ?_); refine wr_lent hone rfl rfl rfl ?_)
      | ((with_reducible refine wr_isCall ?_); refine wr_P hct rfl ?_)
      | ((with_reducible refine wr_isCall ?_); refine wr_P hct2 rfl ?_)
      | ((with_reducible refine wr_isCall ?_); refine wr_P hn rfl ?_)
      | ((with_reducible refine wr_isCall ?_); refine wr_P hS rfl ?_)
      | (with_reducible refine t_seq ?_)
      | (with_reducible refine t_skip ?_)
      | (with_reducible refine t_ret ?_)
      | (with_reducible refine t_end ?_)
      | (with_reducible refine t_cond ?_)
      | (with_reducible refine t_region ?_)
      | (with_reducible refine wr_done ?_)
      | ((with_reducible refine t_isDraw ?_); refine t_draw rfl (by kernel_rfl) ?_)
      | (with_reducible refine WD.done _ ?_)
      | (with_reducible refine wdp_done ?_)
      | (with_reducible refine tr_some ?_)
      | ((fail_if_success with_reducible refine t_bl ?_); (with_reducible refine t_block ?_))
      | (with_reducible refine t_inBlock ?_)
      | ((with_reducible refine t_isExit ?_); refine t_exit rfl ?_)
      | simp only [decide_eq_true_eq, decide_eq_false_iff_not, Bool.not_eq_true', Bool.not_eq_false'] at *
      | simp (disch := omega) only [go_sem, Nat.reduceLT, Nat.reduceEqDiff, Nat.reduceAdd, Nat.reduceLeDiff, Nat.reduceMul, Int.reduceLT, Int.reduceLE, Int.reduceAdd, Int.reduceSub, Int.reduceNeg, Int.reduceToNat, Int.reduceBEq, Int.reduceEq, reduceCtorEq, List.take_succ_cons, List.take_zero, List.take_nil, List.drop_succ_cons, List.drop_nil, List.cons_append, List.nil_append, List.set_cons_zero, List.set_cons_succ, ↓reduceIte, *]
      | (with_reducible refine tb_true ?_)
      | (with_reducible refine tb_false ?_)
      | (with_reducible refine tb_split (fun _ => ?_) (fun _ => ?_))
      | (with_reducible refine wg_f (fun _ => ?_) (fun _ => ?_))
      | (with_reducible refine wg_t (fun _ => ?_) (fun _ => ?_))
      | (with_reducible refine wd_f (fun _ => ?_) (fun _ => ?_))
      | (with_reducible refine wd_t (fun _ => ?_) (fun _ => ?_))
    all_goals first | (exfalso; omega) | exact ⟨rfl, rfl⟩
  by_cases hk : rgChk l = 0
  case neg => exact hbad _ hk _ _ (sayBad l hs hk _ _ _)
  have hok := rgChk_ok hk
  by_cases h0 : D < (rgR l).f 0
  · obtain ⟨e, he, hS⟩ := sayEarly (m := m) l hs hk hMD hC (.inr ⟨hD, h0⟩)
    exact hbad e he _ _ hS
  obtain ⟨z, n, e, j, hin, hS, he, hnb, hval, hex⟩ := say_any (m := m) l hs hk hg hMD hC hD (by omega)
  by_cases he0 : e = 0
  case neg => exact hbad e he0 _ _ hS
  clear hbad
  subst he0
  obtain ⟨⟨y, mo, hat⟩, fy, fk, hfat⟩ := hex rfl
  obtain ⟨rfl, rfl, -⟩ := hval y mo fy fk hat hfat
  have hnb' := hnb rfl
  have hf := hat.run hg
  have hNY := newYearP (m := m) hg (y + 1)
  have q1 := hat.y1; have q2 := hat.y2; have q3 := hat.a; have q4 := hat.b
  have hstop : ∀ v, v ≠ 0 → MeetsP Tryz.prog (glT m) 28 [(calAt k).A, .i .i64 (y + 1)] (.tup [.i .i64 0, .i .i64 v]) → MeetsP Tryz.prog (glT m) 8 [rgA l, .i .i64 k, .i .i64 mode, .i .i64 day] (.b true) := fun v hv hNY => by
    obtain ⟨y1, y2, y3, y4, y5, hy', ⟨o1, o2, o3, o4, o5⟩, n2⟩ := cal_gen (calAt k)
    rw [hy'] at hC hf hNY
    generalize D - (calAt k).first y + 1 - (calAt k).bef y mo = dd at *
    generalize ((mo : Int) + 1) = M at *
    generalize rgN l j = z at *
    generalize y - fy + xtr MD = n at *
    clear hval hex hin hat hfat
    unfold sayA grgS resD dateA at *
    unfold rgA at *
    generalize rgRows l = R at *
    refine meetsP (E := (EW m)) 156 [.tmp 8] (ew m) Tryz.func8 rfl (by decide) rfl rfl (by simp) ?_
    repeat' first
      | ((with_reducible refine wr_isCall ?_); refine wr_lent hone rfl rfl rfl ?_)
      | ((with_reducible refine wr_isCall ?_); refine wr_P hct rfl ?_)
      | ((with_reducible refine wr_isCall ?_); refine wr_P hct2 rfl ?_)
      | ((with_reducible refine wr_isCall ?_); refine wr_P hn rfl ?_)
      | ((with_reducible refine wr_isCall ?_); refine wr_P hS rfl ?_)
      | ((with_reducible refine wr_isCall ?_); refine wr_P hC rfl ?_)
      | ((with_reducible refine wr_isCall ?_); refine wr_P hf (n2 _) ?_)
      | ((with_reducible refine wr_isCall ?_); refine wr_P hNY (n2 _) ?_)
      | (with_reducible refine t_seq ?_)
      | (with_reducible refine t_skip ?_)
      | (with_reducible refine t_ret ?_)
      | (with_reducible refine t_end ?_)
      | (with_reducible refine t_cond ?_)
      | (with_reducible refine t_region ?_)
      | (with_reducible refine wr_done ?_)
      | ((with_reducible refine t_isDraw ?_); refine t_draw rfl (by kernel_rfl) ?_)
      | (with_reducible refine WD.done _ ?_)
      | (with_reducible refine wdp_done ?_)
      | (with_reducible refine tr_some ?_)
      | ((fail_if_success with_reducible refine t_bl ?_); (with_reducible refine t_block ?_))
      | (with_reducible refine t_inBlock ?_)
      | ((with_reducible refine t_isExit ?_); refine t_exit rfl ?_)
      | simp only [decide_eq_true_eq, decide_eq_false_iff_not, Bool.not_eq_true', Bool.not_eq_false'] at *
      | simp (disch := omega) only [go_sem, Nat.reduceLT, Nat.reduceEqDiff, Nat.reduceAdd, Nat.reduceLeDiff, Nat.reduceMul, Int.reduceLT, Int.reduceLE, Int.reduceAdd, Int.reduceSub, Int.reduceNeg, Int.reduceToNat, Int.reduceBEq, Int.reduceEq, reduceCtorEq, List.take_succ_cons, List.take_zero, List.take_nil, List.drop_succ_cons, List.drop_nil, List.cons_append, List.nil_append, List.set_cons_zero, List.set_cons_succ, ↓reduceIte, *]
      | (with_reducible refine tb_true ?_)
      | (with_reducible refine tb_false ?_)
      | (with_reducible refine tb_split (fun _ => ?_) (fun _ => ?_))
      | (with_reducible refine wg_f (fun _ => ?_) (fun _ => ?_))
      | (with_reducible refine wg_t (fun _ => ?_) (fun _ => ?_))
      | (with_reducible refine wd_f (fun _ => ?_) (fun _ => ?_))
      | (with_reducible refine wd_t (fun _ => ?_) (fun _ => ?_))
    all_goals first | (exfalso; omega) | exact ⟨rfl, rfl⟩
  by_cases hcy : chkYear (y + 1) = 0
  case neg => rw [if_neg hcy] at hNY; exact hstop 3 (by simp) hNY
  rw [if_pos hcy] at hNY
  by_cases hcd : chkDay ((calAt k).first (y + 1)) = 0
  case neg => rw [if_neg hcd] at hNY; exact hstop 3 (by simp) hNY
  rw [if_pos hcd] at hNY
  clear hstop
  generalize hX : (calAt k).first (y + 1) = X at *
  have hXb : -4000000 ≤ X ∧ X ≤ 4000000 := by unfold chkDay at hcd; split at hcd <;> omega
  obtain ⟨z1, n1, e1, j1, hin1, hS1, he1, hnb1, hval1, hex1⟩ := say_any (m := m) l hs hk hg hMD hC (d := X - 1) (chkDay_ok (by omega) (by omega)) (by omega)
  obtain ⟨z2, n2', e2, j2, hin2, hS2, he2, hnb2, hval2, hex2⟩ := say_any (m := m) l hs hk hg hMD hC (d := X) hcd (by omega)
  have hpos := ylen_pos (pick_mem k)
  simp only [show calOf (pick k) (rowAt k) = calAt k from rfl] at hpos
  -- without a new reign the answers agree
  have hagree : bgN (rgR l).f D X l.length = 0 → e1 = 0 → e2 = 0 → z1 = rgN l j ∧ z2 = rgN l j ∧ n1 = y - fy + xtr MD ∧ n2' = y - fy + xtr MD + 1 := fun hb h1 h2 => by
    have hnone := bgN_zero hb
    have hjl := hin.lt
    rw [rgR_len] at hjl
    have hnx : j + 1 < l.length → X < (rgR l).f (j + 1) := fun h => by
      have a := hin.nx (by rw [rgR_len]; exact h)
      have b := hnone (j + 1) h
      omega
    have i1 : (rgR l).In (X - 1) j := ⟨hin.lt, by have := hin.le; omega, fun h => by have := hnx (by rw [rgR_len] at h; exact h); omega⟩
    have i2 : (rgR l).In X j := ⟨hin.lt, by have := hin.le; omega, fun h => hnx (by rw [rgR_len] at h; exact h)⟩
    obtain rfl := hok.uniq i1 hin1
    obtain rfl := hok.uniq i2 hin2
    obtain ⟨⟨y1, mo1, hat1⟩, _⟩ := hex1 h1
    obtain ⟨⟨y2, mo2, hat2⟩, _⟩ := hex2 h2
    have a1 := hat1.a; have b1 := hat1.b; have a2 := hat2.a; have b2 := hat2.b
    have hy1 : y1 = y := by
      rcases Int.lt_trichotomy y1 y with q | q | q
      · have := hg.toOk.first_mono (show y1 + 1 ≤ y from q); omega
      · exact q
      · have := hg.toOk.first_mono (show y + 1 ≤ y1 from q); omega
    have hy2 : y2 = y + 1 := by
      rcases Int.lt_trichotomy y2 (y + 1) with q | q | q
      · have := hg.toOk.first_mono (show y2 + 1 ≤ y + 1 from q); omega
      · exact q
      · have a := hg.toOk.first_mono (show y + 1 + 1 ≤ y2 from q)
        have b := hg.toOk.first_succ (y + 1)
        have c := hpos (y + 1)
        omega
    obtain ⟨v1, v2, _⟩ := hval1 y1 mo1 fy fk hat1 hfat
    obtain ⟨v3, v4, _⟩ := hval2 y2 mo2 fy fk hat2 hfat
    exact ⟨v1, v3, by omega, by omega⟩
  have hbg := bgN_nonneg (rgR l).f D X
  have hb0 : bgN (rgR l).f D X 0 = 0 := rfl
  have hbs : ∀ i, bgN (rgR l).f D X (i + 1) = bgN (rgR l).f D X i + if D < (rgR l).f i ∧ (rgR l).f i ≤ X then 1 else 0 := fun i => rfl
  have hrow := fun i hi => rg_row (l := l) (i := i) hi
  have hlen := rgRows_len l
  have hl2 := hok.l2
  have hXD : D ≤ X - 1 := by omega
  obtain ⟨y1, y2, y3, y4, y5, hy', ⟨o1, o2, o3, o4, o5⟩, nn2⟩ := cal_gen (calAt k)
  rw [hy'] at hC hf hNY
  generalize D - (calAt k).first y + 1 - (calAt k).bef y mo = dd at *
  generalize ((mo : Int) + 1) = M at *
  generalize rgN l j = z at *
  generalize y - fy + xtr MD = n at *
  generalize (rgR l).f = F at *
  generalize bgN F D X = BG at *
  clear hval hex hin hat hfat hval1 hex1 hin1 hval2 hex2 hin2 hpos hX q3 q4 hnb
  unfold sayA grgS resD dateA at *
  unfold rgA at *
  generalize rgRows l = R at *
  rcases he1 with rfl | rfl
  case inr =>
    refine meetsP (E := (EW m)) 156 [.tmp 8] (ew m) Tryz.func8 rfl (by decide) rfl rfl (by simp) ?_
    repeat' first
      | ((with_reducible refine wr_isCall ?_); refine wr_lent hone rfl rfl rfl ?_)
      | ((with_reducible refine wr_isCall ?_); refine wr_P hct rfl ?_)
      | ((with_reducible refine wr_isCall ?_); refine wr_P hct2 rfl ?_)
      | ((with_reducible refine wr_isCall ?_); refine wr_P hn rfl ?_)
      | ((with_reducible refine wr_isCall ?_); refine wr_P hS rfl ?_)
      | ((with_reducible refine wr_isCall ?_); refine wr_P hC rfl ?_)
      | ((with_reducible refine wr_isCall ?_); refine wr_P hf (nn2 _) ?_)
      | ((with_reducible refine wr_isCall ?_); refine wr_P hNY (nn2 _) ?_)
      | ((with_reducible refine wr_isCall ?_); refine wr_P hS1 rfl ?_)
      | ((with_reducible refine wr_isCall ?_); refine wr_P hS2 rfl ?_)
      | (with_reducible refine t_seq ?_)
      | (with_reducible refine t_skip ?_)
      | (with_reducible refine t_ret ?_)
      | (with_reducible refine t_end ?_)
      | (with_reducible refine t_cond ?_)
      | (with_reducible refine t_region ?_)
      | (with_reducible refine wr_done ?_)
      | ((with_reducible refine t_isDraw ?_); refine t_draw rfl (by kernel_rfl) ?_)
      | (with_reducible refine WD.done _ ?_)
      | (with_reducible refine wdp_done ?_)
      | (with_reducible refine tr_some ?_)
      | ((fail_if_success with_reducible refine t_bl ?_); (with_reducible refine t_block ?_))
      | (with_reducible refine t_inBlock ?_)
      | ((with_reducible refine t_isExit ?_); refine t_exit rfl ?_)
      | simp only [decide_eq_true_eq, decide_eq_false_iff_not, Bool.not_eq_true', Bool.not_eq_false'] at *
      | simp (disch := omega) only [go_sem, Nat.reduceLT, Nat.reduceEqDiff, Nat.reduceAdd, Nat.reduceLeDiff, Nat.reduceMul, Int.reduceLT, Int.reduceLE, Int.reduceAdd, Int.reduceSub, Int.reduceNeg, Int.reduceToNat, Int.reduceBEq, Int.reduceEq, reduceCtorEq, List.take_succ_cons, List.take_zero, List.take_nil, List.drop_succ_cons, List.drop_nil, List.cons_append, List.nil_append, List.set_cons_zero, List.set_cons_succ, ↓reduceIte, *]
      | (with_reducible refine tb_true ?_)
      | (with_reducible refine tb_false ?_)
      | (with_reducible refine tb_split (fun _ => ?_) (fun _ => ?_))
      | (with_reducible refine wg_f (fun _ => ?_) (fun _ => ?_))
      | (with_reducible refine wg_t (fun _ => ?_) (fun _ => ?_))
      | (with_reducible refine wd_f (fun _ => ?_) (fun _ => ?_))
      | (with_reducible refine wd_t (fun _ => ?_) (fun _ => ?_))
    all_goals first | (exfalso; omega) | exact ⟨rfl, rfl⟩
  rcases he2 with rfl | rfl
  case inr =>
    refine meetsP (E := (EW m)) 156 [.tmp 8] (ew m) Tryz.func8 rfl (by decide) rfl rfl (by simp) ?_
    repeat' first
      | ((with_reducible refine wr_isCall ?_); refine wr_lent hone rfl rfl rfl ?_)
      | ((with_reducible refine wr_isCall ?_); refine wr_P hct rfl ?_)
      | ((with_reducible refine wr_isCall ?_); refine wr_P hct2 rfl ?_)
      | ((with_reducible refine wr_isCall ?_); refine wr_P hn rfl ?_)
      | ((with_reducible refine wr_isCall ?_); refine wr_P hS rfl ?_)
      | ((with_reducible refine wr_isCall ?_); refine wr_P hC rfl ?_)
      | ((with_reducible refine wr_isCall ?_); refine wr_P hf (nn2 _) ?_)
      | ((with_reducible refine wr_isCall ?_); refine wr_P hNY (nn2 _) ?_)
      | ((with_reducible refine wr_isCall ?_); refine wr_P hS1 rfl ?_)
      | ((with_reducible refine wr_isCall ?_); refine wr_P hS2 rfl ?_)
      | (with_reducible refine t_seq ?_)
      | (with_reducible refine t_skip ?_)
      | (with_reducible refine t_ret ?_)
      | (with_reducible refine t_end ?_)
      | (with_reducible refine t_cond ?_)
      | (with_reducible refine t_region ?_)
      | (with_reducible refine wr_done ?_)
      | ((with_reducible refine t_isDraw ?_); refine t_draw rfl (by kernel_rfl) ?_)
      | (with_reducible refine WD.done _ ?_)
      | (with_reducible refine wdp_done ?_)
      | (with_reducible refine tr_some ?_)
      | ((fail_if_success with_reducible refine t_bl ?_); (with_reducible refine t_block ?_))
      | (with_reducible refine t_inBlock ?_)
      | ((with_reducible refine t_isExit ?_); refine t_exit rfl ?_)
      | simp only [decide_eq_true_eq, decide_eq_false_iff_not, Bool.not_eq_true', Bool.not_eq_false'] at *
      | simp (disch := omega) only [go_sem, Nat.reduceLT, Nat.reduceEqDiff, Nat.reduceAdd, Nat.reduceLeDiff, Nat.reduceMul, Int.reduceLT, Int.reduceLE, Int.reduceAdd, Int.reduceSub, Int.reduceNeg, Int.reduceToNat, Int.reduceBEq, Int.reduceEq, reduceCtorEq, List.take_succ_cons, List.take_zero, List.take_nil, List.drop_succ_cons, List.drop_nil, List.cons_append, List.nil_append, List.set_cons_zero, List.set_cons_succ, ↓reduceIte, *]
      | (with_reducible refine tb_true ?_)
      | (with_reducible refine tb_false ?_)
      | (with_reducible refine tb_split (fun _ => ?_) (fun _ => ?_))
      | (with_reducible refine wg_f (fun _ => ?_) (fun _ => ?_))
      | (with_reducible refine wg_t (fun _ => ?_) (fun _ => ?_))
      | (with_reducible refine wd_f (fun _ => ?_) (fun _ => ?_))
      | (with_reducible refine wd_t (fun _ => ?_) (fun _ => ?_))
    all_goals first | (exfalso; omega) | exact ⟨rfl, rfl⟩
  have hn1 := hnb1 rfl
  have hn2b := hnb2 rfl
  clear hnb1 hnb2
  refine meetsP (E := (EW m)) 156 [.tmp 8] (ew m) Tryz.func8 rfl (by decide) rfl rfl (by simp) ?_
  repeat' first
    | ((with_reducible refine wr_isCall ?_); refine wr_lent hone rfl rfl rfl ?_)
    | ((with_reducible refine wr_isCall ?_); refine wr_P hct rfl ?_)
    | ((with_reducible refine wr_isCall ?_); refine wr_P hct2 rfl ?_)
    | ((with_reducible refine wr_isCall ?_); refine wr_P hn rfl ?_)
    | ((with_reducible refine wr_isCall ?_); refine wr_P hS rfl ?_)
    | ((with_reducible refine wr_isCall ?_); refine wr_P hC rfl ?_)
    | ((with_reducible refine wr_isCall ?_); refine wr_P hf (nn2 _) ?_)
    | ((with_reducible refine wr_isCall ?_); refine wr_P hNY (nn2 _) ?_)
    | ((with_reducible refine wr_isCall ?_); refine wr_P hS1 rfl ?_)
    | ((with_reducible refine wr_isCall ?_); refine wr_P hS2 rfl ?_)
    | (with_reducible refine t_seq ?_)
    | (with_reducible refine t_skip ?_)
    | (with_reducible refine t_ret ?_)
    | (with_reducible refine t_end ?_)
    | (with_reducible refine t_cond ?_)
    | (with_reducible refine t_region ?_)
    | (with_reducible refine wr_done ?_)
    | ((with_reducible refine t_isDraw ?_); refine t_draw rfl (by kernel_rfl) ?_)
    | (with_reducible refine WD.done _ ?_)
    | (with_reducible refine wdp_done ?_)
    | (with_reducible refine tr_some ?_)
    | ((fail_if_success with_reducible refine t_bl ?_); (with_reducible refine t_block ?_))
    | (with_reducible refine t_inBlock ?_)
    | ((with_reducible refine t_isExit ?_); refine t_exit rfl ?_)
    | simp only [decide_eq_true_eq, decide_eq_false_iff_not, Bool.not_eq_true', Bool.not_eq_false'] at *
    | simp (disch := omega) only [go_sem, Nat.reduceLT, Nat.reduceEqDiff, Nat.reduceAdd, Nat.reduceLeDiff, Nat.reduceMul, Int.reduceLT, Int.reduceLE, Int.reduceAdd, Int.reduceSub, Int.reduceNeg, Int.reduceToNat, Int.reduceBEq, Int.reduceEq, reduceCtorEq, List.take_succ_cons, List.take_zero, List.take_nil, List.drop_succ_cons, List.drop_nil, List.cons_append, List.nil_append, List.set_cons_zero, List.set_cons_succ, ↓reduceIte, *]
    | (with_reducible refine tb_true ?_)
    | (with_reducible refine tb_false ?_)
    | (with_reducible refine tb_split (fun _ => ?_) (fun _ => ?_))
    | (with_reducible refine wg_f (fun _ => ?_) (fun _ => ?_))
    | (with_reducible refine wg_t (fun _ => ?_) (fun _ => ?_))
    | (with_reducible refine wd_f (fun _ => ?_) (fun _ => ?_))
    | (with_reducible refine wd_t (fun _ => ?_) (fun _ => ?_))
  all_goals first | (exfalso; omega) | skip
  refine t_while (I := fun (i : Nat) t h => i ≤ l.length ∧ (∃ q, 3 ≤ q ∧ h = ⟨[(2, .rows 3 [[.i .i64 y, .i .i64 M, .i .i64 dd]]), (1, .rows 5 [[y1, y2, y3, y4, y5]]), (0, .rows 2 [[.s [97], .i .i64 1]])], q⟩) ∧ get t 3 = .i .i64 D ∧ get t 19 = .i .i64 X ∧ get t 12 = .s z ∧ get t 13 = .i .i64 n ∧ get t 20 = .s z1 ∧ get t 21 = .i .i64 n1 ∧ get t 22 = .s z2 ∧ get t 23 = .i .i64 n2' ∧ get t 116 = .isl false 2 R ∧ get t 117 = .i .i64 l.length ∧ get t 118 = .i .i64 i ∧ get t 25 = .i .i64 (BG i)) (m := fun i => l.length - i)
    (J := fun t h => get t 3 = .i .i64 D ∧ get t 19 = .i .i64 X ∧ get t 12 = .s z ∧ get t 13 = .i .i64 n ∧ get t 20 = .s z1 ∧ get t 21 = .i .i64 n1 ∧ get t 22 = .s z2 ∧ get t 23 = .i .i64 n2' ∧ get t 25 = .i .i64 (BG l.length)) 0
    ⟨by omega, ⟨3, by omega, rfl⟩, by simp [get], by simp [get], by simp [get], by simp [get], by simp [get], by simp [get], by simp [get], by simp [get], by simp [get], by simp [get, hlen], by simp [get], by simp [get, hb0]⟩ ?_ ?_
  · rintro i t h ⟨hi, ⟨q, hq, rfl⟩, g3, g19, g12, g13, g20, g21, g22, g23, g116, g117, g118, g25⟩ hrec hex
    have hq0 : ¬ q = 0 := by omega
    have hq1 : ¬ q = 1 := by omega
    have hq2 : ¬ q = 2 := by omega
    by_cases hi' : i < l.length
    · have hr := hrow i hi'
      have hb1 := hbs i
      have hb2 := hbg i
      generalize F i = Fi at *
      generalize BG i = Bi at *
      clear hrow hbs hbg hagree
      repeat' first
        | (with_reducible refine t_seq ?_)
        | (with_reducible refine t_skip ?_)
        | (with_reducible refine t_ret ?_)
        | (with_reducible refine t_end ?_)
        | (with_reducible refine t_cond ?_)
        | (with_reducible refine t_region ?_)
        | (with_reducible refine wr_done ?_)
        | ((with_reducible refine t_isDraw ?_); refine t_draw rfl (by kernel_rfl) ?_)
        | (with_reducible refine WD.done _ ?_)
        | (with_reducible refine wdp_done ?_)
        | (with_reducible refine tr_some ?_)
        | ((fail_if_success with_reducible refine t_bl ?_); (with_reducible refine t_block ?_))
        | (with_reducible refine t_inBlock ?_)
        | ((with_reducible refine t_isExit ?_); refine t_exit rfl ?_)
        | simp only [decide_eq_true_eq, decide_eq_false_iff_not, Bool.not_eq_true', Bool.not_eq_false'] at *
        | simp (disch := omega) only [go_sem, Nat.reduceLT, Nat.reduceEqDiff, Nat.reduceAdd, Nat.reduceLeDiff, Nat.reduceMul, Int.reduceLT, Int.reduceLE, Int.reduceAdd, Int.reduceSub, Int.reduceNeg, Int.reduceToNat, Int.reduceBEq, Int.reduceEq, reduceCtorEq, List.take_succ_cons, List.take_zero, List.take_nil, List.drop_succ_cons, List.drop_nil, List.cons_append, List.nil_append, List.set_cons_zero, List.set_cons_succ, ↓reduceIte, *]
        | (with_reducible refine tb_true ?_)
        | (with_reducible refine tb_false ?_)
        | (with_reducible refine tb_split (fun _ => ?_) (fun _ => ?_))
        | (with_reducible refine wg_f (fun _ => ?_) (fun _ => ?_))
        | (with_reducible refine wg_t (fun _ => ?_) (fun _ => ?_))
        | (with_reducible refine wd_f (fun _ => ?_) (fun _ => ?_))
        | (with_reducible refine wd_t (fun _ => ?_) (fun _ => ?_))
      all_goals first | (exfalso; omega) | skip
      all_goals refine t_pop ?_
      all_goals refine hrec (i + 1) _ _ ⟨by omega, ⟨q + 1, by omega, rfl⟩, by simp [get, g3], by simp [get, g19], by simp [get, g12], by simp [get, g13], by simp [get, g20], by simp [get, g21], by simp [get, g22], by simp [get, g23], by simp [get, g116], by simp [get, g117], by simp [get], ?_⟩ (by omega)
      all_goals first
        | (have e : BG (i + 1) = Bi + 1 := by rw [hb1, if_pos (by omega)]
           simp [get, g25, e]; done)
        | (have e : BG (i + 1) = Bi := by rw [hb1, if_neg (by omega), Int.add_zero]
           simp [get, g25, e]; done)
    · have hii : i = l.length := by omega
      rw [hii] at g25
      clear hrow hbs hbg hagree
      repeat' first
        | refine hex _ _ ?_
        | (with_reducible refine t_seq ?_)
        | (with_reducible refine t_skip ?_)
        | (with_reducible refine t_ret ?_)
        | (with_reducible refine t_end ?_)
        | (with_reducible refine t_cond ?_)
        | (with_reducible refine t_region ?_)
        | (with_reducible refine wr_done ?_)
        | ((with_reducible refine t_isDraw ?_); refine t_draw rfl (by kernel_rfl) ?_)
        | (with_reducible refine WD.done _ ?_)
        | (with_reducible refine wdp_done ?_)
        | (with_reducible refine tr_some ?_)
        | ((fail_if_success with_reducible refine t_bl ?_); (with_reducible refine t_block ?_))
        | (with_reducible refine t_inBlock ?_)
        | ((with_reducible refine t_isExit ?_); refine t_exit rfl ?_)
        | simp only [decide_eq_true_eq, decide_eq_false_iff_not, Bool.not_eq_true', Bool.not_eq_false'] at *
        | simp (disch := omega) only [go_sem, Nat.reduceLT, Nat.reduceEqDiff, Nat.reduceAdd, Nat.reduceLeDiff, Nat.reduceMul, Int.reduceLT, Int.reduceLE, Int.reduceAdd, Int.reduceSub, Int.reduceNeg, Int.reduceToNat, Int.reduceBEq, Int.reduceEq, reduceCtorEq, List.take_succ_cons, List.take_zero, List.take_nil, List.drop_succ_cons, List.drop_nil, List.cons_append, List.nil_append, List.set_cons_zero, List.set_cons_succ, ↓reduceIte, *]
        | (with_reducible refine tb_true ?_)
        | (with_reducible refine tb_false ?_)
        | (with_reducible refine tb_split (fun _ => ?_) (fun _ => ?_))
        | (with_reducible refine wg_f (fun _ => ?_) (fun _ => ?_))
        | (with_reducible refine wg_t (fun _ => ?_) (fun _ => ?_))
        | (with_reducible refine wd_f (fun _ => ?_) (fun _ => ?_))
        | (with_reducible refine wd_t (fun _ => ?_) (fun _ => ?_))
      all_goals first | (exfalso; omega) | simp [get, g3, g19, g12, g13, g20, g21, g22, g23, g25]
  · rintro t h ⟨g3, g19, g12, g13, g20, g21, g22, g23, g25⟩
    obtain ⟨hc, q⟩ := h
    have hbb := hbg l.length
    by_cases hbz : BG l.length = 0
    · obtain ⟨a1, a2, a3, a4⟩ := hagree hbz (by first | rfl | trivial) (by first | rfl | trivial)
      rw [hbz] at g25
      subst a1 a2 a3 a4
      clear hrow hbs hbg hagree
      repeat' first
        | (with_reducible refine t_seq ?_)
        | (with_reducible refine t_skip ?_)
        | (with_reducible refine t_ret ?_)
        | (with_reducible refine t_end ?_)
        | (with_reducible refine t_cond ?_)
        | (with_reducible refine t_region ?_)
        | (with_reducible refine wr_done ?_)
        | ((with_reducible refine t_isDraw ?_); refine t_draw rfl (by kernel_rfl) ?_)
        | (with_reducible refine WD.done _ ?_)
        | (with_reducible refine wdp_done ?_)
        | (with_reducible refine tr_some ?_)
        | ((fail_if_success with_reducible refine t_bl ?_); (with_reducible refine t_block ?_))
        | (with_reducible refine t_inBlock ?_)
        | ((with_reducible refine t_isExit ?_); refine t_exit rfl ?_)
        | simp only [decide_eq_true_eq, decide_eq_false_iff_not, Bool.not_eq_true', Bool.not_eq_false'] at *
        | simp (disch := omega) only [go_sem, Nat.reduceLT, Nat.reduceEqDiff, Nat.reduceAdd, Nat.reduceLeDiff, Nat.reduceMul, Int.reduceLT, Int.reduceLE, Int.reduceAdd, Int.reduceSub, Int.reduceNeg, Int.reduceToNat, Int.reduceBEq, Int.reduceEq, reduceCtorEq, List.take_succ_cons, List.take_zero, List.take_nil, List.drop_succ_cons, List.drop_nil, List.cons_append, List.nil_append, List.set_cons_zero, List.set_cons_succ, ↓reduceIte, *]
        | (with_reducible refine tb_true ?_)
        | (with_reducible refine tb_false ?_)
        | (with_reducible refine tb_split (fun _ => ?_) (fun _ => ?_))
        | (with_reducible refine wg_f (fun _ => ?_) (fun _ => ?_))
        | (with_reducible refine wg_t (fun _ => ?_) (fun _ => ?_))
        | (with_reducible refine wd_f (fun _ => ?_) (fun _ => ?_))
        | (with_reducible refine wd_t (fun _ => ?_) (fun _ => ?_))
      all_goals first | (exfalso; omega) | exact ⟨rfl, rfl⟩
    · have hbp : 0 < BG l.length := by omega
      clear hrow hbs hbg hagree
      repeat' first
        | (with_reducible refine t_seq ?_)
        | (with_reducible refine t_skip ?_)
        | (with_reducible refine t_ret ?_)
        | (with_reducible refine t_end ?_)
        | (with_reducible refine t_cond ?_)
        | (with_reducible refine t_region ?_)
        | (with_reducible refine wr_done ?_)
        | ((with_reducible refine t_isDraw ?_); refine t_draw rfl (by kernel_rfl) ?_)
        | (with_reducible refine WD.done _ ?_)
        | (with_reducible refine wdp_done ?_)
        | (with_reducible refine tr_some ?_)
        | ((fail_if_success with_reducible refine t_bl ?_); (with_reducible refine t_block ?_))
        | (with_reducible refine t_inBlock ?_)
        | ((with_reducible refine t_isExit ?_); refine t_exit rfl ?_)
        | simp only [decide_eq_true_eq, decide_eq_false_iff_not, Bool.not_eq_true', Bool.not_eq_false'] at *
        | simp (disch := omega) only [go_sem, Nat.reduceLT, Nat.reduceEqDiff, Nat.reduceAdd, Nat.reduceLeDiff, Nat.reduceMul, Int.reduceLT, Int.reduceLE, Int.reduceAdd, Int.reduceSub, Int.reduceNeg, Int.reduceToNat, Int.reduceBEq, Int.reduceEq, reduceCtorEq, List.take_succ_cons, List.take_zero, List.take_nil, List.drop_succ_cons, List.drop_nil, List.cons_append, List.nil_append, List.set_cons_zero, List.set_cons_succ, ↓reduceIte, *]
        | (with_reducible refine tb_true ?_)
        | (with_reducible refine tb_false ?_)
        | (with_reducible refine tb_split (fun _ => ?_) (fun _ => ?_))
        | (with_reducible refine wg_f (fun _ => ?_) (fun _ => ?_))
        | (with_reducible refine wg_t (fun _ => ?_) (fun _ => ?_))
        | (with_reducible refine wd_f (fun _ => ?_) (fun _ => ?_))
        | (with_reducible refine wd_t (fun _ => ?_) (fun _ => ?_))
      all_goals first | (exfalso; omega) | exact ⟨rfl, rfl⟩
end Go.Proofs.YtkokongbnemkhaaGreatDoorA
