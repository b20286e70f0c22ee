import Derived.Test.YtidjaahpabppaaaWWords
import Derived.Test.YtidjaahpabppaaaWMore
import Derived.Test.YtidjaahpabppaaaWNEv
set_option linter.unusedVariables false
/- What stays as it is, where memory was made or orders were drawn: short words for long texts. -/
namespace Go.Proofs.YtidjaahpabppaaaFar
open Go.RowKit Go.Proofs.YtidjaahpabppaaaW.PrintWords Go.Proofs.YtidjaahpabppaaaW.PrintLast Go.Proofs.YtidjaahpabppaaaW.PrintMore
/-- The block of an address. -/
class BlkOf (a : Addr) (b : Nat) : Prop where
  eq : a.block = b
instance blkOf1 (a : Addr) : BlkOf a a.block := ⟨rfl⟩
instance blkOf2 (a : Addr) (k : Nat) : BlkOf (a.add k) a.block := ⟨add_block a k⟩
instance blkOf3 (a : Addr) (k o : Nat) : BlkOf ⟨(a.add k).block, o, none⟩ a.block := ⟨add_block a k⟩
instance blkOf4 (a : Addr) (o : Nat) : BlkOf ⟨a.block, o, none⟩ a.block := ⟨rfl⟩
theorem far_ {W : World} {b : Nat} {a : Addr} {x : Value} (g i : Nat) (u : Value) (hn : b ≠ g) (e : W.cell? a = some x) [h : BlkOf a b] : (W.setCell ⟨g, i, none⟩ u).cell? a = some x :=
  (cell_far (p := ⟨g, i, none⟩) (by rw [h.eq]; exact hn) u).trans e
theorem setCell_drewN_ (W : World) (n : Nat) (p : Addr) (v : Value) : (W.drewN n).setCell p v = (W.setCell p v).drewN n := by
  unfold World.setCell World.drewN
  rfl
/-- Below all stays. -/
class Bel (W0 W : World) : Prop where
  b : Below W0.heap.size W0 W
instance bel0 (W : World) : Bel W W := ⟨Below.refl _ _⟩
instance bel1 (W0 W : World) (o : Obj) [h : Bel W0 W] : Bel W0 (W.alloc o) := ⟨below_alloc h.b o⟩
instance bel2 (W0 W : World) (n : Nat) [h : Bel W0 W] : Bel W0 (W.drewN n) := ⟨pw_below_drewN h.b n⟩
instance bel3 (W0 W : World) [h : Bel W0 W] : Bel W0 W.drew := ⟨below_drew h.b⟩
theorem heap_bel {W0 W : World} (h : Below W0.heap.size W0 W) {g : Nat} {o : Obj} (e : W0.heap[g]? = some o) : W.heap[g]? = some o :=
  (h.block g (Array.getElem?_eq_some_iff.1 e).1).trans e
theorem bb_ {W0 W W1 : World} {g : Nat} {o : Obj} (B : Aside0 (W0.heap[g]? = some o)) [h : Bel W0 W] (hb : Below W.heap.size W W1) : Aside0 (W1.heap[g]? = some o) := ⟨heap_bel hb (heap_bel h.b B.out)⟩
theorem lt_bel {W0 W : World} {g : Nat} {o : Obj} (h : Below W0.heap.size W0 W) (e : W0.heap[g]? = some o) : g < W.heap.size := (Array.getElem?_eq_some_iff.1 (heap_bel h e)).1
theorem bl_ {W0 W : World} {g q : Nat} {o : Obj} (B : Aside0 (W0.heap[g]? = some o)) [h : Bel W0 W] (hg : q = W.heap.size) : Aside0 (g ≠ q) := ⟨by rw [hg]; exact Nat.ne_of_lt (lt_bel h.b B.out)⟩
theorem bg_ {W0 W : World} {g q : Nat} {o : Obj} (B : Aside0 (W0.heap[g]? = some o)) [h : Bel W0 W] (hg : q = W.heap.size) : Aside0 (q ≠ g) := ⟨by rw [hg]; exact Nat.ne_of_gt (lt_bel h.b B.out)⟩
theorem rb_ {α : Type} {d : Kd α} {e base : Nat} {ok : Nat → Prop} {v : Value} {xs : List α} {W0 W W1 : World} (H : Aside0 (Kd.R d e W0 base ok v xs)) [h : Bel W0 W] (hb : Below W.heap.size W W1) : Aside0 (Kd.R d e W1 base ok v xs) := ⟨Kd.R_below (Kd.R_below H.out h.b) hb⟩
theorem hn_ {w : World} {g b : Nat} {a : Addr} {x : Value} (G : Aside0 (w.heap.size ≤ g)) (e : w.cell? a = some x) [h : BlkOf a b] : b ≠ g := by
  have := World.block_lt_of_cell? _ _ e
  rw [h.eq] at this
  exact Nat.ne_of_lt (Nat.lt_of_lt_of_le this G.out)
theorem bc_ {w W : World} {a : Addr} {x : Value} (H : Aside0 (Below w.heap.size w W)) (e : w.cell? a = some x) : W.cell? a = some x := (H.out.cell (World.block_lt_of_cell? w _ e)).trans e
theorem dr0 {W : World} {a : Addr} {x : Value} (h : W.cell? a = some x) : ∀ n, (W.drewN n).cell? a = some x := by
  intro n
  exact h
theorem dr1 {W : World} {a : Addr} {x : Value} {p0 : Addr} {v0 : Value} (h : (W.setCell p0 v0).cell? a = some x) : ∀ n, ((W.drewN n).setCell p0 v0).cell? a = some x := by
  intro n
  rw [setCell_drewN_, World.cell?_drewN]
  exact h
theorem dr2 {W : World} {a : Addr} {x : Value} {p0 p1 : Addr} {v0 v1 : Value} (h : ((W.setCell p0 v0).setCell p1 v1).cell? a = some x) : ∀ n, (((W.drewN n).setCell p0 v0).setCell p1 v1).cell? a = some x := by
  intro n
  rw [setCell_drewN_, setCell_drewN_, World.cell?_drewN]
  exact h
theorem dr3 {W : World} {a : Addr} {x : Value} {p0 p1 p2 : Addr} {v0 v1 v2 : Value} (h : (((W.setCell p0 v0).setCell p1 v1).setCell p2 v2).cell? a = some x) : ∀ n, ((((W.drewN n).setCell p0 v0).setCell p1 v1).setCell p2 v2).cell? a = some x := by
  intro n
  rw [setCell_drewN_, setCell_drewN_, setCell_drewN_, World.cell?_drewN]
  exact h
theorem dr4 {W : World} {a : Addr} {x : Value} {p0 p1 p2 p3 : Addr} {v0 v1 v2 v3 : Value} (h : ((((W.setCell p0 v0).setCell p1 v1).setCell p2 v2).setCell p3 v3).cell? a = some x) : ∀ n, (((((W.drewN n).setCell p0 v0).setCell p1 v1).setCell p2 v2).setCell p3 v3).cell? a = some x := by
  intro n
  rw [setCell_drewN_, setCell_drewN_, setCell_drewN_, setCell_drewN_, World.cell?_drewN]
  exact h
theorem dr5 {W : World} {a : Addr} {x : Value} {p0 p1 p2 p3 p4 : Addr} {v0 v1 v2 v3 v4 : Value} (h : (((((W.setCell p0 v0).setCell p1 v1).setCell p2 v2).setCell p3 v3).setCell p4 v4).cell? a = some x) : ∀ n, ((((((W.drewN n).setCell p0 v0).setCell p1 v1).setCell p2 v2).setCell p3 v3).setCell p4 v4).cell? a = some x := by
  intro n
  rw [setCell_drewN_, setCell_drewN_, setCell_drewN_, setCell_drewN_, setCell_drewN_, World.cell?_drewN]
  exact h
theorem dr6 {W : World} {a : Addr} {x : Value} {p0 p1 p2 p3 p4 p5 : Addr} {v0 v1 v2 v3 v4 v5 : Value} (h : ((((((W.setCell p0 v0).setCell p1 v1).setCell p2 v2).setCell p3 v3).setCell p4 v4).setCell p5 v5).cell? a = some x) : ∀ n, (((((((W.drewN n).setCell p0 v0).setCell p1 v1).setCell p2 v2).setCell p3 v3).setCell p4 v4).setCell p5 v5).cell? a = some x := by
  intro n
  rw [setCell_drewN_, setCell_drewN_, setCell_drewN_, setCell_drewN_, setCell_drewN_, setCell_drewN_, World.cell?_drewN]
  exact h
theorem dr7 {W : World} {a : Addr} {x : Value} {p0 p1 p2 p3 p4 p5 p6 : Addr} {v0 v1 v2 v3 v4 v5 v6 : Value} (h : (((((((W.setCell p0 v0).setCell p1 v1).setCell p2 v2).setCell p3 v3).setCell p4 v4).setCell p5 v5).setCell p6 v6).cell? a = some x) : ∀ n, ((((((((W.drewN n).setCell p0 v0).setCell p1 v1).setCell p2 v2).setCell p3 v3).setCell p4 v4).setCell p5 v5).setCell p6 v6).cell? a = some x := by
  intro n
  rw [setCell_drewN_, setCell_drewN_, setCell_drewN_, setCell_drewN_, setCell_drewN_, setCell_drewN_, setCell_drewN_, World.cell?_drewN]
  exact h
theorem dr8 {W : World} {a : Addr} {x : Value} {p0 p1 p2 p3 p4 p5 p6 p7 : Addr} {v0 v1 v2 v3 v4 v5 v6 v7 : Value} (h : ((((((((W.setCell p0 v0).setCell p1 v1).setCell p2 v2).setCell p3 v3).setCell p4 v4).setCell p5 v5).setCell p6 v6).setCell p7 v7).cell? a = some x) : ∀ n, (((((((((W.drewN n).setCell p0 v0).setCell p1 v1).setCell p2 v2).setCell p3 v3).setCell p4 v4).setCell p5 v5).setCell p6 v6).setCell p7 v7).cell? a = some x := by
  intro n
  rw [setCell_drewN_, setCell_drewN_, setCell_drewN_, setCell_drewN_, setCell_drewN_, setCell_drewN_, setCell_drewN_, setCell_drewN_, World.cell?_drewN]
  exact h
theorem dr9 {W : World} {a : Addr} {x : Value} {p0 p1 p2 p3 p4 p5 p6 p7 p8 : Addr} {v0 v1 v2 v3 v4 v5 v6 v7 v8 : Value} (h : (((((((((W.setCell p0 v0).setCell p1 v1).setCell p2 v2).setCell p3 v3).setCell p4 v4).setCell p5 v5).setCell p6 v6).setCell p7 v7).setCell p8 v8).cell? a = some x) : ∀ n, ((((((((((W.drewN n).setCell p0 v0).setCell p1 v1).setCell p2 v2).setCell p3 v3).setCell p4 v4).setCell p5 v5).setCell p6 v6).setCell p7 v7).setCell p8 v8).cell? a = some x := by
  intro n
  rw [setCell_drewN_, setCell_drewN_, setCell_drewN_, setCell_drewN_, setCell_drewN_, setCell_drewN_, setCell_drewN_, setCell_drewN_, setCell_drewN_, World.cell?_drewN]
  exact h
theorem dr10 {W : World} {a : Addr} {x : Value} {p0 p1 p2 p3 p4 p5 p6 p7 p8 p9 : Addr} {v0 v1 v2 v3 v4 v5 v6 v7 v8 v9 : Value} (h : ((((((((((W.setCell p0 v0).setCell p1 v1).setCell p2 v2).setCell p3 v3).setCell p4 v4).setCell p5 v5).setCell p6 v6).setCell p7 v7).setCell p8 v8).setCell p9 v9).cell? a = some x) : ∀ n, (((((((((((W.drewN n).setCell p0 v0).setCell p1 v1).setCell p2 v2).setCell p3 v3).setCell p4 v4).setCell p5 v5).setCell p6 v6).setCell p7 v7).setCell p8 v8).setCell p9 v9).cell? a = some x := by
  intro n
  rw [setCell_drewN_, setCell_drewN_, setCell_drewN_, setCell_drewN_, setCell_drewN_, setCell_drewN_, setCell_drewN_, setCell_drewN_, setCell_drewN_, setCell_drewN_, World.cell?_drewN]
  exact h
theorem dr11 {W : World} {a : Addr} {x : Value} {p0 p1 p2 p3 p4 p5 p6 p7 p8 p9 p10 : Addr} {v0 v1 v2 v3 v4 v5 v6 v7 v8 v9 v10 : Value} (h : (((((((((((W.setCell p0 v0).setCell p1 v1).setCell p2 v2).setCell p3 v3).setCell p4 v4).setCell p5 v5).setCell p6 v6).setCell p7 v7).setCell p8 v8).setCell p9 v9).setCell p10 v10).cell? a = some x) : ∀ n, ((((((((((((W.drewN n).setCell p0 v0).setCell p1 v1).setCell p2 v2).setCell p3 v3).setCell p4 v4).setCell p5 v5).setCell p6 v6).setCell p7 v7).setCell p8 v8).setCell p9 v9).setCell p10 v10).cell? a = some x := by
  intro n
  rw [setCell_drewN_, setCell_drewN_, setCell_drewN_, setCell_drewN_, setCell_drewN_, setCell_drewN_, setCell_drewN_, setCell_drewN_, setCell_drewN_, setCell_drewN_, setCell_drewN_, World.cell?_drewN]
  exact h
theorem dr12 {W : World} {a : Addr} {x : Value} {p0 p1 p2 p3 p4 p5 p6 p7 p8 p9 p10 p11 : Addr} {v0 v1 v2 v3 v4 v5 v6 v7 v8 v9 v10 v11 : Value} (h : ((((((((((((W.setCell p0 v0).setCell p1 v1).setCell p2 v2).setCell p3 v3).setCell p4 v4).setCell p5 v5).setCell p6 v6).setCell p7 v7).setCell p8 v8).setCell p9 v9).setCell p10 v10).setCell p11 v11).cell? a = some x) : ∀ n, (((((((((((((W.drewN n).setCell p0 v0).setCell p1 v1).setCell p2 v2).setCell p3 v3).setCell p4 v4).setCell p5 v5).setCell p6 v6).setCell p7 v7).setCell p8 v8).setCell p9 v9).setCell p10 v10).setCell p11 v11).cell? a = some x := by
  intro n
  rw [setCell_drewN_, setCell_drewN_, setCell_drewN_, setCell_drewN_, setCell_drewN_, setCell_drewN_, setCell_drewN_, setCell_drewN_, setCell_drewN_, setCell_drewN_, setCell_drewN_, setCell_drewN_, World.cell?_drewN]
  exact h
theorem far2_ {W : World} {b : Nat} {a : Addr} {x : Value} (g : Nat) (u0 u1 : Value) (hn : b ≠ g) (e : W.cell? a = some x) [h : BlkOf a b] : ((W.setCell ⟨g, 0, none⟩ u0).setCell ⟨g, 1, none⟩ u1).cell? a = some x := (far_ g 1 u1 hn (far_ g 0 u0 hn e))
theorem far3_ {W : World} {b : Nat} {a : Addr} {x : Value} (g : Nat) (u0 u1 u2 : Value) (hn : b ≠ g) (e : W.cell? a = some x) [h : BlkOf a b] : (((W.setCell ⟨g, 0, none⟩ u0).setCell ⟨g, 1, none⟩ u1).setCell ⟨g, 2, none⟩ u2).cell? a = some x := (far_ g 2 u2 hn (far_ g 1 u1 hn (far_ g 0 u0 hn e)))
theorem far4_ {W : World} {b : Nat} {a : Addr} {x : Value} (g : Nat) (u0 u1 u2 u3 : Value) (hn : b ≠ g) (e : W.cell? a = some x) [h : BlkOf a b] : ((((W.setCell ⟨g, 0, none⟩ u0).setCell ⟨g, 1, none⟩ u1).setCell ⟨g, 2, none⟩ u2).setCell ⟨g, 3, none⟩ u3).cell? a = some x := (far_ g 3 u3 hn (far_ g 2 u2 hn (far_ g 1 u1 hn (far_ g 0 u0 hn e))))
theorem far5_ {W : World} {b : Nat} {a : Addr} {x : Value} (g : Nat) (u0 u1 u2 u3 u4 : Value) (hn : b ≠ g) (e : W.cell? a = some x) [h : BlkOf a b] : (((((W.setCell ⟨g, 0, none⟩ u0).setCell ⟨g, 1, none⟩ u1).setCell ⟨g, 2, none⟩ u2).setCell ⟨g, 3, none⟩ u3).setCell ⟨g, 4, none⟩ u4).cell? a = some x := (far_ g 4 u4 hn (far_ g 3 u3 hn (far_ g 2 u2 hn (far_ g 1 u1 hn (far_ g 0 u0 hn e)))))
theorem far6_ {W : World} {b : Nat} {a : Addr} {x : Value} (g : Nat) (u0 u1 u2 u3 u4 u5 : Value) (hn : b ≠ g) (e : W.cell? a = some x) [h : BlkOf a b] : ((((((W.setCell ⟨g, 0, none⟩ u0).setCell ⟨g, 1, none⟩ u1).setCell ⟨g, 2, none⟩ u2).setCell ⟨g, 3, none⟩ u3).setCell ⟨g, 4, none⟩ u4).setCell ⟨g, 5, none⟩ u5).cell? a = some x := (far_ g 5 u5 hn (far_ g 4 u4 hn (far_ g 3 u3 hn (far_ g 2 u2 hn (far_ g 1 u1 hn (far_ g 0 u0 hn e))))))
theorem far7_ {W : World} {b : Nat} {a : Addr} {x : Value} (g : Nat) (u0 u1 u2 u3 u4 u5 u6 : Value) (hn : b ≠ g) (e : W.cell? a = some x) [h : BlkOf a b] : (((((((W.setCell ⟨g, 0, none⟩ u0).setCell ⟨g, 1, none⟩ u1).setCell ⟨g, 2, none⟩ u2).setCell ⟨g, 3, none⟩ u3).setCell ⟨g, 4, none⟩ u4).setCell ⟨g, 5, none⟩ u5).setCell ⟨g, 6, none⟩ u6).cell? a = some x := (far_ g 6 u6 hn (far_ g 5 u5 hn (far_ g 4 u4 hn (far_ g 3 u3 hn (far_ g 2 u2 hn (far_ g 1 u1 hn (far_ g 0 u0 hn e)))))))
theorem far8_ {W : World} {b : Nat} {a : Addr} {x : Value} (g : Nat) (u0 u1 u2 u3 u4 u5 u6 u7 : Value) (hn : b ≠ g) (e : W.cell? a = some x) [h : BlkOf a b] : ((((((((W.setCell ⟨g, 0, none⟩ u0).setCell ⟨g, 1, none⟩ u1).setCell ⟨g, 2, none⟩ u2).setCell ⟨g, 3, none⟩ u3).setCell ⟨g, 4, none⟩ u4).setCell ⟨g, 5, none⟩ u5).setCell ⟨g, 6, none⟩ u6).setCell ⟨g, 7, none⟩ u7).cell? a = some x := (far_ g 7 u7 hn (far_ g 6 u6 hn (far_ g 5 u5 hn (far_ g 4 u4 hn (far_ g 3 u3 hn (far_ g 2 u2 hn (far_ g 1 u1 hn (far_ g 0 u0 hn e))))))))
theorem far9_ {W : World} {b : Nat} {a : Addr} {x : Value} (g : Nat) (u0 u1 u2 u3 u4 u5 u6 u7 u8 : Value) (hn : b ≠ g) (e : W.cell? a = some x) [h : BlkOf a b] : (((((((((W.setCell ⟨g, 0, none⟩ u0).setCell ⟨g, 1, none⟩ u1).setCell ⟨g, 2, none⟩ u2).setCell ⟨g, 3, none⟩ u3).setCell ⟨g, 4, none⟩ u4).setCell ⟨g, 5, none⟩ u5).setCell ⟨g, 6, none⟩ u6).setCell ⟨g, 7, none⟩ u7).setCell ⟨g, 8, none⟩ u8).cell? a = some x := (far_ g 8 u8 hn (far_ g 7 u7 hn (far_ g 6 u6 hn (far_ g 5 u5 hn (far_ g 4 u4 hn (far_ g 3 u3 hn (far_ g 2 u2 hn (far_ g 1 u1 hn (far_ g 0 u0 hn e)))))))))
theorem far10_ {W : World} {b : Nat} {a : Addr} {x : Value} (g : Nat) (u0 u1 u2 u3 u4 u5 u6 u7 u8 u9 : Value) (hn : b ≠ g) (e : W.cell? a = some x) [h : BlkOf a b] : ((((((((((W.setCell ⟨g, 0, none⟩ u0).setCell ⟨g, 1, none⟩ u1).setCell ⟨g, 2, none⟩ u2).setCell ⟨g, 3, none⟩ u3).setCell ⟨g, 4, none⟩ u4).setCell ⟨g, 5, none⟩ u5).setCell ⟨g, 6, none⟩ u6).setCell ⟨g, 7, none⟩ u7).setCell ⟨g, 8, none⟩ u8).setCell ⟨g, 9, none⟩ u9).cell? a = some x := (far_ g 9 u9 hn (far_ g 8 u8 hn (far_ g 7 u7 hn (far_ g 6 u6 hn (far_ g 5 u5 hn (far_ g 4 u4 hn (far_ g 3 u3 hn (far_ g 2 u2 hn (far_ g 1 u1 hn (far_ g 0 u0 hn e))))))))))
theorem far11_ {W : World} {b : Nat} {a : Addr} {x : Value} (g : Nat) (u0 u1 u2 u3 u4 u5 u6 u7 u8 u9 u10 : Value) (hn : b ≠ g) (e : W.cell? a = some x) [h : BlkOf a b] : (((((((((((W.setCell ⟨g, 0, none⟩ u0).setCell ⟨g, 1, none⟩ u1).setCell ⟨g, 2, none⟩ u2).setCell ⟨g, 3, none⟩ u3).setCell ⟨g, 4, none⟩ u4).setCell ⟨g, 5, none⟩ u5).setCell ⟨g, 6, none⟩ u6).setCell ⟨g, 7, none⟩ u7).setCell ⟨g, 8, none⟩ u8).setCell ⟨g, 9, none⟩ u9).setCell ⟨g, 10, none⟩ u10).cell? a = some x := (far_ g 10 u10 hn (far_ g 9 u9 hn (far_ g 8 u8 hn (far_ g 7 u7 hn (far_ g 6 u6 hn (far_ g 5 u5 hn (far_ g 4 u4 hn (far_ g 3 u3 hn (far_ g 2 u2 hn (far_ g 1 u1 hn (far_ g 0 u0 hn e)))))))))))
theorem far12_ {W : World} {b : Nat} {a : Addr} {x : Value} (g : Nat) (u0 u1 u2 u3 u4 u5 u6 u7 u8 u9 u10 u11 : Value) (hn : b ≠ g) (e : W.cell? a = some x) [h : BlkOf a b] : ((((((((((((W.setCell ⟨g, 0, none⟩ u0).setCell ⟨g, 1, none⟩ u1).setCell ⟨g, 2, none⟩ u2).setCell ⟨g, 3, none⟩ u3).setCell ⟨g, 4, none⟩ u4).setCell ⟨g, 5, none⟩ u5).setCell ⟨g, 6, none⟩ u6).setCell ⟨g, 7, none⟩ u7).setCell ⟨g, 8, none⟩ u8).setCell ⟨g, 9, none⟩ u9).setCell ⟨g, 10, none⟩ u10).setCell ⟨g, 11, none⟩ u11).cell? a = some x := (far_ g 11 u11 hn (far_ g 10 u10 hn (far_ g 9 u9 hn (far_ g 8 u8 hn (far_ g 7 u7 hn (far_ g 6 u6 hn (far_ g 5 u5 hn (far_ g 4 u4 hn (far_ g 3 u3 hn (far_ g 2 u2 hn (far_ g 1 u1 hn (far_ g 0 u0 hn e))))))))))))
theorem p_n {B : Nat} {w W : World} (h : Below B w W) (n : Nat) : Below B w (W.drewN n) := pw_below_drewN h n
theorem p_s {w W : World} {g j : Nat} {v : Value} (h : Below w.heap.size w W) (hg : w.heap.size ≤ g) : Below w.heap.size w (W.setCell ⟨g, j, none⟩ v) := below_set h hg
theorem p_1 {base : Nat} {w W : World} (h : Below base w W) : Below base w W.drew := below_drew1 h
theorem p_a {w W : World} (h : Below w.heap.size w W) (o : Obj) : Below w.heap.size w (W.alloc o) := below_alloc h o
theorem q_c {w : World} {g : Nat} {t : TypeId} {cs : Array Value} (h : w.heap[g]? = some (.cells cs t (0, 0))) (i : Nat) : w.cell? ⟨g, i, none⟩ = cs[i]? := blk_cell h i
theorem q_f {w : World} {g : Nat} {t : TypeId} {cs : Array Value} (h : w.heap[g]? = some (.cells cs t (0, 0))) (i : Nat) : w.frozen? ⟨g, i, none⟩ = false := blk_frozen h i
theorem q_a {w : World} {g : Nat} {o : Obj} (h : w.heap[g]? = some o) (o' : Obj) : (w.alloc o').heap[g]? = some o := blk_alloc h o'
theorem q_d {w : World} {g : Nat} {o : Obj} (h : w.heap[g]? = some o) : w.drew.heap[g]? = some o := h
theorem q_n {w : World} {g : Nat} {o : Obj} (h : w.heap[g]? = some o) (n : Nat) : (w.drewN n).heap[g]? = some o := h
theorem b_f {α : Type} [BEq α] [LawfulBEq α] {a b : α} (h : a ≠ b) : (a == b) = false := beq_eq_false_iff_ne.mpr h
theorem b_t {α : Type} [BEq α] [LawfulBEq α] {a b : α} (h : a ≠ b) : (a != b) = true := bne_iff_ne.mpr h
theorem o_s {α β : Type} {o : Option α} {f : α → Option β} {b : β} (h : o.bind f = some b) : ∃ a, o = some a ∧ f a = some b := Option.bind_eq_some_iff.mp h
theorem c_a {α : Type} {d : Kd α} {w : World} {xs : List α} {A : Option Addr} {n : Nat} (h : d.C w A n xs) (o : Obj) : d.C (w.alloc o) A n xs := Kd.C_alloc h o
theorem c_n {α : Type} {d : Kd α} {w : World} {xs : List α} {A : Option Addr} {n : Nat} (h : d.C w A n xs) (m : Nat) : d.C (w.drewN m) A n xs := Kd.C_drewN h m
theorem c_d {α : Type} {d : Kd α} {w : World} {xs : List α} {A : Option Addr} {n : Nat} (h : d.C w A n xs) : d.C w.drew A n xs := Kd.C_drew h
end Go.Proofs.YtidjaahpabppaaaFar
