/- Chapter 23: Plan: what it answers, for any mean, bound and sizes (at most 200 sizes). -/
import Derived.Test.YtacoekniljimoaaDoorIT
import Derived.RangeFuncNested
import Derived.Shelf.Abstract
import Derived.Test.YtacoekniljimoaaDoorRD
namespace Go.Proofs.YtacoekniljimoaaDoor.Res
open Go.RowKit Go.Proofs.YtacoekniljimoaaDoorW.PrintWords Go.Proofs.YtacoekniljimoaaDoorW.PrintLast Go.Proofs.YtacoekniljimoaaDoorW.PrintMore
attribute [local go_sem] max2_int min2_int max_two min_two
attribute [local go_sem] Oper.semAt_some
set_option linter.unusedVariables false
set_option linter.unusedSimpArgs false
theorem Boxed.below_ {w w' : World} {B : Nat} {t : TypeId} {v : Value} (h : Boxed w B t v) (hb : Below w.heap.size w w') : Boxed w' B t v := (hb.block B h.lt).trans h
/-- The three boxes of Plan's results. -/
structure Box3 (W : World) (N : Nat) (v u : Value) (e : Int) : Prop where
  a : Boxed W N 23 v
  b : Boxed W (N + 1) 23 u
  c : Boxed W (N + 1 + 1) 25 (.int .i64 e)
theorem Box3.new (w : World) : Box3 (((w.alloc (.cells #[.slice none 0 0] 23)).alloc (.cells #[.slice none 0 0] 23)).alloc (.cells #[.int .i64 0] 25)) w.heap.size (.slice none 0 0) (.slice none 0 0) 0 := by
  have b0 := Boxed.new w 23 (.slice none 0 0)
  have b1 := Boxed.new (w.alloc (.cells #[.slice none 0 0] 23)) 23 (.slice none 0 0)
  have b2 := Boxed.new ((w.alloc (.cells #[.slice none 0 0] 23)).alloc (.cells #[.slice none 0 0] 23)) 25 (.int .i64 0)
  simp only [World.size_alloc] at b0 b1 b2
  exact ⟨(b0.alloc _).alloc _, b1.alloc _, b2⟩
theorem Box3.setc {w : World} {N : Nat} {v u : Value} {e : Int} (h : Box3 w N v u e) (e' : Int) : Box3 (w.setCell ⟨N + 1 + 1, 0, none⟩ (.int .i64 e')) N v u e' := ⟨h.a.other (by omega) _, h.b.other (by omega) _, h.c.set _⟩
theorem Box3.seta {w : World} {N : Nat} {v u : Value} {e : Int} (h : Box3 w N v u e) (v' : Value) : Box3 (w.setCell ⟨N, 0, none⟩ v') N v' u e := ⟨h.a.set _, h.b.other (by omega) _, h.c.other (by omega) _⟩
theorem Box3.setb {w : World} {N : Nat} {v u : Value} {e : Int} (h : Box3 w N v u e) (u' : Value) : Box3 (w.setCell ⟨N + 1, 0, none⟩ u') N v u' e := ⟨h.a.other (by omega) _, h.b.set _, h.c.other (by omega) _⟩
theorem Box3.below {w w' : World} {N : Nat} {v u : Value} {e : Int} (h : Box3 w N v u e) (hb : Below w.heap.size w w') : Box3 w' N v u e := ⟨Boxed.below_ h.a hb, Boxed.below_ h.b hb, Boxed.below_ h.c hb⟩
theorem below3 (w : World) (o o' o'' : Obj) : Below w.heap.size w (((w.alloc o).alloc o').alloc o'') := (((Below.refl _ w).alloc (Nat.le_refl _) _).alloc (by simp) _).alloc (by simp; omega) _
theorem planned_any (p : Nat) (A : Option Addr) (n c : Nat) (w : World) : Calls Tryd.prog 36 #[.pointer (some ⟨p, 0, none⟩), .slice A n c] w fun e w' =>
    e = .returned (.func (.func 40) #[] #[.pointer (some ⟨w.heap.size, 0, none⟩), .pointer (some ⟨w.heap.size + 1, 0, none⟩)]) ∧ w' = (w.alloc (.cells #[.pointer (some ⟨p, 0, none⟩)] 32)).alloc (.cells #[.slice A n c] 23) := by
  go_enter Tryd.func36, Tryd.ntmps36
  go_wp2
  go_ret
  exact ⟨rfl, rfl⟩
set_option maxRecDepth 100000 in
set_option maxHeartbeats 4000000 in
theorem plan_bad (m b : Int) (A : Option Addr) (n c : Nat) (w : World) (hL : Lim w) (h : ¬ okR m b) :
    Calls Tryd.prog 11 #[.int .i64 m, .int .i64 b, .slice A n c] w fun e w' => e = .returned (.tuple #[.slice none 0 0, .slice none 0 0, .int .i64 6]) ∧ Below w.heap.size w w' := by
  have HL := Aside0.mk hL
  have HOK := Aside0.mk h
  clear hL h
  go_enter Tryd.func11, Tryd.ntmps11
  go_wp2_with (go_at_call 16; refine (new_no m b _ (((HL.out.below' (below_alloc (Below.refl _ _) _)).below' (below_alloc (Below.refl _ _) _)).below' (below_alloc (Below.refl _ _) _)) HOK.out).mono ?_; rintro e w1 ⟨rfl, hb⟩; have hb3 := (Box3.new w).below hb; have HB3 := Aside0.mk hb3; have HB := Aside0.mk (below_step (below3 _ _ _ _) hb); have c1 := hb3.a.cell; have c2 := hb3.b.cell; have c3 := hb3.c.cell; have f1 := hb3.a.frozen; have f2 := hb3.b.frozen; have f3 := hb3.c.frozen; clear hb hb3)
  obtain ⟨N, hN⟩ : ∃ N, N = w.heap.size := ⟨_, rfl⟩
  have hx : Box3 (w1.setCell ⟨w.heap.size + 1 + 1, 0, none⟩ (.int .i64 6)) N (.slice none 0 0) (.slice none 0 0) 6 := by rw [hN]; exact HB3.out.setc 6
  have hB : Below w.heap.size w (w1.setCell ⟨w.heap.size + 1 + 1, 0, none⟩ (.int .i64 6)) := HB.out.setCell (by simp; omega) _
  obtain ⟨W2, hW2⟩ : ∃ W2, W2 = w1.setCell ⟨w.heap.size + 1 + 1, 0, none⟩ (.int .i64 6) := ⟨_, rfl⟩
  rw [← hW2] at hx hB ⊢
  clear c1 c2 c3 f1 f2 f3 hW2
  have HN := Aside0.mk hN
  rw [← hN] at hB ⊢
  have HX := Aside0.mk hx
  have HB2 := Aside0.mk hB
  have c1 := hx.a.cell
  have c2 := hx.b.cell
  have c3 := hx.c.cell
  have f1 := hx.a.frozen
  have f2 := hx.b.frozen
  have f3 := hx.c.frozen
  have s2 := (hx.seta (.slice none 0 0)).b.cell
  have s3 := (hx.seta (.slice none 0 0)).c.cell
  have r2 := (hx.seta (.slice none 0 0)).b.frozen
  have r3 := (hx.seta (.slice none 0 0)).c.frozen
  have q3 := ((hx.seta (.slice none 0 0)).setb (.slice none 0 0)).c.cell
  have w3 := ((hx.seta (.slice none 0 0)).setb (.slice none 0 0)).c.frozen
  have z3 := (((hx.seta (.slice none 0 0)).setb (.slice none 0 0)).setc 6).c.cell
  have z2 := (((hx.seta (.slice none 0 0)).setb (.slice none 0 0)).setc 6).b.cell
  have z1 := (((hx.seta (.slice none 0 0)).setb (.slice none 0 0)).setc 6).a.cell
  clear hN hx hB HB HB3 HL
  go_region_held3 (fun w' => w'.cell? ⟨N + 1 + 1, 0, none⟩ = some (.int .i64 6)) (go_keep) (fail)
  go_wp2_with fail
  refine bodyPost_ret (v := .tuple #[.slice none 0 0, .slice none 0 0, .int .i64 6]) (by simp [results, Tryd.results11, go_sem, z1, z2, z3]) rfl ⟨rfl, ?_⟩
  rw [← HN.out]
  exact pw_below_drewN (((HB2.out.setCell (p := ⟨N, 0, none⟩) (Nat.le_refl _) _).setCell (p := ⟨N + 1, 0, none⟩) (by show N ≤ N + 1; omega) _).setCell (p := ⟨N + 1 + 1, 0, none⟩) (by show N ≤ N + 1 + 1; omega) _) 1
theorem notCells {W : World} {k : Nat} {row : Option Nat} {c : Array Value} {t : TypeId} {f : Nat × Nat} (h : W.heap[k]? = some (.cells c t f)) (hrow : ∀ r, row = some r → ∃ o : Obj, W.heap[r]? = some o ∧ o.isCells = false) : some k ≠ row := by
  intro e
  obtain ⟨o, ho, hc⟩ := hrow k e.symm
  rw [h] at ho
  cases ho
  cases hc
theorem Box3.grown {W W' : World} {N : Nat} {v u : Value} {e : Int} {row : Option Nat} (h : Box3 W N v u e) (hg : W.grownBy W' row) (hrow : ∀ r, row = some r → ∃ o : Obj, W.heap[r]? = some o ∧ o.isCells = false) : Box3 W' N v u e :=
  ⟨h.a.kept hg (notCells h.a hrow), h.b.kept hg (notCells h.b hrow), h.c.kept hg (notCells h.c hrow)⟩
theorem Box3.upd {W W' : World} {N p : Nat} {v u : Value} {e : Int} (h : Box3 W N v u e) (hu : Upd p W W') (hp : N + 3 ≤ p) : Box3 W' N v u e :=
  ⟨upd_heap hu h.a (by omega), upd_heap hu h.b (by omega), upd_heap hu h.c (by omega)⟩
theorem R_grown' {W W' : World} {B : Nat} {v u : Value} {xs : List Int} {row : Option Nat} (h : Kd.R (Kd.int .i64) 3 W B (fun k => some k ≠ u.ownBlock) v xs) (hg : W.grownBy W' row) (hrow : ∀ r, row = some r → ∃ o : Obj, W.heap[r]? = some o ∧ o.isCells = false) : Kd.R (Kd.int .i64) 3 W' B (fun k => some k ≠ u.ownBlock) v xs :=
  Kd.R_mono (Kd.R_step (Kd.R_bound h) (fun k hk hlt => by
    obtain ⟨q, _, cs, hcs⟩ := hk.2.2.2
    exact hg.block k hlt (notCells hcs hrow))) (fun k hk => hk.1)
theorem Two.own {W W' : World} {B : Nat} {v u : Value} {xs ys : List Int} {row : Option Nat} (h : Two W B v xs u ys) (hg : W.grownBy W' row) (hrow : ∀ r, row = some r → ∃ o : Obj, W.heap[r]? = some o ∧ o.isCells = false) : Two W' B v xs u ys :=
  ⟨R_grown' h.a hg hrow, R_grown' h.b hg hrow⟩
/-- What holds in Plan's loop behind the frames of pre. -/
structure PlI (w : World) (N B : Nat) (m b : Int) (xs : List Int) (pre : List Nat) (W : World) : Prop where
  ex : ∃ v u, Box3 W N v u 0 ∧ Two W B v (pre.map (lv m b xs)) u (pre.map (pd m b xs))
  bel : Below w.heap.size w W
  sz : B ≤ W.heap.size
  ok : ∀ y ∈ pre, er m b xs y = 0
theorem PlI.upd {w : World} {N B p : Nat} {m b : Int} {xs : List Int} (hp : N + 3 ≤ p) (hw : w.heap.size ≤ p) (hB : p < B) : UpdClosed p (PlI w N B m b xs) := by
  rintro pre X Y ⟨⟨v, u, h1, h2⟩, h3, h4, h5⟩ hu
  exact ⟨⟨v, u, h1.upd hu hp, h2.upd hu hB⟩, Upd.below h3 hw (Nat.le_refl _) hu, Nat.le_trans h4 hu.size, h5⟩
theorem below_grown' {w W W' : World} {B : Nat} {row : Option Nat} (h : Below w.heap.size w W) (hg : W.grownBy W' row) (hB : w.heap.size ≤ B) (hr : ∀ r, row = some r → B ≤ r) : Below w.heap.size w W' :=
  h.grown hg h.size (fun k e => Nat.le_trans hB (hr k e))
theorem PlI.own {w : World} {N B D : Nat} {m b : Int} {xs : List Int} (hD : w.heap.size ≤ D) : OwnFrom D (PlI w N B m b xs) := by
  rintro pre X Y row ⟨⟨v, u, h1, h2⟩, h3, h4, h5⟩ hg hr
  exact ⟨⟨v, u, h1.grown hg (fun r e => (hr r e).2), h2.own hg (fun r e => (hr r e).2)⟩, below_grown' h3 hg hD (fun r e => (hr r e).1), Nat.le_trans h4 hg.size, h5⟩
/-- What holds where Plan's loop is left by an error. -/
structure PlX (w : World) (N : Nat) (m b : Int) (xs : List Int) (c : Code) (pre : List Nat) (W : World) : Prop where
  ret : c = .ret
  ex : ∃ pre' x, pre = pre' ++ [x] ∧ (∀ y ∈ pre', er m b xs y = 0) ∧ er m b xs x ≠ 0 ∧ Box3 W N (.slice none 0 0) (.slice none 0 0) (er m b xs x)
  bel : Below w.heap.size w W
theorem PlX.own {w : World} {N D : Nat} {m b : Int} {xs : List Int} (hD : w.heap.size ≤ D) (c : Code) : OwnFrom D (PlX w N m b xs c) := by
  rintro pre X Y row ⟨h0, ⟨pre', x, h1, h2, h3, h4⟩, h5⟩ hg hr
  exact ⟨h0, ⟨pre', x, h1, h2, h3, h4.grown hg (fun r e => (hr r e).2)⟩, below_grown' h5 hg hD (fun r e => (hr r e).1)⟩
/-- The frame's box. -/
structure FrBox (W : World) (f : Nat) (m b : Int) (xs : List Int) (x : Nat) : Prop where
  blk : W.heap[f]? = some (.cells #[.int .i64 (lv m b xs x), .int .i64 (pd m b xs x), .int .i64 (er m b xs x)] 64 (0, 0))
theorem FrBox.c0 {W : World} {f : Nat} {m b : Int} {xs : List Int} {x : Nat} (h : FrBox W f m b xs x) : W.cell? ⟨f, 0, none⟩ = some (.int .i64 (lv m b xs x)) := by simp [World.cell?, h.blk]
theorem FrBox.c1 {W : World} {f : Nat} {m b : Int} {xs : List Int} {x : Nat} (h : FrBox W f m b xs x) : W.cell? ⟨f, 1, none⟩ = some (.int .i64 (pd m b xs x)) := by simp [World.cell?, h.blk]
theorem FrBox.c2 {W : World} {f : Nat} {m b : Int} {xs : List Int} {x : Nat} (h : FrBox W f m b xs x) : W.cell? ⟨f, 2, none⟩ = some (.int .i64 (er m b xs x)) := by simp [World.cell?, h.blk]
/-- What holds in the midst of the region that appends to both rows. -/
structure RS (K : Nat → Prop) (w W : World) (N B f : Nat) (m b : Int) (xs : List Int) (x : Nat) (v u v' : Value) (ys : List Int) (u' : Value) (zs : List Int) (X : World) : Prop where
  box : Box3 X N v u 0
  fr : FrBox X f m b xs x
  two : Two X B v' ys u' zs
  bel : Below w.heap.size w X
  ko : KeepsOthers W X
  sz : W.heap.size ≤ X.heap.size
  hB : B ≤ W.heap.size
  hN : N + 3 ≤ B
  hw : w.heap.size ≤ B
  kp : ∀ k, K k → X.heap[k]? = W.heap[k]?
  hK : ∀ k, K k → k < B
section
variable {K : Nat → Prop} {w W X X1 : World} {N B f x : Nat} {m b : Int} {xs : List Int} {v u v' u' v1 u1 : Value} {ys zs ys1 zs1 : List Int}
theorem RS.alloc (h : RS K w W N B f m b xs x v u v' ys u' zs X) (o : Obj) : RS K w W N B f m b xs x v u v' ys u' zs (X.alloc o) := by
  have hb : Below X.heap.size X (X.alloc o) := below_alloc (Below.refl _ _) _
  exact ⟨h.box.below hb, ⟨(Below.heap_alloc _ _ _ (Array.getElem?_eq_some_iff.1 h.fr.blk).1).trans h.fr.blk⟩, h.two.below hb, below_step h.bel hb, h.ko.trans (KeepsOthers.alloc _ _), Nat.le_trans h.sz hb.size, h.hB, h.hN, h.hw,
    fun k hk => (Below.heap_alloc _ _ _ (by have := h.hK k hk; have := h.hB; have := h.sz; omega)).trans (h.kp k hk), h.hK⟩
theorem own_le {W : World} {B : Nat} {ok : Nat → Prop} {v : Value} {xs : List Int} (h : Kd.R (Kd.int .i64) 3 W B ok v xs) {k : Nat} (hk : v.ownBlock = some k) : B ≤ k ∧ k < W.heap.size ∧ ∃ cells, W.heap[k]? = some (.cells cells 3 (0, 0)) := by
  have := (Kd.R_bound h).1 k hk
  obtain ⟨h1, h2, h3, q, hq, cs, hcs⟩ := this
  have e : q = 3 := by simpa [Kd.int, Kd.scalar] using hq
  subst e
  exact ⟨h2, h3, cs, hcs⟩
theorem RS.appA (h : RS K w W N B f m b xs x v u v' ys u' zs X) (h1 : Kd.R (Kd.int .i64) 3 X1 B (fun k => some k ≠ u'.ownBlock) v1 ys1) (hg : X.grownBy X1 v'.ownBlock) (hat : v1.ownBlock = v'.ownBlock ∨ ∃ b, v1.ownBlock = some b ∧ X.heap.size ≤ b) :
    RS K w W N B f m b xs x v u v1 ys1 u' zs X1 := by
  have hne : ∀ k, k < B → some k ≠ v'.ownBlock := fun k hk e => by have := (own_le h.two.a e.symm).1; omega
  have hN := h.hN
  have hf : some f ≠ v'.ownBlock := fun e => by
    obtain ⟨cs, hcs⟩ := (own_le h.two.a e.symm).2.2
    rw [h.fr.blk] at hcs
    simp at hcs
  refine ⟨⟨h.box.a.kept hg (hne _ (by omega)), h.box.b.kept hg (hne _ (by omega)), h.box.c.kept hg (hne _ (by omega))⟩, ⟨(hg.block f (Array.getElem?_eq_some_iff.1 h.fr.blk).1 hf).trans h.fr.blk⟩, h.two.grown h1 hg hat,
    h.bel.grown hg h.bel.size (fun k e => by have := (own_le h.two.a e).1; have := h.hw; omega), h.ko.trans ⟨hg.size, fun k o hk ho => ?_⟩, Nat.le_trans h.sz hg.size, h.hB, h.hN, h.hw, fun k hk => (hg.block k (by have := h.hK k hk; have := h.hB; have := h.sz; omega) (hne k (h.hK k hk))).trans (h.kp k hk), h.hK⟩
  refine (hg.block k (Array.getElem?_eq_some_iff.1 hk).1 (fun e => ?_)).trans hk
  obtain ⟨cs, hcs⟩ := (own_le h.two.a e.symm).2.2
  rw [hk] at hcs
  cases hcs
  cases ho
theorem RS.appB (h : RS K w W N B f m b xs x v u v' ys u' zs X) (h1 : Kd.R (Kd.int .i64) 3 X1 B (fun k => some k ≠ v'.ownBlock) u1 zs1) (hg : X.grownBy X1 u'.ownBlock) (hat : u1.ownBlock = u'.ownBlock ∨ ∃ b, u1.ownBlock = some b ∧ X.heap.size ≤ b) :
    RS K w W N B f m b xs x v u v' ys u1 zs1 X1 := by
  have hne : ∀ k, k < B → some k ≠ u'.ownBlock := fun k hk e => by have := (own_le h.two.b e.symm).1; omega
  have hN := h.hN
  have hf : some f ≠ u'.ownBlock := fun e => by
    obtain ⟨cs, hcs⟩ := (own_le h.two.b e.symm).2.2
    rw [h.fr.blk] at hcs
    simp at hcs
  refine ⟨⟨h.box.a.kept hg (hne _ (by omega)), h.box.b.kept hg (hne _ (by omega)), h.box.c.kept hg (hne _ (by omega))⟩, ⟨(hg.block f (Array.getElem?_eq_some_iff.1 h.fr.blk).1 hf).trans h.fr.blk⟩, (h.two.symm.grown h1 hg hat).symm,
    h.bel.grown hg h.bel.size (fun k e => by have := (own_le h.two.b e).1; have := h.hw; omega), h.ko.trans ⟨hg.size, fun k o hk ho => ?_⟩, Nat.le_trans h.sz hg.size, h.hB, h.hN, h.hw, fun k hk => (hg.block k (by have := h.hK k hk; have := h.hB; have := h.sz; omega) (hne k (h.hK k hk))).trans (h.kp k hk), h.hK⟩
  refine (hg.block k (Array.getElem?_eq_some_iff.1 hk).1 (fun e => ?_)).trans hk
  obtain ⟨cs, hcs⟩ := (own_le h.two.b e.symm).2.2
  rw [hk] at hcs
  cases hcs
  cases ho
/-- A literal that the region has laid reads behind an append to a row that lay there before. -/
theorem lit_kept {g : Nat} {y : Value} (hy : X.cell? ⟨g, 0, none⟩ = some y) (hg : X.grownBy X1 v'.ownBlock) (hv : ∀ k, v'.ownBlock = some k → k < W.heap.size) (h : W.heap.size ≤ g) : X1.cell? ⟨g, 0, none⟩ = some y :=
  cell_grown hg hy (fun e => by have := hv g e.symm; omega)
end
theorem plan_first {m b : Int} {xs : List Int} {n x : Nat} {pre : List Nat} (h : pre ++ [x] <+: List.range n) (h1 : ∀ y ∈ pre, er m b xs y = 0) (h2 : er m b xs x ≠ 0) : eTo m b xs n = er m b xs x := by
  have hl := h.length_le
  simp only [List.length_append, List.length_cons, List.length_nil, List.length_range] at hl
  have e := List.prefix_iff_eq_take.1 h
  simp only [List.length_append, List.length_cons, List.length_nil, List.take_range] at e
  rw [Nat.min_eq_left (by omega), Nat.zero_add, List.range_succ] at e
  obtain ⟨e1, e2⟩ := List.append_inj' e rfl
  have ex : x = pre.length := by simpa using e2
  rw [ex] at h2 ⊢
  refine eTo_first (eTo_zero _ (fun k hk => h1 k ?_)) h2 (by omega)
  rw [e1]
  exact List.mem_range.2 hk
/-- The values that the iterator tells, as the law of the loop wants them. -/
theorem plan_seq {w W5 : World} {p B1 B2 : Nat} {A : Option Addr} {n c : Nat} {m b : Int} {xs : List Int} (hn : xs.length = n) (hr : Kd.C (Kd.int .i64) w A n xs) (hc : n ≤ c) (hl : n ≤ 200) (hI : ItOk w W5 p B1 B2 A n c m b 0) (hs : w.heap.size ≤ W5.heap.size) (hp : w.heap.size ≤ p) (h1 : B1 ≠ p) (h2 : B2 ≠ p)
    (l1 : B1 < W5.heap.size) (l2 : B2 < W5.heap.size) (l3 : p < W5.heap.size) :
    SeqUpd Fence.wide 2 Tryd.prog 40 #[.pointer (some ⟨B1, 0, none⟩), .pointer (some ⟨B2, 0, none⟩)] (fun x : Nat => #[frV m b xs x]) (KIt w p B1 B2) p (fun ys => ys = List.range n) (fun pre => pre <+: List.range n) n W5 := by
  intro l J Jx W hb hJ hY h0
  have hk : KpK (KIt w p B1 B2) W5 W := fun k hk => hb.block k (by rcases hk with h | h | h | h <;> omega)
  exact planned1_in 2 (by omega) m b l p B1 B2 A c n xs hn hc hl J Jx w hJ hp h1 h2 hr hY W (hI.kept hk) (Nat.le_trans hs hb.size) h0
set_option maxRecDepth 100000 in
set_option maxHeartbeats 4000000 in
theorem plan_good (m b : Int) (A : Option Addr) (c : Nat) (xs : List Int) (n : Nat) (w : World) (hL : Lim w) (hok : okR m b) (hn : xs.length = n) (hr : Kd.C (Kd.int .i64) w A n xs) (hc : n ≤ c) (hl : n ≤ 200) :
    Calls Tryd.prog 11 #[.int .i64 m, .int .i64 b, .slice A n c] w fun e w' => ∃ v u, e = .returned (.tuple #[v, u, .int .i64 (planE m b xs)]) ∧ RowI w' v (planB m b xs) ∧ RowI w' u (planP m b xs) ∧ Below w.heap.size w w' := by
  have HL := Aside0.mk hL
  have HOK := Aside0.mk hok
  have HN := Aside0.mk hn
  have HR := Aside0.mk hr
  have HC := Aside0.mk hc
  clear hL hok hn hr hc
  refine (callsIn_wide (n := 3)).1 ?_
  refine callsIn_of_wp_marks Tryd.func11 rfl trivial ?_ rfl
  simp only [Tryd.ntmps11, List.size_toArray, List.length_cons, List.length_nil, Nat.reduceAdd, Nat.reduceSub, Array.replicate_succ, Array.replicate_zero, List.push_toArray, List.append_toArray, List.nil_append, List.cons_append]
  gi_wp2_with (first
    | (refine ⟨trivial, ?_⟩; gi_at_call 16; refine (callsIn_wide.2 (new_yes m b _ (((HL.out.below' (below_alloc (Below.refl _ _) _)).below' (below_alloc (Below.refl _ _) _)).below' (below_alloc (Below.refl _ _) _)) HOK.out.1 HOK.out.2)).mono ?_; rintro e w1 ⟨p, rfl, hp, ht, hb⟩; have hb3 := (Box3.new w).below hb; have HB3 := Aside0.mk hb3; have HB := Aside0.mk (below_step (below3 _ _ _ _) hb); have c1 := hb3.a.cell; have c2 := hb3.b.cell; have c3 := hb3.c.cell; have f1 := hb3.a.frozen; have f2 := hb3.b.frozen; have f3 := hb3.c.frozen; have HP := Aside0.mk (show w.heap.size + 3 ≤ p by simpa using hp); have HT := Aside0.mk ht; clear hp ht hb hb3)
    | (refine ⟨trivial, ?_⟩; gi_at_call 36; refine (callsIn_wide.2 (planned_any _ _ _ _ _)).mono ?_; rintro e w' ⟨rfl, rfl⟩))
  obtain ⟨N, hN⟩ : ∃ N, N = w.heap.size := ⟨_, rfl⟩
  have hs0 : (w1.setCell ⟨w.heap.size + 1 + 1, 0, none⟩ (.int .i64 0)).heap.size = w1.heap.size := by simp [World.setCell]
  have hx0 : Box3 (w1.setCell ⟨w.heap.size + 1 + 1, 0, none⟩ (.int .i64 0)) N (.slice none 0 0) (.slice none 0 0) 0 := by rw [hN]; exact HB3.out.setc 0
  have hb0 : Below w.heap.size w (w1.setCell ⟨w.heap.size + 1 + 1, 0, none⟩ (.int .i64 0)) := HB.out.setCell (by simp; omega) _
  have ht0 : Tank (w1.setCell ⟨w.heap.size + 1 + 1, 0, none⟩ (.int .i64 0)) p m b 0 := HT.out.of_block (Below.heap_setCell _ _ _ _ (by have := HP.out; show p ≠ w.heap.size + 1 + 1; omega))
  obtain ⟨W0, hW0⟩ : ∃ W0, W0 = w1.setCell ⟨w.heap.size + 1 + 1, 0, none⟩ (.int .i64 0) := ⟨_, rfl⟩
  rw [← hW0] at hs0 hx0 hb0 ht0 ⊢
  rw [← hs0]
  clear c1 c2 c3 f1 f2 f3 hs0 hW0 HB3 HB HT
  obtain ⟨B1, hB1⟩ : ∃ B1, B1 = W0.heap.size := ⟨_, rfl⟩
  have hp1 : p < B1 := by rw [hB1]; exact ht0.lt
  have hbA : Below W0.heap.size W0 ((W0.alloc (.cells #[.pointer (some ⟨p, 0, none⟩)] 32)).alloc (.cells #[.slice A n c] 23)) := ((Below.refl _ _).alloc (Nat.le_refl _) _).alloc (by simp) _
  have hx5 := hx0.below hbA
  have ht5 := ht0.below hbA
  have hb5 := below_step hb0 hbA
  have k1 : ((W0.alloc (.cells #[.pointer (some ⟨p, 0, none⟩)] 32)).alloc (.cells #[.slice A n c] 23)).cell? ⟨B1, 0, none⟩ = some (.pointer (some ⟨p, 0, none⟩)) := by rw [hB1]; simp
  have k2 : ((W0.alloc (.cells #[.pointer (some ⟨p, 0, none⟩)] 32)).alloc (.cells #[.slice A n c] 23)).cell? ⟨B1 + 1, 0, none⟩ = some (.slice A n c) := by rw [hB1]; simp
  have hs5 : ((W0.alloc (.cells #[.pointer (some ⟨p, 0, none⟩)] 32)).alloc (.cells #[.slice A n c] 23)).heap.size = B1 + 2 := by rw [hB1]; simp
  obtain ⟨W5, hW5⟩ : ∃ W5, W5 = (W0.alloc (.cells #[.pointer (some ⟨p, 0, none⟩)] 32)).alloc (.cells #[.slice A n c] 23) := ⟨_, rfl⟩
  rw [← hW5] at hx5 ht5 hb5 k1 k2 hs5 ⊢
  rw [← hB1, ← hN]
  have hpw : w.heap.size ≤ p := by have := HP.out; omega
  have hNp : N + 3 ≤ p := by rw [hN]; exact HP.out
  have hI : ItOk w W5 p B1 (B1 + 1) A n c m b 0 := ⟨hb5.block, k1, k2, ht5⟩
  have HPW := Aside0.mk hpw
  have HNN := Aside0.mk hN
  have HNP := Aside0.mk hNp
  have HP1 := Aside0.mk hp1
  have HS5 := Aside0.mk hs5
  clear hW5 hbA hx0 ht0 hb0 hB1 k1 k2 hN
  refine rangeFunc_upd (α := Nat) p (by omega) rfl (by omega) (gf := 40) (lb := #[.pointer (some ⟨B1, 0, none⟩), .pointer (some ⟨B1 + 1, 0, none⟩)]) rfl trivial (enters_of Tryd.func40 (by kernel_rfl) rfl)
    (encs := fun x : Nat => #[frV m b xs x]) (K := KIt w p B1 (B1 + 1)) (N := n) (fun k hk => by have := HP.out; rcases hk with h | h | h | h <;> omega)
    (plan_seq HN.out HR.out HC.out hl hI hb5.size hpw (by omega) (by omega) (by omega) (by omega) (by omega)) (fun _ => rfl)
    (PlI w N W5.heap.size m b xs) (PlX w N m b xs) (PlI.upd hNp hpw (by omega)) (PlI.own hb5.size) (PlX.own hb5.size)
    ⟨⟨_, _, hx5, Two.nil _ _⟩, hb5, Nat.le_refl _, by simp⟩
    (fun x a' W => ∃ f, FrBox W f m b xs x ∧ W5.heap.size ≤ f ∧ a' = { tmps := #[.int .i64 m, .int .i64 b, .slice A n c, undef, undef, undef, .pointer (some ⟨N, 0, none⟩), .pointer (some ⟨N + 1, 0, none⟩), .pointer (some ⟨N + 1 + 1, 0, none⟩), .pointer (some ⟨p, 0, none⟩), .pointer (some ⟨f, 0, none⟩), .tuple #[.pointer (some ⟨p, 0, none⟩), .int .i64 0], .int .i64 m, .int .i64 b, .tuple #[.pointer (some ⟨p, 0, none⟩), .int .i64 0], .pointer (some ⟨p, 0, none⟩), .int .i64 0, .int .i64 0, .bool false, undef, .pointer (some ⟨p, 0, none⟩), .slice A n c, .func (.func 40) #[] #[.pointer (some ⟨B1, 0, none⟩), .pointer (some ⟨B1 + 1, 0, none⟩)], frV m b xs x, undef, undef, undef, undef, undef, undef, undef, undef, undef, undef, undef, undef, undef, undef, undef, undef, undef], defers := [] }) ?hAx ?assign ?body ?done ?stop
  case assign =>
    intro l pre x W C hi hC
    unfold frV
    gi_wp2
    refine hC _ _ ((KeepsOthers.alloc _ _).from _) (fun k hk => Below.heap_alloc _ _ _ ?_) (PlI.own hb5.size _ _ _ none hi (World.grownBy_alloc _ _ none) (fun r e => by cases e)) ⟨W.heap.size, ⟨World.alloc_heap_new _ _⟩, hi.sz, rfl⟩
    have h1 := hi.sz
    have h2 := HP.out
    rcases hk with h | h | h | h <;> omega
  case hAx =>
    rintro x a' ⟨⟩ X Y row ⟨f, hf, h2, h3⟩ hg hr
    exact ⟨f, ⟨(hg.block f (Array.getElem?_eq_some_iff.1 hf.blk).1 (notCells hf.blk (fun r e => (hr r e).2))).trans hf.blk⟩, h2, h3⟩
  case body =>
    rintro l pre x a' W hi ⟨f, hf, hfB, rfl⟩ hlt
    have HI := Aside0.mk hi
    have HF := Aside0.mk hf
    have HFB := Aside0.mk hfB
    have HLT := Aside0.mk hlt
    obtain ⟨⟨v, u, hx, h2⟩, hbel, hsz, hall⟩ := hi
    have HX := Aside0.mk hx
    have H2 := Aside0.mk h2
    have HBEL := Aside0.mk hbel
    have HSZ := Aside0.mk hsz
    have HALL := Aside0.mk hall
    have g0 := hf.c0
    have g1 := hf.c1
    have g2 := hf.c2
    have c1 := hx.a.cell
    have c2 := hx.b.cell
    have c3 := hx.c.cell
    have f1 := hx.a.frozen
    have f2 := hx.b.frozen
    have f3 := hx.c.frozen
    obtain ⟨E, hE⟩ : ∃ E, E = er m b xs x := ⟨_, rfl⟩
    rw [← hE] at g2
    have HE := Aside0.mk hE
    clear hf hfB hlt hx h2 hbel hsz hall hE hx5 ht5 hb5 hI hpw hNp hp1 hs5
    by_cases hz : E = 0
    case neg =>
      have hne : (E != 0) = true := bne_iff_ne.mpr hz
      have HZ := Aside0.mk hz
      clear hz
      gi_wp2
      have hfN : f ≠ N := by have := HFB.out; have := HS5.out; have := HP1.out; have := HNP.out; omega
      have hfN1 : f ≠ N + 1 := by have := HFB.out; have := HS5.out; have := HP1.out; have := HNP.out; omega
      have hx0 : Box3 W.drew N v u 0 := ⟨HX.out.a, HX.out.b, HX.out.c⟩
      have hk0 : KeepsOthers W W.drew := ⟨Nat.le_refl _, fun _ _ h _ => h⟩
      have hb0 : Below w.heap.size w W.drew := HBEL.out.drew
      have g2d : W.drew.cell? ⟨f, 2, none⟩ = some (.int .i64 E) := g2
      refine wpIn_round_last (fun w' => w'.cell? ⟨f, 2, none⟩ = some (.int .i64 E)) [4] #[false, false, false, false, false] (by kernel_rfl) (by kernel_rfl) rfl rfl g2d (fun hHeld => ?_)
      obtain ⟨Wd, hWd⟩ : ∃ Wd, Wd = W.drew := ⟨_, rfl⟩
      rw [← hWd] at hx0 hk0 hb0 hHeld ⊢
      clear hWd g2d
      refine take_ (i := 0) (v := .pointer (some ⟨f, 2, none⟩)) #[true, false, false, false, false] rfl rfl (by kernel_rfl) (fun _ _ _ h => absurd h.1 (by simp)) (Or.inl ⟨by rfl, ?_⟩) hHeld rfl ?_
      · intro w' hS'
        first | (go_simp; done) | (go_simp; with_reducible rfl)
      try simp only [Act.put, List.setIfInBounds_toArray, List.set_cons_zero, List.set_cons_succ]
      refine take_ (i := 1) (v := .int .i64 E) #[true, true, false, false, false] rfl rfl (by kernel_rfl) (fun _ _ _ h => absurd h.1 (by simp)) (Or.inl ⟨by rfl, ?_⟩) hHeld rfl ?_
      · intro w' hS'
        have hq : w'.cell? ⟨f, 2, none⟩ = some (.int .i64 E) := hS'
        first | (go_simp; done) | (go_simp; with_reducible rfl)
      try simp only [Act.put, List.setIfInBounds_toArray, List.set_cons_zero, List.set_cons_succ]
      refine one_ (i := 2) #[true, true, true, false, false] rfl rfl (by kernel_rfl) (by simp) (fun K hK => ?_)
      have q1 := hx0.a.cell
      have q2 := hx0.a.frozen
      go_simp
      refine hK.out _ _ ((World.cell?_setCell_far Wd ⟨N, 0, none⟩ ⟨f, 2, none⟩ _ (Ne.symm hfN)).trans hHeld) (fun hHeld => ?_)
      clear hK K
      try simp only [Act.put, List.setIfInBounds_toArray, List.set_cons_zero, List.set_cons_succ]
      have hx1 := hx0.seta (.slice none 0 0)
      have hk1 := hk0.trans (KeepsOthers.setCell Wd ⟨N, 0, none⟩ (.slice none 0 0))
      have hb1 := hb0.setCell (p := ⟨N, 0, none⟩) (by rw [← HNN.out]; show N ≤ N; omega) (.slice none 0 0)
      clear q1 q2
      obtain ⟨w1, hw1⟩ : ∃ X, X = Wd.setCell ⟨N, 0, none⟩ (.slice none 0 0) := ⟨_, rfl⟩
      rw [← hw1] at hx1 hk1 hb1 hHeld ⊢
      clear hw1
      refine one_ (i := 3) #[true, true, true, true, false] rfl rfl (by kernel_rfl) (by simp) (fun K hK => ?_)
      have q1 := hx1.b.cell
      have q2 := hx1.b.frozen
      go_simp
      refine hK.out _ _ ((World.cell?_setCell_far w1 ⟨N + 1, 0, none⟩ ⟨f, 2, none⟩ _ (Ne.symm hfN1)).trans hHeld) (fun hHeld => ?_)
      clear hK K
      try simp only [Act.put, List.setIfInBounds_toArray, List.set_cons_zero, List.set_cons_succ]
      have hx2 := hx1.setb (.slice none 0 0)
      have hk2 := hk1.trans (KeepsOthers.setCell w1 ⟨N + 1, 0, none⟩ (.slice none 0 0))
      have hb2 := hb1.setCell (p := ⟨N + 1, 0, none⟩) (by rw [← HNN.out]; show N ≤ N + 1; omega) (.slice none 0 0)
      clear q1 q2
      obtain ⟨w2, hw2⟩ : ∃ X, X = w1.setCell ⟨N + 1, 0, none⟩ (.slice none 0 0) := ⟨_, rfl⟩
      rw [← hw2] at hx2 hk2 hb2 hHeld ⊢
      clear hw2
      refine last_ (i := 4) #[true, true, true, true, true] rfl rfl (by kernel_rfl) (by simp) (fun K hK => ?_)
      have q1 := hx2.c.cell
      have q2 := hx2.c.frozen
      go_simp
      refine hK.out _ _ ?_
      clear hK K
      try simp only [Act.put, List.setIfInBounds_toArray, List.set_cons_zero, List.set_cons_succ]
      clear q1 q2
      refine done_ (by kernel_rfl) ⟨rfl, ?_⟩
      have hx3 := hx2.setc E
      have hk3 := hk2.trans (KeepsOthers.setCell w2 ⟨N + 1 + 1, 0, none⟩ (.int .i64 E))
      have hb3 := hb2.setCell (p := ⟨N + 1 + 1, 0, none⟩) (by rw [← HNN.out]; show N ≤ N + 1 + 1; omega) (.int .i64 E)
      gi_wp2
      exact ⟨hk3.from _, rfl, ⟨pre, x, rfl, HALL.out, by rw [← HE.out]; exact HZ.out, by rw [← HE.out]; exact hx3⟩, hb3⟩
    case pos =>
      subst hz
      gi_wp2
      have R0 : RS (KIt w p B1 (B1 + 1)) w W N W5.heap.size f m b xs x v u v (pre.map (lv m b xs)) u (pre.map (pd m b xs)) W.drew := ⟨⟨HX.out.a, HX.out.b, HX.out.c⟩, ⟨HF.out.blk⟩, H2.out.below ((Below.refl _ _).drew), HBEL.out.drew, ⟨Nat.le_refl _, fun _ _ h _ => h⟩, Nat.le_refl _, HSZ.out, by have := HS5.out; have := HP1.out; have := HNP.out; omega, by have := HNN.out; have := HS5.out; have := HP1.out; have := HNP.out; omega, fun _ _ => rfl, fun k hk => by have := HNN.out; have := HS5.out; have := HP1.out; have := HNP.out; rcases hk with h | h | h | h <;> omega⟩
      have HLEN : Aside0 (pre.length ≤ 200) := ⟨by have := HLT.out; omega⟩
      refine wpIn_round_last (fun w' => w'.cell? ⟨N, 0, none⟩ = some v ∧ w'.cell? ⟨N + 1, 0, none⟩ = some u ∧ FrBox w' f m b xs x) [10, 11] #[false, false, false, false, false, false, false, false, false, false, false, false] (by kernel_rfl) (by kernel_rfl) rfl rfl ⟨R0.box.a.cell, R0.box.b.cell, R0.fr⟩ (fun hHeld => ?_)
      obtain ⟨X0, hX0⟩ : ∃ X, X = W.drew := ⟨_, rfl⟩
      rw [← hX0] at R0 hHeld ⊢
      clear hX0
      replace R0 := Aside0.mk R0
      refine take_ (i := 0) (N := some 29) (v := v) #[true, false, false, false, false, false, false, false, false, false, false, false] rfl rfl (by kernel_rfl) (fun _ _ _ h => absurd h.1 (by simp)) (Or.inl ⟨by rfl, ?_⟩) hHeld rfl ?_
      · intro w' hS'
        have hq := hS'.1
        first | (go_simp; done) | (go_simp; with_reducible rfl)
      try simp only [Act.put, List.setIfInBounds_toArray, List.set_cons_zero, List.set_cons_succ]
      refine take_ (i := 1) (N := some 30) (v := .pointer (some ⟨f, 0, none⟩)) #[true, true, false, false, false, false, false, false, false, false, false, false] rfl rfl (by kernel_rfl) (fun _ _ _ h => absurd h.1 (by simp)) (Or.inl ⟨by rfl, ?_⟩) hHeld rfl ?_
      · intro w' hS'
        first | (go_simp; done) | (go_simp; with_reducible rfl)
      try simp only [Act.put, List.setIfInBounds_toArray, List.set_cons_zero, List.set_cons_succ]
      refine take_ (i := 2) (N := some 31) (v := .int .i64 (lv m b xs x)) #[true, true, true, false, false, false, false, false, false, false, false, false] rfl rfl (by kernel_rfl) (fun _ _ _ h => absurd h.1 (by simp)) (Or.inl ⟨by rfl, ?_⟩) hHeld rfl ?_
      · intro w' hS'
        have hq := hS'.2.2.c0
        first | (go_simp; done) | (go_simp; with_reducible rfl)
      try simp only [Act.put, List.setIfInBounds_toArray, List.set_cons_zero, List.set_cons_succ]
      refine take_ (i := 5) (N := some 34) (v := u) #[true, true, true, false, false, true, false, false, false, false, false, false] rfl rfl (by kernel_rfl) (fun _ _ _ h => absurd h.1 (by simp)) (Or.inl ⟨by rfl, ?_⟩) hHeld rfl ?_
      · intro w' hS'
        have hq := hS'.2.1
        first | (go_simp; done) | (go_simp; with_reducible rfl)
      try simp only [Act.put, List.setIfInBounds_toArray, List.set_cons_zero, List.set_cons_succ]
      refine take_ (i := 6) (N := some 35) (v := .pointer (some ⟨f, 1, none⟩)) #[true, true, true, false, false, true, true, false, false, false, false, false] rfl rfl (by kernel_rfl) (fun _ _ _ h => absurd h.1 (by simp)) (Or.inl ⟨by rfl, ?_⟩) hHeld rfl ?_
      · intro w' hS'
        first | (go_simp; done) | (go_simp; with_reducible rfl)
      try simp only [Act.put, List.setIfInBounds_toArray, List.set_cons_zero, List.set_cons_succ]
      refine take_ (i := 7) (N := some 36) (v := .int .i64 (pd m b xs x)) #[true, true, true, false, false, true, true, true, false, false, false, false] rfl rfl (by kernel_rfl) (fun _ _ _ h => absurd h.1 (by simp)) (Or.inl ⟨by rfl, ?_⟩) hHeld rfl ?_
      · intro w' hS'
        have hq := hS'.2.2.c1
        first | (go_simp; done) | (go_simp; with_reducible rfl)
      try simp only [Act.put, List.setIfInBounds_toArray, List.set_cons_zero, List.set_cons_succ]
      refine join_ 2 #[true, true, true, true, true, true, true, true, true, true, false, false] (fun s : Value × Value × Value × Value => [(32, s.1), (33, s.2.1), (37, s.2.2.1), (38, s.2.2.2)]) (fun s X => RS (KIt w p B1 (B1 + 1)) w W N W5.heap.size f m b xs x v u s.2.1 (pre.map (lv m b xs) ++ [lv m b xs x]) s.2.2.2 (pre.map (pd m b xs) ++ [pd m b xs x]) X) ?_ ?_
      · rintro ⟨s32, v1, s37, u1⟩ X hX
        simp only [putAll, Act.put, List.setIfInBounds_toArray, List.set_cons_zero, List.set_cons_succ]
        obtain ⟨ga, na, ca, rfl⟩ : ∃ g n c, v1 = Value.slice (some ⟨g, 0, none⟩) n c := by obtain ⟨g, c, e, _⟩ := Kd.R_form hX.two.a (by simp); exact ⟨g, _, c, e⟩
        obtain ⟨gb, nb, cb, rfl⟩ : ∃ g n c, u1 = Value.slice (some ⟨g, 0, none⟩) n c := by obtain ⟨g, c, e, _⟩ := Kd.R_form hX.two.b (by simp); exact ⟨g, _, c, e⟩
        have hx0 := hX.box
        have RX := Aside0.mk hX
        clear hX
        refine last_ (i := 10) (N := none) #[true, true, true, true, true, true, true, true, true, true, true, false] rfl rfl (by kernel_rfl) (by simp) (fun K hK => ?_)
        have q1 := hx0.a.cell
        have q2 := hx0.a.frozen
        go_simp
        refine hK.out _ _ ?_
        clear hK K q1 q2
        try simp only [Act.put, List.setIfInBounds_toArray, List.set_cons_zero, List.set_cons_succ]
        have hx1 := hx0.seta (.slice (some ⟨ga, 0, none⟩) na ca)
        refine last_ (i := 11) (N := none) #[true, true, true, true, true, true, true, true, true, true, true, true] rfl rfl (by kernel_rfl) (by simp) (fun K hK => ?_)
        have q1 := hx0.b.cell
        have q2 := hx0.b.frozen
        go_simp
        refine hK.out _ _ ?_
        clear hK K q1 q2
        try simp only [Act.put, List.setIfInBounds_toArray, List.set_cons_zero, List.set_cons_succ]
        have hx2 := hx1.setb (.slice (some ⟨gb, 0, none⟩) nb cb)
        refine done_ (by kernel_rfl) ⟨rfl, ?_⟩
        gi_wp2
        have hN3 : N + 3 ≤ W5.heap.size := RX.out.hN
        have hNw : w.heap.size = N := HNN.out.symm
        have hko := (RX.out.ko.trans (KeepsOthers.setCell X ⟨N, 0, none⟩ (.slice (some ⟨ga, 0, none⟩) na ca))).trans (KeepsOthers.setCell (X.setCell ⟨N, 0, none⟩ (.slice (some ⟨ga, 0, none⟩) na ca)) ⟨N + 1, 0, none⟩ (.slice (some ⟨gb, 0, none⟩) nb cb))
        have hbl := (RX.out.bel.setCell (p := ⟨N, 0, none⟩) (by show w.heap.size ≤ N; omega) (.slice (some ⟨ga, 0, none⟩) na ca)).setCell (p := ⟨N + 1, 0, none⟩) (by show w.heap.size ≤ N + 1; omega) (.slice (some ⟨gb, 0, none⟩) nb cb)
        have hst : ∀ k, k ≠ N → k ≠ N + 1 → ((X.setCell ⟨N, 0, none⟩ (.slice (some ⟨ga, 0, none⟩) na ca)).setCell ⟨N + 1, 0, none⟩ (.slice (some ⟨gb, 0, none⟩) nb cb)).heap[k]? = X.heap[k]? := fun k h1 h2 => (Below.heap_setCell _ _ _ _ h2).trans (Below.heap_setCell _ _ _ _ h1)
        have hsz : ((X.setCell ⟨N, 0, none⟩ (.slice (some ⟨ga, 0, none⟩) na ca)).setCell ⟨N + 1, 0, none⟩ (.slice (some ⟨gb, 0, none⟩) nb cb)).heap.size = X.heap.size := by simp [World.setCell]
        refine ⟨hko.from _, fun k hk => (hst k (by have := HNP.out; have := HP1.out; rcases hk with h | h | h | h <;> omega) (by have := HNP.out; have := HP1.out; rcases hk with h | h | h | h <;> omega)).trans (RX.out.kp k hk), ⟨⟨(.slice (some ⟨ga, 0, none⟩) na ca), (.slice (some ⟨gb, 0, none⟩) nb cb), hx2, ?_⟩, hbl, ?_, ?_⟩⟩
        · rw [List.map_append, List.map_append]; exact RX.out.two.step (fun k h1 h2 => hst k (by omega) (by omega))
        · rw [hsz]; exact Nat.le_trans RX.out.hB RX.out.sz
        · intro y hy
          rcases List.mem_append.1 hy with h | h
          · exact HALL.out y h
          · rw [List.mem_singleton.1 h, ← HE.out]
      · intro hcont
        simp only [putAll, Act.put, List.setIfInBounds_toArray, List.set_cons_zero, List.set_cons_succ] at hcont
        replace hcont := Aside0.mk hcont
        refine two_ (i := 3) (j := 8) (Ni := some 32) (Nj := some 37) #[true, true, true, true, false, true, true, true, false, false, false, false] #[true, true, true, false, false, true, true, true, true, false, false, false] rfl rfl rfl rfl (by kernel_rfl) (by simp) (by simp) (fun K hK => ?_) (fun K hK => ?_)
        · go_simp
          have R1 := R0.out.alloc (.cells #[.int .i64 (lv m b xs x)] 3)
          have l1 : (X0.alloc (.cells #[.int .i64 (lv m b xs x)] 3)).cell? ⟨X0.heap.size, 0, none⟩ = some (.int .i64 (lv m b xs x)) := by simp
          have gW1 : W.heap.size ≤ X0.heap.size := R0.out.sz
          refine hK.out _ _ ⟨R1.box.a.cell, R1.box.b.cell, R1.fr⟩ (fun hHeld => ?_)
          clear hK K
          try simp only [Act.put, List.setIfInBounds_toArray, List.set_cons_zero, List.set_cons_succ]
          obtain ⟨X1, hX⟩ : ∃ X, X = X0.alloc (.cells #[.int .i64 (lv m b xs x)] 3) := ⟨_, rfl⟩
          obtain ⟨g1, hg⟩ : ∃ g, g = X0.heap.size := ⟨_, rfl⟩
          rw [← hX] at R1 l1 hHeld ⊢
          rw [← hg] at l1 gW1 ⊢
          clear hX hg
          replace R1 := Aside0.mk R1
          have L1 := Aside0.mk l1
          clear l1
          refine two_ (i := 4) (j := 8) (Ni := some 33) (Nj := some 37) #[true, true, true, true, true, true, true, true, false, false, false, false] #[true, true, true, true, false, true, true, true, true, false, false, false] rfl rfl rfl rfl (by kernel_rfl) (by simp) (by simp) (fun K hK => ?_) (fun K hK => ?_)
          · rw [if_pos (by rfl)]
            refine append_wp (.tmp 29) (.tmp 32) rfl W5.heap.size v _ _ rfl R1.out.two.a (R1.out.two.fresh) g1 (lv m b xs x) rfl L1.out (by rw [List.length_map]; exact HLEN.out) (Nat.le_trans R1.out.hB R1.out.sz) (fun v1 X2 h1 hg hat => ?_)
            have R2 := R1.out.appA h1 hg hat
            refine hK.out _ _ ⟨R2.box.a.cell, R2.box.b.cell, R2.fr⟩ (fun hHeld => ?_)
            clear hK K h1 hg hat
            replace R2 := Aside0.mk R2
            try simp only [Act.put, List.setIfInBounds_toArray, List.set_cons_zero, List.set_cons_succ]
            refine one_ (i := 8) (N := some 37) #[true, true, true, true, true, true, true, true, true, false, false, false] rfl rfl (by kernel_rfl) (by simp) (fun K hK => ?_)
            go_simp
            have R3 := R2.out.alloc (.cells #[.int .i64 (pd m b xs x)] 3)
            have l3 : (X2.alloc (.cells #[.int .i64 (pd m b xs x)] 3)).cell? ⟨X2.heap.size, 0, none⟩ = some (.int .i64 (pd m b xs x)) := by simp
            have gW3 : W.heap.size ≤ X2.heap.size := R2.out.sz
            refine hK.out _ _ ⟨R3.box.a.cell, R3.box.b.cell, R3.fr⟩ (fun hHeld => ?_)
            clear hK K
            try simp only [Act.put, List.setIfInBounds_toArray, List.set_cons_zero, List.set_cons_succ]
            obtain ⟨X3, hX⟩ : ∃ X, X = X2.alloc (.cells #[.int .i64 (pd m b xs x)] 3) := ⟨_, rfl⟩
            obtain ⟨g3, hg⟩ : ∃ g, g = X2.heap.size := ⟨_, rfl⟩
            rw [← hX] at R3 l3 hHeld ⊢
            rw [← hg] at l3 gW3 ⊢
            clear hX hg
            replace R3 := Aside0.mk R3
            have L3 := Aside0.mk l3
            clear l3
            refine one_ (i := 9) (N := some 38) #[true, true, true, true, true, true, true, true, true, true, false, false] rfl rfl (by kernel_rfl) (by simp) (fun K hK => ?_)
            rw [if_pos (by rfl)]
            refine append_wp (.tmp 34) (.tmp 37) rfl W5.heap.size u _ _ rfl R3.out.two.b (R3.out.two.symm.fresh) g3 (pd m b xs x) rfl L3.out (by rw [List.length_map]; exact HLEN.out) (Nat.le_trans R3.out.hB R3.out.sz) (fun u1 X4 h1 hg hat => ?_)
            have R4 := R3.out.appB h1 hg hat
            refine hK.out _ _ ⟨R4.box.a.cell, R4.box.b.cell, R4.fr⟩ (fun hHeld => ?_)
            clear hK K h1 hg hat
            replace R4 := Aside0.mk R4
            try simp only [Act.put, List.setIfInBounds_toArray, List.set_cons_zero, List.set_cons_succ]
            exact (hcont.out (.slice (some ⟨g1, 0, none⟩) 1 1, v1, .slice (some ⟨g3, 0, none⟩) 1 1, u1) _ R4.out)
          · go_simp
            have R2 := R1.out.alloc (.cells #[.int .i64 (pd m b xs x)] 3)
            have l2 : (X1.alloc (.cells #[.int .i64 (pd m b xs x)] 3)).cell? ⟨X1.heap.size, 0, none⟩ = some (.int .i64 (pd m b xs x)) := by simp
            have gW2 : W.heap.size ≤ X1.heap.size := R1.out.sz
            have l1_ : (X1.alloc (.cells #[.int .i64 (pd m b xs x)] 3)).cell? ⟨g1, 0, none⟩ = some (.int .i64 (lv m b xs x)) := (World.cell?_alloc_lt _ _ _ (World.block_lt_of_cell? X1 _ L1.out)).trans L1.out
            refine hK.out _ _ ⟨R2.box.a.cell, R2.box.b.cell, R2.fr⟩ (fun hHeld => ?_)
            clear hK K
            try simp only [Act.put, List.setIfInBounds_toArray, List.set_cons_zero, List.set_cons_succ]
            obtain ⟨X2, hX⟩ : ∃ X, X = X1.alloc (.cells #[.int .i64 (pd m b xs x)] 3) := ⟨_, rfl⟩
            obtain ⟨g2, hg⟩ : ∃ g, g = X1.heap.size := ⟨_, rfl⟩
            rw [← hX] at R2 l2 l1_ hHeld ⊢
            rw [← hg] at l2 gW2 ⊢
            clear hX hg
            replace R2 := Aside0.mk R2
            have L2 := Aside0.mk l2
            replace L1 := Aside0.mk l1_
            clear l2 l1_
            refine one_ (i := 4) (N := some 33) #[true, true, true, true, true, true, true, true, true, false, false, false] rfl rfl (by kernel_rfl) (by simp) (fun K hK => ?_)
            rw [if_pos (by rfl)]
            refine append_wp (.tmp 29) (.tmp 32) rfl W5.heap.size v _ _ rfl R2.out.two.a (R2.out.two.fresh) g1 (lv m b xs x) rfl L1.out (by rw [List.length_map]; exact HLEN.out) (Nat.le_trans R2.out.hB R2.out.sz) (fun v1 X3 h1 hg hat => ?_)
            have R3 := R2.out.appA h1 hg hat
            have l_ := lit_kept (W := W) L2.out hg (fun k hk => (own_le H2.out.a hk).2.1) gW2
            refine hK.out _ _ ⟨R3.box.a.cell, R3.box.b.cell, R3.fr⟩ (fun hHeld => ?_)
            clear hK K h1 hg hat
            replace R3 := Aside0.mk R3
            replace L2 := Aside0.mk l_
            clear l_
            try simp only [Act.put, List.setIfInBounds_toArray, List.set_cons_zero, List.set_cons_succ]
            refine one_ (i := 9) (N := some 38) #[true, true, true, true, true, true, true, true, true, true, false, false] rfl rfl (by kernel_rfl) (by simp) (fun K hK => ?_)
            rw [if_pos (by rfl)]
            refine append_wp (.tmp 34) (.tmp 37) rfl W5.heap.size u _ _ rfl R3.out.two.b (R3.out.two.symm.fresh) g2 (pd m b xs x) rfl L2.out (by rw [List.length_map]; exact HLEN.out) (Nat.le_trans R3.out.hB R3.out.sz) (fun u1 X4 h1 hg hat => ?_)
            have R4 := R3.out.appB h1 hg hat
            refine hK.out _ _ ⟨R4.box.a.cell, R4.box.b.cell, R4.fr⟩ (fun hHeld => ?_)
            clear hK K h1 hg hat
            replace R4 := Aside0.mk R4
            try simp only [Act.put, List.setIfInBounds_toArray, List.set_cons_zero, List.set_cons_succ]
            exact (hcont.out (.slice (some ⟨g1, 0, none⟩) 1 1, v1, .slice (some ⟨g2, 0, none⟩) 1 1, u1) _ R4.out)
        · go_simp
          have R1 := R0.out.alloc (.cells #[.int .i64 (pd m b xs x)] 3)
          have l1 : (X0.alloc (.cells #[.int .i64 (pd m b xs x)] 3)).cell? ⟨X0.heap.size, 0, none⟩ = some (.int .i64 (pd m b xs x)) := by simp
          have gW1 : W.heap.size ≤ X0.heap.size := R0.out.sz
          refine hK.out _ _ ⟨R1.box.a.cell, R1.box.b.cell, R1.fr⟩ (fun hHeld => ?_)
          clear hK K
          try simp only [Act.put, List.setIfInBounds_toArray, List.set_cons_zero, List.set_cons_succ]
          obtain ⟨X1, hX⟩ : ∃ X, X = X0.alloc (.cells #[.int .i64 (pd m b xs x)] 3) := ⟨_, rfl⟩
          obtain ⟨g1, hg⟩ : ∃ g, g = X0.heap.size := ⟨_, rfl⟩
          rw [← hX] at R1 l1 hHeld ⊢
          rw [← hg] at l1 gW1 ⊢
          clear hX hg
          replace R1 := Aside0.mk R1
          have L1 := Aside0.mk l1
          clear l1
          refine one_ (i := 3) (N := some 32) #[true, true, true, true, false, true, true, true, true, false, false, false] rfl rfl (by kernel_rfl) (by simp) (fun K hK => ?_)
          go_simp
          have R2 := R1.out.alloc (.cells #[.int .i64 (lv m b xs x)] 3)
          have l2 : (X1.alloc (.cells #[.int .i64 (lv m b xs x)] 3)).cell? ⟨X1.heap.size, 0, none⟩ = some (.int .i64 (lv m b xs x)) := by simp
          have gW2 : W.heap.size ≤ X1.heap.size := R1.out.sz
          have l1_ : (X1.alloc (.cells #[.int .i64 (lv m b xs x)] 3)).cell? ⟨g1, 0, none⟩ = some (.int .i64 (pd m b xs x)) := (World.cell?_alloc_lt _ _ _ (World.block_lt_of_cell? X1 _ L1.out)).trans L1.out
          refine hK.out _ _ ⟨R2.box.a.cell, R2.box.b.cell, R2.fr⟩ (fun hHeld => ?_)
          clear hK K
          try simp only [Act.put, List.setIfInBounds_toArray, List.set_cons_zero, List.set_cons_succ]
          obtain ⟨X2, hX⟩ : ∃ X, X = X1.alloc (.cells #[.int .i64 (lv m b xs x)] 3) := ⟨_, rfl⟩
          obtain ⟨g2, hg⟩ : ∃ g, g = X1.heap.size := ⟨_, rfl⟩
          rw [← hX] at R2 l2 l1_ hHeld ⊢
          rw [← hg] at l2 gW2 ⊢
          clear hX hg
          replace R2 := Aside0.mk R2
          have L2 := Aside0.mk l2
          replace L1 := Aside0.mk l1_
          clear l2 l1_
          refine one_ (i := 4) (N := some 33) #[true, true, true, true, true, true, true, true, true, false, false, false] rfl rfl (by kernel_rfl) (by simp) (fun K hK => ?_)
          rw [if_pos (by rfl)]
          refine append_wp (.tmp 29) (.tmp 32) rfl W5.heap.size v _ _ rfl R2.out.two.a (R2.out.two.fresh) g2 (lv m b xs x) rfl L2.out (by rw [List.length_map]; exact HLEN.out) (Nat.le_trans R2.out.hB R2.out.sz) (fun v1 X3 h1 hg hat => ?_)
          have R3 := R2.out.appA h1 hg hat
          have l_ := lit_kept (W := W) L1.out hg (fun k hk => (own_le H2.out.a hk).2.1) gW1
          refine hK.out _ _ ⟨R3.box.a.cell, R3.box.b.cell, R3.fr⟩ (fun hHeld => ?_)
          clear hK K h1 hg hat
          replace R3 := Aside0.mk R3
          replace L1 := Aside0.mk l_
          clear l_
          try simp only [Act.put, List.setIfInBounds_toArray, List.set_cons_zero, List.set_cons_succ]
          refine one_ (i := 9) (N := some 38) #[true, true, true, true, true, true, true, true, true, true, false, false] rfl rfl (by kernel_rfl) (by simp) (fun K hK => ?_)
          rw [if_pos (by rfl)]
          refine append_wp (.tmp 34) (.tmp 37) rfl W5.heap.size u _ _ rfl R3.out.two.b (R3.out.two.symm.fresh) g1 (pd m b xs x) rfl L1.out (by rw [List.length_map]; exact HLEN.out) (Nat.le_trans R3.out.hB R3.out.sz) (fun u1 X4 h1 hg hat => ?_)
          have R4 := R3.out.appB h1 hg hat
          refine hK.out _ _ ⟨R4.box.a.cell, R4.box.b.cell, R4.fr⟩ (fun hHeld => ?_)
          clear hK K h1 hg hat
          replace R4 := Aside0.mk R4
          try simp only [Act.put, List.setIfInBounds_toArray, List.set_cons_zero, List.set_cons_succ]
          exact (hcont.out (.slice (some ⟨g2, 0, none⟩) 1 1, v1, .slice (some ⟨g1, 0, none⟩) 1 1, u1) _ R4.out)
  case done =>
    rintro D ys W hD rfl hi hK
    obtain ⟨⟨v, u, hx, h2⟩, hbel, hsz, hall⟩ := hi
    obtain ⟨Av, cv, rfl, _⟩ := Kd.R_reads h2.a
    obtain ⟨Au, cu, rfl, _⟩ := Kd.R_reads h2.b
    have e1 : eTo m b xs n = 0 := eTo_zero n (fun k hk => hall k (List.mem_range.2 hk))
    have e2 : planE m b xs = 0 := by unfold planE; rw [if_pos HOK.out, HN.out, e1]
    have e3 : planB m b xs = (List.range n).map (lv m b xs) := by unfold planB; rw [if_pos e2, HN.out]
    have e4 : planP m b xs = (List.range n).map (pd m b xs) := by unfold planP; rw [if_pos e2, HN.out]
    have E2 := Aside0.mk e2
    have E3 := Aside0.mk e3
    have E4 := Aside0.mk e4
    obtain ⟨vs, hvs⟩ : ∃ l, l = (List.range n).map (lv m b xs) := ⟨_, rfl⟩
    obtain ⟨us, hus⟩ : ∃ l, l = (List.range n).map (pd m b xs) := ⟨_, rfl⟩
    rw [← hvs] at hx h2 E3
    rw [← hus] at hx h2 E4
    have c1 := hx.a.cell
    have c2 := hx.b.cell
    have c3 := hx.c.cell
    have f1 := hx.a.frozen
    have f2 := hx.b.frozen
    have f3 := hx.c.frozen
    have y1 := hx.seta (.slice Av vs.length cv)
    have y2 := y1.setb (.slice Au us.length cu)
    have y3 := y2.setc 0
    have a1 := y1.a.cell
    have a2 := y1.b.cell
    have a3 := y1.c.cell
    have af2 := y1.b.frozen
    have af3 := y1.c.frozen
    have b1 := y2.a.cell
    have b2 := y2.b.cell
    have b3 := y2.c.cell
    have bf3 := y2.c.frozen
    have d1 := y3.a.cell
    have d2 := y3.b.cell
    have d3 := y3.c.cell
    have HX := Aside0.mk hx
    have H2 := Aside0.mk h2
    have HBEL := Aside0.mk hbel
    have HKK := Aside0.mk hK
    have HDD := Aside0.mk hD
    clear hx h2 hbel hsz hall hK y1 y2 y3 e1 e2 e3 e4 hD hvs hus hx5 ht5 hb5 hI hpw hNp hp1 hs5
    gi_wp2
    refine wpIn_wide.2 ?_
    go_region_held3 (fun w' => w'.cell? ⟨N, 0, none⟩ = some (.slice Av vs.length cv) ∧ w'.cell? ⟨N + 1, 0, none⟩ = some (.slice Au us.length cu)) (go_keep) (fail)
    have hND : N + 3 ≤ D := by have := HDD.out; have := HS5.out; have := HP1.out; have := HNP.out; omega
    have hNw : w.heap.size = N := HNN.out.symm
    obtain ⟨W9, hW9⟩ : ∃ X, X = (((W.setCell ⟨N, 0, none⟩ (.slice Av vs.length cv)).setCell ⟨N + 1, 0, none⟩ (.slice Au us.length cu)).setCell ⟨N + 1 + 1, 0, none⟩ (.int .i64 0)).drew := ⟨_, rfl⟩
    have hst : ∀ k, k ≠ N → k ≠ N + 1 → k ≠ N + 1 + 1 → W9.heap[k]? = W.heap[k]? := fun k h1 h2 h3 => by
      rw [hW9]
      exact (Below.heap_setCell _ _ _ _ h3).trans ((Below.heap_setCell _ _ _ _ h2).trans (Below.heap_setCell _ _ _ _ h1))
    have hx9 : Box3 W9 N (.slice Av vs.length cv) (.slice Au us.length cu) 0 := by
      rw [hW9]
      exact ⟨(((HX.out.seta _).setb _).setc 0).a, (((HX.out.seta _).setb _).setc 0).b, (((HX.out.seta _).setb _).setc 0).c⟩
    have h29 : Two W9 W5.heap.size (.slice Av vs.length cv) vs (.slice Au us.length cu) us := H2.out.step (fun k h1 h2 => hst k (by have := HS5.out; have := HP1.out; have := HNP.out; omega) (by have := HS5.out; have := HP1.out; have := HNP.out; omega) (by have := HS5.out; have := HP1.out; have := HNP.out; omega))
    have hb9 : Below w.heap.size w W9 := by
      rw [hW9]
      exact (((HBEL.out.setCell (p := ⟨N, 0, none⟩) (by show w.heap.size ≤ N; omega) _).setCell (p := ⟨N + 1, 0, none⟩) (by show w.heap.size ≤ N + 1; omega) _).setCell (p := ⟨N + 1 + 1, 0, none⟩) (by show w.heap.size ≤ N + 1 + 1; omega) _).drew
    have hD9 : W9.heap[D]? = some (.deferred (some [])) := (hst D (by omega) (by omega) (by omega)).trans HKK.out
    rw [← hW9]
    clear hW9 hst c1 c2 c3 f1 f2 f3 a1 a2 a3 af2 af3 b1 b2 b3 bf3 d1 d2 d3
    have H29 := Aside0.mk h29
    have HX9 := Aside0.mk hx9
    have HB9 := Aside0.mk hb9
    have HD9 := Aside0.mk hD9
    clear h29 hx9 hb9 hD9
    gi_wp2
    refine ⟨by simp, .inl ⟨_, _, rfl, run_takeDeferred HD9.out, ?_⟩⟩
    have gk := grownBy_putObj' W9 D (Obj.deferred none)
    have hr : ∀ r, some D = some r → ∃ o : Obj, W9.heap[r]? = some o ∧ o.isCells = false := fun r e => by cases e; exact ⟨_, HD9.out, rfl⟩
    have ux := HX9.out.grown gk hr
    have u2 := H29.out.own gk hr
    have uB : Below w.heap.size w (W9.putObj D (.deferred none)) := HB9.out.grown gk HB9.out.size (fun k e => by cases e; omega)
    have z1 := ux.a.cell
    have z2 := ux.b.cell
    have z3 := ux.c.cell
    refine ⟨.tuple #[.slice Av vs.length cv, .slice Au us.length cu, .int .i64 0], by simp [results, Tryd.results11, go_sem, z1, z2, z3], _, _, by rw [E2.out], ?_, ?_, uB⟩
    · rw [E3.out]; exact RowI.of_R u2.a
    · rw [E4.out]; exact RowI.of_R u2.b
  case stop =>
    rintro D c' pre W hD hpre hi hK
    obtain ⟨rfl, ⟨pre', x, rfl, h1, h2, h3⟩, hbel⟩ := hi
    have e1 : eTo m b xs n = er m b xs x := plan_first hpre h1 h2
    have e2 : planE m b xs = er m b xs x := by unfold planE; rw [if_pos HOK.out, HN.out, e1]
    have e3 : planB m b xs = [] := by unfold planB; rw [if_neg (by rw [e2]; exact h2)]
    have e4 : planP m b xs = [] := by unfold planP; rw [if_neg (by rw [e2]; exact h2)]
    have E2 := Aside0.mk e2
    have E3 := Aside0.mk e3
    have E4 := Aside0.mk e4
    have HX := Aside0.mk h3
    have HBEL := Aside0.mk hbel
    have HD9 := Aside0.mk hK
    have HDD := Aside0.mk hD
    clear h1 h2 h3 hpre hbel hK e1 e2 e3 e4 hD hx5 ht5 hb5 hI hpw hNp hp1 hs5
    gi_wp2
    refine ⟨by simp, .inl ⟨_, _, rfl, run_takeDeferred HD9.out, ?_⟩⟩
    have gk := grownBy_putObj' W D (Obj.deferred none)
    have hr : ∀ r, some D = some r → ∃ o : Obj, W.heap[r]? = some o ∧ o.isCells = false := fun r e => by cases e; exact ⟨_, HD9.out, rfl⟩
    have ux := HX.out.grown gk hr
    have uB : Below w.heap.size w (W.putObj D (.deferred none)) := HBEL.out.grown gk HBEL.out.size (fun k e => by cases e; have := HDD.out; have := HS5.out; have := HP1.out; have := HNP.out; have := HNN.out; omega)
    have z1 := ux.a.cell
    have z2 := ux.b.cell
    have z3 := ux.c.cell
    refine ⟨.tuple #[.slice none 0 0, .slice none 0 0, .int .i64 (er m b xs x)], by simp [results, Tryd.results11, go_sem, z1, z2, z3], _, _, by rw [E2.out], ?_, ?_, uB⟩
    · rw [E3.out]; exact RowI.nil _
    · rw [E4.out]; exact RowI.nil _
end Go.Proofs.YtacoekniljimoaaDoor.Res
