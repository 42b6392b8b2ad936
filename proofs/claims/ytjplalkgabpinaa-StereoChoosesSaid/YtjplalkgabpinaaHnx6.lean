/- The machine's side of laws of the seat Ytjplalkgabpinaa, printed by a program of this session over the kit's printer: functions of the Go program as Lean functions, each with a proof that the call computes it. Conditions: none beyond each theorem's own. -/
import Derived.Test.YtjplalkgabpinaaHnx0
import Derived.Test.YtjplalkgabpinaaHnx1
import Derived.Test.YtjplalkgabpinaaHnx2
import Derived.Test.YtjplalkgabpinaaHnx4
namespace Go.Proofs.Ytjplalkgabpinaa.Hn
open Go.RowKit Go.Proofs.YtjplalkgabpinaaW.PrintWords Go.Proofs.YtjplalkgabpinaaW.PrintLast Go.Proofs.YtjplalkgabpinaaW.PrintMore
attribute [local go_sem] max2_int min2_int max_two min_two max_three min_three max_four min_four   -- for this text's walks alone
set_option linter.unusedVariables false
set_option linter.unusedSimpArgs false

/-! ### stereo_Couple: function 13 (by hand) -/
section
-- stereo_gains.calls: what stands beside it is used here
attribute [local go_sem] Oper.semAt_some
/-- A block of cells, known whole. -/
def Whole (W : World) (B : Nat) (t : TypeId) (vs : Array Value) : Prop := W.heap[B]? = some (.cells vs t (0, 0))
theorem Whole.lt {W : World} {B : Nat} {t : TypeId} {vs : Array Value} (h : Whole W B t vs) : B < W.heap.size := (Array.getElem?_eq_some_iff.1 h).1
theorem Whole.kept {W W' : World} {row : Option Nat} {B : Nat} {t : TypeId} {vs : Array Value} (h : Whole W B t vs) (hg : W.grownBy W' row) (hne : some B ≠ row) : Whole W' B t vs := (hg.block B h.lt hne).trans h
theorem Whole.below {W W' : World} {B : Nat} {t : TypeId} {vs : Array Value} (h : Whole W B t vs) (hb : Below W.heap.size W W') : Whole W' B t vs := (hb.block B h.lt).trans h
theorem Whole.alloc {W : World} {B : Nat} {t : TypeId} {vs : Array Value} (h : Whole W B t vs) (o : Obj) : Whole (W.alloc o) B t vs := h.kept (World.grownBy_alloc W o none) (by simp)
theorem Whole.other {W : World} {B B' : Nat} {t : TypeId} {vs : Array Value} (h : Whole W B t vs) (hne : B ≠ B') (k : Nat) (u : Value) : Whole (W.setCell ⟨B', k, none⟩ u) B t vs := (Below.heap_setCell W ⟨B', k, none⟩ u B hne).trans h
theorem Whole.cell {W : World} {B : Nat} {t : TypeId} {vs : Array Value} (h : Whole W B t vs) (k : Nat) : W.cell? ⟨B, k, none⟩ = vs[k]? := by simp [World.cell?, show W.heap[B]? = _ from h]
theorem Whole.frozen {W : World} {B : Nat} {t : TypeId} {vs : Array Value} (h : Whole W B t vs) (k : Nat) : W.frozen? ⟨B, k, none⟩ = false := by simp [World.frozen?, show W.heap[B]? = _ from h]
theorem Whole.set {W : World} {B : Nat} {t : TypeId} {vs : Array Value} (h : Whole W B t vs) (k : Nat) (u : Value) : Whole (W.setCell ⟨B, k, none⟩ u) B t (vs.setIfInBounds k u) := by
  obtain ⟨hlt, hk⟩ := Array.getElem?_eq_some_iff.1 h
  show (W.heap.modify B _)[B]? = _
  rw [Array.getElem?_eq_getElem (by rw [Array.size_modify]; exact hlt), Array.getElem_modify_self, hk]
  rfl
theorem Whole.new {W : World} {B : Nat} (hB : B = W.heap.size) (t : TypeId) (vs : Array Value) : Whole (W.alloc (.cells vs t)) B t vs := by subst hB; exact World.alloc_heap_new W _
theorem whole_own {β : Type} (B : Nat) (t : TypeId) (f : β → Array Value) : Own (fun s W => Whole W B t (f s)) := fun s X Y row hs hg hrow =>
  hs.kept hg (fun e' => by obtain ⟨o, ho, hc⟩ := hrow B e'.symm; rw [show X.heap[B]? = _ from hs] at ho; cases ho; cases hc)
/-- Numbers as cells. -/
def rowV (l : List Int) : Array Value := (l.map (Value.int .i64)).toArray
theorem rowV_set (l : List Int) (i : Nat) (v : Int) : (rowV l).setIfInBounds i (.int .i64 v) = rowV (l.set i v) := by
  unfold rowV; rw [List.setIfInBounds_toArray, List.map_set]
theorem rowV_size (l : List Int) : (rowV l).size = l.length := by simp [rowV]
def zero128 : Array Value := rowV (List.replicate 128 0)
theorem make128 : ∀ w : World, (Instr.makeSlice 22 (.int .i64 128) (.int .i64 128)).run Try.prog w = .ok (.slice (some ⟨w.heap.size, 0, none⟩) 128 128) (w.alloc (.cells zero128 3)) := fun _ => by kernel_rfl
/-- Pairs n of a band from a on are changed. -/
def updP (P : Int → Int → Int × Int) (l r : List Int) (s : List Int × List Int) (a : Nat) : Nat → List Int × List Int
  | 0 => s
  | n + 1 => ((updP P l r s a n).1.set (a + n) (P (rd l ((a + n : Nat) : Int)) (rd r ((a + n : Nat) : Int))).1, (updP P l r s a n).2.set (a + n) (P (rd l ((a + n : Nat) : Int)) (rd r ((a + n : Nat) : Int))).2)
theorem updP_length (P : Int → Int → Int × Int) (l r : List Int) (s : List Int × List Int) (a n : Nat) : (updP P l r s a n).1.length = s.1.length ∧ (updP P l r s a n).2.length = s.2.length := by
  induction n with
  | zero => exact ⟨rfl, rfl⟩
  | succ n ih => simp [updP, ih]
def cStep (P : Int → Int → Int × Int) (l r ws : List Int) (mid : List Bool) (s : Nat × (List Int × List Int)) (x : Nat) : Nat × (List Int × List Int) :=
  (s.1 + 1, if rdOf false mid (s.1 : Int) = true then updP P l r s.2 (offN ws x) (offN ws (x + 1) - offN ws x) else s.2)
def cSt (P : Int → Int → Int × Int) (l r ws : List Int) (mid : List Bool) (pre : List Nat) : Nat × (List Int × List Int) := pre.foldl (cStep P l r ws mid) (0, (l, r))
theorem cSt_snoc (P : Int → Int → Int × Int) (l r ws : List Int) (mid : List Bool) (pre : List Nat) (x : Nat) : cSt P l r ws mid (pre ++ [x]) = cStep P l r ws mid (cSt P l r ws mid pre) x := by simp [cSt]
theorem cSt_fst (P : Int → Int → Int × Int) (l r ws : List Int) (mid : List Bool) (pre : List Nat) : (cSt P l r ws mid pre).1 = pre.length := by
  have key : ∀ (pre : List Nat) (s : Nat × (List Int × List Int)), (pre.foldl (cStep P l r ws mid) s).1 = s.1 + pre.length := by
    intro pre
    induction pre with
    | nil => exact fun s => rfl
    | cons x pre ih => intro s; rw [List.foldl_cons, ih]; simp [cStep]; omega
  have := key pre (0, (l, r))
  simpa [cSt] using this
theorem cSt_length (P : Int → Int → Int × Int) (l r ws : List Int) (mid : List Bool) (pre : List Nat) : (cSt P l r ws mid pre).2.1.length = l.length ∧ (cSt P l r ws mid pre).2.2.length = r.length := by
  have key : ∀ (pre : List Nat) (s : Nat × (List Int × List Int)), (pre.foldl (cStep P l r ws mid) s).2.1.length = s.2.1.length ∧ (pre.foldl (cStep P l r ws mid) s).2.2.length = s.2.2.length := by
    intro pre
    induction pre with
    | nil => exact fun s => ⟨rfl, rfl⟩
    | cons x pre ih =>
      intro s
      rw [List.foldl_cons, (ih _).1, (ih _).2]
      unfold cStep
      dsimp only
      split
      · exact updP_length P l r s.2 _ _
      · exact ⟨rfl, rfl⟩
  exact key pre (0, (l, r))
def midP (a b : Int) : Int × Int := (b + (a - b) / 2, a - b)
def sidP (a b : Int) : Int × Int := (a - b / 2 + b, a - b / 2)
theorem how30_calls (a b p q : Int) (w : World) (h0 : -8388608 ≤ a) (h1 : a ≤ 8388608) (h2 : -8388608 ≤ b) (h3 : b ≤ 8388608) (hp : (midP a b).1 = p) (hq : (midP a b).2 = q) :
    Calls Try.prog 30 #[.int .i64 a, .int .i64 b] w fun e w' => e = .returned (.tuple #[.int .i64 p, .int .i64 q, .int .i64 0]) ∧ Below w.heap.size w w' := by
  subst hp hq
  exact lift_Mid.calls a b _ _ 0 w (by
    unfold lift_Mid.f inB midP
    rw [if_pos (by simp; omega), if_pos (by simp; omega)])
theorem how42_calls (a b p q : Int) (w : World) (h0 : -8388608 ≤ a) (h1 : a ≤ 8388608) (h2 : -8388608 ≤ b) (h3 : b ≤ 8388608) (hp : (sidP a b).1 = p) (hq : (sidP a b).2 = q) :
    Calls Try.prog 42 #[.int .i64 a, .int .i64 b] w fun e w' => e = .returned (.tuple #[.int .i64 p, .int .i64 q, .int .i64 0]) ∧ Below w.heap.size w w' := by
  subst hp hq
  exact lift_Sides.calls a b _ _ 0 w (by
    unfold lift_Sides.f inB sidP
    rw [if_pos (by simp; omega), if_pos (by simp; omega)])
theorem src_cells {w : World} {A : Option Addr} {l : List Int} (h : Kd.C (Kd.int .i64) w A 128 l) (hl : l.length = 128) : ∃ ad, A = some ad ∧ ∀ (j : Nat) (v : Value), (l.map (Value.int .i64))[j]? = some v → w.cell? (ad.add j) = some v := by
  obtain ⟨ad, e, _⟩ := Kd.at_int h 0 (by omega) (by omega)
  refine ⟨ad, e, fun j v hv => ?_⟩
  rw [List.getElem?_map] at hv
  obtain ⟨x, hx, rfl⟩ := Option.map_eq_some_iff.1 hv
  obtain ⟨hj, hx'⟩ := List.getElem?_eq_some_iff.1 hx
  obtain ⟨ad2, e2, hc⟩ := Kd.at_int h (j : Int) (by omega) (by omega)
  rw [e] at e2
  cases e2
  rw [Int.toNat_natCast, rd_get l j hj, hx'] at hc
  exact hc
theorem whole_copy (l : List Int) (hl : l.length = 128) : (zero128.toList.take 0 ++ (l.map (Value.int .i64) ++ zero128.toList.drop (0 + (l.map (Value.int .i64)).length))).toArray = rowV l := by
  have h1 : zero128.toList.length = 128 := by simp [zero128, rowV]
  rw [List.drop_of_length_le (by rw [h1, List.length_map, hl]; omega)]
  simp [rowV]
theorem setRow_whole {W : World} {g : Nat} {t : TypeId} {vs cs : Array Value} (h : Whole W g t vs) : Whole (W.setRow g cs) g t cs := setRow_heap W g _ _ t _ h
theorem setRow_else {W : World} {g B : Nat} {t : TypeId} {vs cs : Array Value} (h : Whole W B t vs) (hne : B ≠ g) : Whole (W.setRow g cs) B t vs := (setRow_other W g B cs hne).trans h
theorem ends_calls (A : Option Addr) (len cap : Nat) (w : World) :
    Calls Try.prog 52 #[.slice A len cap] w fun e w' => e = .returned (.func (.func 56) #[] #[.pointer (some ⟨w.heap.size, 0, none⟩)]) ∧ w' = w.alloc (.cells #[.slice A len cap] 22) := (callsIn_wide (n := 3)).1 (ends_in Fence.wide 3 trivial rfl A len cap w)
/-- All but two rows stays. -/
structure KB (x y : Nat) (W W' : World) : Prop where
  os : W'.os = W.os
  tape : W'.tape = W.tape
  output : W'.output = W.output
  size : W.heap.size ≤ W'.heap.size
  block : ∀ k, k < W.heap.size → k ≠ x → k ≠ y → W'.heap[k]? = W.heap[k]?
theorem KB.refl (x y : Nat) (W : World) : KB x y W W := ⟨rfl, rfl, rfl, Nat.le_refl _, fun _ _ _ _ => rfl⟩
theorem KB.drew {x y : Nat} {W W' : World} (h : KB x y W W') : KB x y W W'.drew := ⟨h.os, h.tape, h.output, h.size, h.block⟩
theorem KB.to_below {x y : Nat} {W W' W'' : World} (h : KB x y W W') (hb : Below W'.heap.size W' W'') : KB x y W W'' :=
  ⟨hb.os.trans h.os, hb.tape.trans h.tape, hb.output.trans h.output, Nat.le_trans h.size hb.size, fun k hk h1 h2 => (hb.block k (Nat.lt_of_lt_of_le hk h.size)).trans (h.block k hk h1 h2)⟩
theorem KB.trans {x y : Nat} {W W' W'' : World} (h : KB x y W W') (k : KB x y W' W'') : KB x y W W'' :=
  ⟨k.os.trans h.os, k.tape.trans h.tape, k.output.trans h.output, Nat.le_trans h.size k.size, fun i hi h1 h2 => (k.block i (Nat.lt_of_lt_of_le hi h.size) h1 h2).trans (h.block i hi h1 h2)⟩
theorem KB.set {x y : Nat} {W W' : World} (h : KB x y W W') {g : Nat} (hg : g = x ∨ g = y) (i : Nat) (v : Value) : KB x y W (W'.setCell ⟨g, i, none⟩ v) :=
  ⟨h.os, h.tape, h.output, Nat.le_trans h.size (KeepsWalks.setCell W' _ v).size, fun k hk h1 h2 => (Below.heap_setCell _ ⟨g, i, none⟩ v k (by rcases hg with rfl | rfl <;> assumption)).trans (h.block k hk h1 h2)⟩
theorem KB.below {x y n : Nat} {W W' : World} (h : KB x y W W') (hn : n ≤ W.heap.size) (hx : n ≤ x) (hy : n ≤ y) : Below n W W' :=
  ⟨h.os, h.tape, h.output, h.size, fun k hk => h.block k (by omega) (by omega) (by omega)⟩
theorem KB.boxed {x y B : Nat} {W W' : World} {t : TypeId} {v : Value} (h : KB x y W W') (hb : Boxed W B t v) (h1 : B ≠ x) (h2 : B ≠ y) : Boxed W' B t v := (h.block B hb.lt h1 h2).trans hb
theorem KB.cell {x y : Nat} {W W' : World} (h : KB x y W W') {a : Addr} {v : Value} (hc : W.cell? a = some v) (h1 : a.block ≠ x) (h2 : a.block ≠ y) : W'.cell? a = some v :=
  (World.cell?_of_block (h.block a.block (World.block_lt_of_cell? W a hc) h1 h2)).trans hc
theorem KB.keeps {x y t u : Nat} {W W' : World} {vs us : Array Value} (h : KB x y W W') (hx : Whole W x t vs) (hy : Whole W y u us) : KeepsOthers W W' := by
  refine ⟨h.size, fun k o hk ho => ?_⟩
  have h1 : k ≠ x := by
    rintro rfl
    rw [show W.heap[k]? = _ from hx] at hk
    cases hk
    cases ho
  have h2 : k ≠ y := by
    rintro rfl
    rw [show W.heap[k]? = _ from hy] at hk
    cases hk
    cases ho
  exact (h.block k (Array.getElem?_eq_some_iff.1 hk).1 h1 h2).trans hk
/-- A region that draws its order, in a round, under a condition on the world. -/
theorem wpIn_round_held {l n : Nat} {P : Program} {id : Nat} {Q : Exit → Act → World → Prop} {a : Act} {w : World} {ops : Array Oper} (S : World → Prop) (hm : P.follows .mixedOrders = true) (hd : noDefer ops = true) (hS : S w.drew)
    (h : S w.drew → wpAnyH P .any ops (plainOut Q) S ops.size (Array.replicate ops.size false) a w.drew) : (Code.region id ops true).wpIn (Fence.wide.inRound l) n P Q a w :=
  wpIn_region_any hm (any_round hd _ _ _ _ (wpAny_of_held _ _ _ _ (h hS)))
theorem own_of_whole {W : World} {g base : Nat} {X : List Int} (h : Whole W g 3 (rowV X)) (hX : X.length = 128) (hb : base ≤ g) : W.ownsRow base 3 1 (.slice (some ⟨g, 0, none⟩) 128 128) X.length (X.map (Value.int .i64)) := by
  have h1 : (rowV X).toList.take (128 * 1) = X.map (Value.int .i64) := by
    show List.take 128 (X.map (Value.int .i64)).toArray.toList = _
    rw [List.toList_toArray, List.take_of_length_le (by rw [List.length_map, hX]; exact Nat.le_refl _)]
  rw [hX]
  exact ⟨by simp [hX], .inr ⟨g, 128, rowV X, rfl, hb, h, Nat.le_refl _, by unfold maxLen; omega, by rw [rowV_size, hX], h1⟩⟩
/-- What coupled answers. -/
def cplV (P : Int → Int → Int × Int) (m : Int) (l r ws : List Int) (mid : List Bool) : List Int × List Int × Int :=
  if chkV l r ws m = 1 then ([], [], 1) else if mid.length ≠ ws.length then ([], [], 4) else if chkV l r ws m ≠ 0 then ([], [], chkV l r ws m) else ((cSt P l r ws mid (List.range ws.length)).2.1, (cSt P l r ws mid (List.range ws.length)).2.2, 0)
attribute [local go_sem] Oper.semAt_some
set_option maxRecDepth 100000 in
set_option maxHeartbeats 8000000 in
theorem couple30_calls (A0 A1 A2 A3 : Option Addr) (c0 c1 c2 c3 : Nat) (l r ws : List Int) (mid : List Bool) (w : World) (hl : Kd.C (Kd.int .i64) w A0 l.length l) (hr : Kd.C (Kd.int .i64) w A1 r.length r) (hw : Kd.C (Kd.int .i64) w A2 ws.length ws) (hm : Kd.C Kd.bool w A3 mid.length mid) (hln : l.length = 128) (hrn : r.length = 128) (hwo : WOk ws) (hml : mid.length = ws.length) (hlc : Coefs 8388608 l) (hrc : Coefs 8388608 r) :
    Calls Try.prog 49 #[.slice A0 128 c0, .slice A1 128 c1, .slice A2 ws.length c2, .slice A3 mid.length c3, .func (.func 30) #[] #[]] w fun e w' =>
      ∃ v0_ v1_ : Value, e = .returned (.tuple #[v0_, v1_]) ∧ Kd.R (Kd.int .i64) 3 w' w.heap.size (fun k_ => some k_ ≠ v1_.ownBlock) v0_ (cSt midP l r ws mid (List.range ws.length)).2.1 ∧ Kd.R (Kd.int .i64) 3 w' w.heap.size (fun k_ => some k_ ≠ v0_.ownBlock) v1_ (cSt midP l r ws mid (List.range ws.length)).2.2 ∧ Below w.heap.size w w' := by
  rw [hln] at hl
  rw [hrn] at hr
  have HL := Aside0.mk hl
  have HR := Aside0.mk hr
  have HW := Aside0.mk hw
  have HM := Aside0.mk hm
  have HLN := Aside0.mk hln
  have HRN := Aside0.mk hrn
  have HWO := Aside0.mk hwo
  have HLC := Aside0.mk hlc
  have HRC := Aside0.mk hrc
  have hlen : ws.length ≤ 32 := hwo.2.2.2
  have HML := Aside0.mk hml
  clear hl hr hw hm hln hrn hwo hlc hrc hml
  have hmk := make128
  obtain ⟨N, hN⟩ : ∃ N, N = w.heap.size := ⟨_, rfl⟩
  refine (callsIn_wide (n := 3)).1 ?_
  refine callsIn_of_wp_marks Try.func49 rfl trivial ?_ rfl
  simp only [Try.ntmps49, List.size_toArray, List.length_cons, List.length_nil, Nat.reduceAdd, Nat.reduceSub, Array.replicate_succ, Array.replicate_zero, List.push_toArray, List.append_toArray, List.nil_append, List.cons_append]
  refine wpIn_wide.2 ?_
  go_wp2
  go_step3
  go_upto_region 1 with (fail)
  have b0 := Boxed.new w 22 (.slice A0 128 c0)
  have b1 := Boxed.new (w.alloc (.cells #[.slice A0 128 c0] 22)) 22 (.slice A1 128 c1)
  have b2 := Boxed.new ((w.alloc (.cells #[.slice A0 128 c0] 22)).alloc (.cells #[.slice A1 128 c1] 22)) 27 (.slice A3 mid.length c3)
  have b3 := Boxed.new (((w.alloc (.cells #[.slice A0 128 c0] 22)).alloc (.cells #[.slice A1 128 c1] 22)).alloc (.cells #[.slice A3 mid.length c3] 27)) 45 (.func (.func 30) #[] #[])
  have b4 := Boxed.new ((((w.alloc (.cells #[.slice A0 128 c0] 22)).alloc (.cells #[.slice A1 128 c1] 22)).alloc (.cells #[.slice A3 mid.length c3] 27)).alloc (.cells #[.func (.func 30) #[] #[]] 45)) 22 (.slice none 0 0)
  have b5 := Boxed.new (((((w.alloc (.cells #[.slice A0 128 c0] 22)).alloc (.cells #[.slice A1 128 c1] 22)).alloc (.cells #[.slice A3 mid.length c3] 27)).alloc (.cells #[.func (.func 30) #[] #[]] 45)).alloc (.cells #[.slice none 0 0] 22)) 22 (.slice none 0 0)
  simp only [World.size_alloc] at b0 b1 b2 b3 b4 b5
  have hB6 : Below w.heap.size w ((((((w.alloc (.cells #[.slice A0 128 c0] 22)).alloc (.cells #[.slice A1 128 c1] 22)).alloc (.cells #[.slice A3 mid.length c3] 27)).alloc (.cells #[.func (.func 30) #[] #[]] 45)).alloc (.cells #[.slice none 0 0] 22)).alloc (.cells #[.slice none 0 0] 22)) := (((((((Below.refl _ w).alloc (Nat.le_refl _) _).alloc (by simp) _).alloc (by simp; omega) _).alloc (by simp; omega) _).alloc (by simp; omega) _).alloc (by simp; omega) _)
  replace b0 := ((((b0.alloc (.cells #[.slice A1 128 c1] 22)).alloc (.cells #[.slice A3 mid.length c3] 27)).alloc (.cells #[.func (.func 30) #[] #[]] 45)).alloc (.cells #[.slice none 0 0] 22)).alloc (.cells #[.slice none 0 0] 22)
  replace b1 := (((b1.alloc (.cells #[.slice A3 mid.length c3] 27)).alloc (.cells #[.func (.func 30) #[] #[]] 45)).alloc (.cells #[.slice none 0 0] 22)).alloc (.cells #[.slice none 0 0] 22)
  replace b2 := ((b2.alloc (.cells #[.func (.func 30) #[] #[]] 45)).alloc (.cells #[.slice none 0 0] 22)).alloc (.cells #[.slice none 0 0] 22)
  replace b3 := (b3.alloc (.cells #[.slice none 0 0] 22)).alloc (.cells #[.slice none 0 0] 22)
  replace b4 := b4.alloc (.cells #[.slice none 0 0] 22)
  obtain ⟨W6, hW6⟩ : ∃ W6, W6 = ((((((w.alloc (.cells #[.slice A0 128 c0] 22)).alloc (.cells #[.slice A1 128 c1] 22)).alloc (.cells #[.slice A3 mid.length c3] 27)).alloc (.cells #[.func (.func 30) #[] #[]] 45)).alloc (.cells #[.slice none 0 0] 22)).alloc (.cells #[.slice none 0 0] 22)) := ⟨_, rfl⟩
  have hs6 : W6.heap.size = w.heap.size + 6 := by rw [hW6]; simp
  rw [← hW6] at b0 b1 b2 b3 b4 b5 hB6 ⊢
  rw [← hN] at b0 b1 b2 b3 b4 b5 hB6 hs6 ⊢
  clear hW6
  have B0 := Aside0.mk b0
  have B1 := Aside0.mk b1
  have B2 := Aside0.mk b2
  have B3 := Aside0.mk b3
  have B4 := Aside0.mk b4
  have B5 := Aside0.mk b5
  have HB6 := Aside0.mk hB6
  have HS6 := Aside0.mk hs6
  have HN := Aside0.mk hN
  have hc0 := b0.cell
  have hc1 := b1.cell
  have hc4 := b4.cell
  have hc5 := b5.cell
  have hf4 := b4.frozen
  have hf5 := b5.frozen
  have ne0 := World.new_ne W6 _ hc0
  have ne1 := World.new_ne W6 _ hc1
  have k0a := fun o o' => ((B0.out.alloc o).alloc o').cell
  have k1a := fun o o' => ((B1.out.alloc o).alloc o').cell
  have k4a := fun o => (B4.out.alloc o).cell
  have g4a := fun o => (B4.out.alloc o).frozen
  have k4b := fun o o' => ((B4.out.alloc o).alloc o').cell
  have g4b := fun o o' => ((B4.out.alloc o).alloc o').frozen
  have k5b := fun o o' => ((B5.out.alloc o).alloc o').cell
  have g5b := fun o o' => ((B5.out.alloc o).alloc o').frozen
  have k5c := fun o u o' => (((B5.out.alloc o).other (B' := N + 1 + 1 + 1 + 1) (by omega) u).alloc o').cell
  have g5c := fun o u o' => (((B5.out.alloc o).other (B' := N + 1 + 1 + 1 + 1) (by omega) u).alloc o').frozen
  have k0c := fun o u o' => (((B0.out.alloc o).other (B' := N + 1 + 1 + 1 + 1) (by omega) u).alloc o').cell
  have k1c := fun o u o' => (((B1.out.alloc o).other (B' := N + 1 + 1 + 1 + 1) (by omega) u).alloc o').cell
  have k0d := fun o o' u => (((B0.out.alloc o).alloc o').other (B' := N + 1 + 1 + 1 + 1) (by omega) u).cell
  have k0e := fun o u => ((B0.out.alloc o).other (B' := N + 1 + 1 + 1 + 1) (by omega) u).cell
  have k0f := fun o o' u u' => ((((B0.out.alloc o).alloc o').other (B' := N + 1 + 1 + 1 + 1) (by omega) u).other (B' := N + 1 + 1 + 1 + 1 + 1) (by omega) u').cell
  have k0g := fun o u o' u' => ((((B0.out.alloc o).other (B' := N + 1 + 1 + 1 + 1) (by omega) u).alloc o').other (B' := N + 1 + 1 + 1 + 1 + 1) (by omega) u').cell
  have k1d := fun o o' u => (((B1.out.alloc o).alloc o').other (B' := N + 1 + 1 + 1 + 1) (by omega) u).cell
  have k1e := fun o u => ((B1.out.alloc o).other (B' := N + 1 + 1 + 1 + 1) (by omega) u).cell
  have k1f := fun o o' u u' => ((((B1.out.alloc o).alloc o').other (B' := N + 1 + 1 + 1 + 1) (by omega) u).other (B' := N + 1 + 1 + 1 + 1 + 1) (by omega) u').cell
  have k1g := fun o u o' u' => ((((B1.out.alloc o).other (B' := N + 1 + 1 + 1 + 1) (by omega) u).alloc o').other (B' := N + 1 + 1 + 1 + 1 + 1) (by omega) u').cell
  clear b0 b1 b2 b3 b4 b5 hB6 hs6 hN
  go_cut [] from 16 to 21 (fun wx => ∃ bx b_y : Nat, Boxed wx N 22 (.slice A0 128 c0) ∧ Boxed wx (N + 1) 22 (.slice A1 128 c1) ∧ Boxed wx (N + 1 + 1) 27 (.slice A3 mid.length c3) ∧ Boxed wx (N + 1 + 1 + 1) 45 (.func (.func 30) #[] #[]) ∧ Boxed wx (N + 1 + 1 + 1 + 1) 22 (.slice (some ⟨bx, 0, none⟩) 128 128) ∧ Boxed wx (N + 1 + 1 + 1 + 1 + 1) 22 (.slice (some ⟨b_y, 0, none⟩) 128 128) ∧ Whole wx bx 3 zero128 ∧ Whole wx b_y 3 zero128 ∧ bx ≠ b_y ∧ N + 6 ≤ bx ∧ N + 6 ≤ b_y ∧ Below N w wx)
  case first =>
    go_region_held3 (fun w' => w'.cell? ⟨N, 0, none⟩ = some (.slice A0 128 c0) ∧ w'.cell? ⟨N + 1, 0, none⟩ = some (.slice A1 128 c1)) (go_keep) (fail)
    · go_wp2_with fail
      go_meet
      exact ⟨W6.heap.size, W6.heap.size + 1, ((((B0.out.alloc _).alloc _).other (by omega) _).other (by omega) _), ((((B1.out.alloc _).alloc _).other (by omega) _).other (by omega) _), ((((B2.out.alloc _).alloc _).other (by omega) _).other (by omega) _), ((((B3.out.alloc _).alloc _).other (by omega) _).other (by omega) _), (((B4.out.alloc _).alloc _).set _).other (by omega) _, ((((B5.out.alloc _).alloc _).other (by omega) _).set _), ((((Whole.new rfl 3 zero128).alloc _).other (by have := HS6.out; omega) 0 _).other (by have := HS6.out; omega) 0 _), (((Whole.new (by simp) 3 zero128).other (by have := HS6.out; omega) 0 _).other (by have := HS6.out; omega) 0 _), by omega, by have := HS6.out; omega, by have := HS6.out; omega, pw_below_drewN ((((HB6.out.alloc (by have := HS6.out; omega) _).alloc (by simp; have := HS6.out; omega) _).setCell (p := ⟨N + 1 + 1 + 1 + 1, 0, none⟩) (by simp; omega) _).setCell (p := ⟨N + 1 + 1 + 1 + 1 + 1, 0, none⟩) (by simp; omega) _) 1⟩
    · go_wp2_with fail
      go_meet
      exact ⟨W6.heap.size, W6.heap.size + 1, ((((B0.out.alloc _).other (by omega) _).alloc _).other (by omega) _), ((((B1.out.alloc _).other (by omega) _).alloc _).other (by omega) _), ((((B2.out.alloc _).other (by omega) _).alloc _).other (by omega) _), ((((B3.out.alloc _).other (by omega) _).alloc _).other (by omega) _), (((B4.out.alloc _).set _).alloc _).other (by omega) _, ((((B5.out.alloc _).other (by omega) _).alloc _).set _), ((((Whole.new rfl 3 zero128).other (by have := HS6.out; omega) 0 _).alloc _).other (by have := HS6.out; omega) 0 _), ((Whole.new (by simp) 3 zero128).other (by have := HS6.out; omega) 0 _), by omega, by have := HS6.out; omega, by have := HS6.out; omega, pw_below_drewN ((((HB6.out.alloc (by have := HS6.out; omega) _).setCell (p := ⟨N + 1 + 1 + 1 + 1, 0, none⟩) (by simp; omega) _).alloc (by simp; have := HS6.out; omega) _).setCell (p := ⟨N + 1 + 1 + 1 + 1 + 1, 0, none⟩) (by simp; omega) _) 1⟩
    · go_wp2_with fail
      go_meet
      exact ⟨W6.heap.size + 1, W6.heap.size, ((((B0.out.alloc _).alloc _).other (by omega) _).other (by omega) _), ((((B1.out.alloc _).alloc _).other (by omega) _).other (by omega) _), ((((B2.out.alloc _).alloc _).other (by omega) _).other (by omega) _), ((((B3.out.alloc _).alloc _).other (by omega) _).other (by omega) _), (((B4.out.alloc _).alloc _).set _).other (by omega) _, ((((B5.out.alloc _).alloc _).other (by omega) _).set _), (((Whole.new (by simp) 3 zero128).other (by have := HS6.out; omega) 0 _).other (by have := HS6.out; omega) 0 _), ((((Whole.new rfl 3 zero128).alloc _).other (by have := HS6.out; omega) 0 _).other (by have := HS6.out; omega) 0 _), by omega, by have := HS6.out; omega, by have := HS6.out; omega, pw_below_drewN ((((HB6.out.alloc (by have := HS6.out; omega) _).alloc (by simp; have := HS6.out; omega) _).setCell (p := ⟨N + 1 + 1 + 1 + 1, 0, none⟩) (by simp; omega) _).setCell (p := ⟨N + 1 + 1 + 1 + 1 + 1, 0, none⟩) (by simp; omega) _) 1⟩
  case rest =>
    obtain ⟨bx, b_y, b0, b1, b2, b3, b4, b5, hx, hy, hne, hbx, hby, hB⟩ := hcut
    clear hc0 hc1 hc4 hc5 hf4 hf5 ne0 ne1 k0a k1a k4a g4a k4b g4b k5b g5b k5c g5c k0c k1c k0d k0e k0f k0g k1d k1e k1f k1g B0 B1 B2 B3 B4 B5 HB6 HS6 hmk
    have hBw : Below w.heap.size w wc := by rw [← HN.out]; exact hB
    obtain ⟨adl, rfl, hsl⟩ := src_cells (Kd.C_below HL.out hBw) HLN.out
    obtain ⟨adr, rfl, hsr⟩ := src_cells (Kd.C_below HR.out hBw) HRN.out
    have B0 := Aside0.mk b0
    have B1 := Aside0.mk b1
    have B2 := Aside0.mk b2
    have B3 := Aside0.mk b3
    have B4 := Aside0.mk b4
    have B5 := Aside0.mk b5
    have HX := Aside0.mk hx
    have HY := Aside0.mk hy
    have HB := Aside0.mk hB
    have HSL := Aside0.mk hsl
    have HSR := Aside0.mk hsr
    have c0' := b0.cell
    have c1' := b1.cell
    have c4' := b4.cell
    have c5' := b5.cell
    clear b0 b1 b2 b3 b4 b5 hx hy hB hBw hsl hsr
    go_upto_region 3 with ((refine wpList_copy_own rfl (.tmp 22) (.tmp 23) 22 22 rfl 3 Try.underlying22 (by kernel_rfl) bx 0 128 128 adl 128 c0 rfl rfl zero128 3 HX.out (l.map (Value.int .i64)) (by rw [List.length_map, HLN.out]; rfl) HSL.out (by rw [List.length_map, HLN.out]; simp [zero128, rowV_size]) (by simp [Value.oneCell']) ?_); rw [whole_copy l HLN.out])
    obtain ⟨W2, hW2⟩ : ∃ W2, W2 = wc.setRow bx (rowV l) := ⟨_, rfl⟩
    have d0 : Boxed W2 N 22 (.slice (some adl) 128 c0) := by rw [hW2]; exact setRow_else (vs := #[_]) B0.out (by omega)
    have d1 : Boxed W2 (N + 1) 22 (.slice (some adr) 128 c1) := by rw [hW2]; exact setRow_else (vs := #[_]) B1.out (by omega)
    have d2 : Boxed W2 (N + 1 + 1) 27 (.slice A3 mid.length c3) := by rw [hW2]; exact setRow_else (vs := #[_]) B2.out (by omega)
    have d3 : Boxed W2 (N + 1 + 1 + 1) 45 (.func (.func 30) #[] #[]) := by rw [hW2]; exact setRow_else (vs := #[_]) B3.out (by omega)
    have d4 : Boxed W2 (N + 1 + 1 + 1 + 1) 22 (.slice (some ⟨bx, 0, none⟩) 128 128) := by rw [hW2]; exact setRow_else (vs := #[_]) B4.out (by omega)
    have d5 : Boxed W2 (N + 1 + 1 + 1 + 1 + 1) 22 (.slice (some ⟨b_y, 0, none⟩) 128 128) := by rw [hW2]; exact setRow_else (vs := #[_]) B5.out (by omega)
    have dx : Whole W2 bx 3 (rowV l) := by rw [hW2]; exact setRow_whole HX.out
    have dy : Whole W2 b_y 3 zero128 := by rw [hW2]; exact setRow_else HY.out (Ne.symm hne)
    have dB : Below N w W2 := by rw [hW2]; exact below_setRow HB.out (by omega) _
    rw [← hW2]
    clear hW2 B0 B1 B2 B3 B4 B5 HX HY HB HSL c0' c1' c4' c5' HSR
    have hBw : Below w.heap.size w W2 := by rw [← HN.out]; exact dB
    obtain ⟨adr2, er, hsr⟩ := src_cells (Kd.C_below HR.out hBw) HRN.out
    cases er
    have B0 := Aside0.mk d0
    have B1 := Aside0.mk d1
    have B2 := Aside0.mk d2
    have B3 := Aside0.mk d3
    have B4 := Aside0.mk d4
    have B5 := Aside0.mk d5
    have HX := Aside0.mk dx
    have HY := Aside0.mk dy
    have HB := Aside0.mk dB
    have HSR := Aside0.mk hsr
    have c1' := d1.cell
    have c5' := d5.cell
    clear d0 d1 d2 d3 d4 d5 dx dy dB hBw hsr
    go_upto_region 4 with ((refine wpList_copy_own rfl (.tmp 25) (.tmp 26) 22 22 rfl 3 Try.underlying22 (by kernel_rfl) b_y 0 128 128 adr 128 c1 rfl rfl zero128 3 HY.out (r.map (Value.int .i64)) (by rw [List.length_map, HRN.out]; rfl) HSR.out (by rw [List.length_map, HRN.out]; simp [zero128, rowV_size]) (by simp [Value.oneCell']) ?_); rw [whole_copy r HRN.out])
    obtain ⟨W3, hW3⟩ : ∃ W3, W3 = W2.setRow b_y (rowV r) := ⟨_, rfl⟩
    have d0 : Boxed W3 N 22 (.slice (some adl) 128 c0) := by rw [hW3]; exact setRow_else (vs := #[_]) B0.out (by omega)
    have d1 : Boxed W3 (N + 1) 22 (.slice (some adr) 128 c1) := by rw [hW3]; exact setRow_else (vs := #[_]) B1.out (by omega)
    have d2 : Boxed W3 (N + 1 + 1) 27 (.slice A3 mid.length c3) := by rw [hW3]; exact setRow_else (vs := #[_]) B2.out (by omega)
    have d3 : Boxed W3 (N + 1 + 1 + 1) 45 (.func (.func 30) #[] #[]) := by rw [hW3]; exact setRow_else (vs := #[_]) B3.out (by omega)
    have d4 : Boxed W3 (N + 1 + 1 + 1 + 1) 22 (.slice (some ⟨bx, 0, none⟩) 128 128) := by rw [hW3]; exact setRow_else (vs := #[_]) B4.out (by omega)
    have d5 : Boxed W3 (N + 1 + 1 + 1 + 1 + 1) 22 (.slice (some ⟨b_y, 0, none⟩) 128 128) := by rw [hW3]; exact setRow_else (vs := #[_]) B5.out (by omega)
    have dx : Whole W3 bx 3 (rowV l) := by rw [hW3]; exact setRow_else HX.out hne
    have dy : Whole W3 b_y 3 (rowV r) := by rw [hW3]; exact setRow_whole HY.out
    have dB : Below N w W3 := by rw [hW3]; exact below_setRow HB.out (by omega) _
    rw [← hW3]
    clear hW3 B0 B1 B2 B3 B4 B5 HX HY HB c1' c5' HSR
    go_wp2
    go_step3
    go_wp2_with (go_at_call 52; refine (ends_calls _ _ _ _).mono ?_; rintro e w' ⟨rfl, rfl⟩)
    refine (wpIn_wide (n := 3)).1 ?_
    have dT := Boxed.new W3 3 (.int .i64 0)
    have d2T := Boxed.new (W3.alloc (.cells #[.int .i64 0] 3)) 22 (.slice A2 ws.length c2)
    simp only [World.size_alloc] at dT d2T
    have hT : N + 6 ≤ W3.heap.size := by have := dx.lt; omega
    have hTx : bx < W3.heap.size := dx.lt
    have hTy : b_y < W3.heap.size := dy.lt
    have hNw : w.heap.size ≤ W3.heap.size := by have := HN.out; omega
    have hdB : Below w.heap.size w ((W3.alloc (.cells #[.int .i64 0] 3)).alloc (.cells #[.slice A2 ws.length c2] 22)) := by
      rw [← HN.out]
      exact (dB.alloc (by omega) _).alloc (by simp; omega) _
    refine wpIn_rangeFunc_ownG rfl (by omega) (gf := 56) (lb := #[.pointer (some ⟨W3.heap.size + 1, 0, none⟩)]) rfl trivial (enters_of Try.func56 (by kernel_rfl) rfl)
      (ends_stops Fence.wide 2 trivial rfl (by omega) (W3.heap.size + 1) A2 c2 ws HWO.out w _ hdB (by simp) d2T.cell HW.out) belowK_t (belowK_b (by simp; omega)) (Below.refl _ _) (fun _ => rfl)
      (fun pre W => Boxed W N 22 (.slice (some adl) 128 c0) ∧ Boxed W (N + 1) 22 (.slice (some adr) 128 c1) ∧ Boxed W (N + 1 + 1) 27 (.slice A3 mid.length c3) ∧ Boxed W (N + 1 + 1 + 1) 45 (.func (.func 30) #[] #[]) ∧ Boxed W (N + 1 + 1 + 1 + 1) 22 (.slice (some ⟨bx, 0, none⟩) 128 128) ∧ Boxed W (N + 1 + 1 + 1 + 1 + 1) 22 (.slice (some ⟨b_y, 0, none⟩) 128 128) ∧ Boxed W W3.heap.size 3 (.int .i64 (pre.length : Int)) ∧ Whole W bx 3 (rowV (cSt midP l r ws mid pre).2.1) ∧ Whole W b_y 3 (rowV (cSt midP l r ws mid pre).2.2) ∧ Below w.heap.size w W)
      (fun _ _ _ => False)
      (OwnFrom.and (Own.from (boxed_own N 22 (fun (_ : List Nat) => Value.slice (some adl) 128 c0)) _) (OwnFrom.and (Own.from (boxed_own (N + 1) 22 (fun (_ : List Nat) => Value.slice (some adr) 128 c1)) _) (OwnFrom.and (Own.from (boxed_own (N + 1 + 1) 27 (fun (_ : List Nat) => Value.slice A3 mid.length c3)) _) (OwnFrom.and (Own.from (boxed_own (N + 1 + 1 + 1) 45 (fun (_ : List Nat) => Value.func (.func 30) #[] #[])) _) (OwnFrom.and (Own.from (boxed_own (N + 1 + 1 + 1 + 1) 22 (fun (_ : List Nat) => Value.slice (some ⟨bx, 0, none⟩) 128 128)) _) (OwnFrom.and (Own.from (boxed_own (N + 1 + 1 + 1 + 1 + 1) 22 (fun (_ : List Nat) => Value.slice (some ⟨b_y, 0, none⟩) 128 128)) _) (OwnFrom.and (Own.from (boxed_own W3.heap.size 3 (fun (pre : List Nat) => Value.int .i64 (pre.length : Int))) _) (OwnFrom.and (Own.from (whole_own bx 3 (fun (pre : List Nat) => rowV (cSt midP l r ws mid pre).2.1)) _) (OwnFrom.and (Own.from (whole_own b_y 3 (fun (pre : List Nat) => rowV (cSt midP l r ws mid pre).2.2)) _) (ownFrom_below (Nat.le_refl _) (by have := hdB.size; exact this)))))))))))
      (fun _ _ _ _ _ hs _ _ => hs)
      ⟨(d0.alloc _).alloc _, (d1.alloc _).alloc _, (d2.alloc _).alloc _, (d3.alloc _).alloc _, (d4.alloc _).alloc _, (d5.alloc _).alloc _, dT.alloc _, (dx.alloc _).alloc _, (dy.alloc _).alloc _, hdB⟩
      (fun x => { tmps := #[.slice (some adl) 128 c0, .slice (some adr) 128 c1, .slice A2 ws.length c2, .slice A3 mid.length c3, .func (.func 30) #[] #[], .pointer (some ⟨N, 0, none⟩), .pointer (some ⟨N + 1, 0, none⟩), undef, .pointer (some ⟨N + 1 + 1, 0, none⟩), .pointer (some ⟨N + 1 + 1 + 1, 0, none⟩), .pointer (some ⟨N + 1 + 1 + 1 + 1, 0, none⟩), .pointer (some ⟨N + 1 + 1 + 1 + 1 + 1, 0, none⟩), .pointer (some ⟨W3.heap.size, 0, none⟩), .int .i64 (offN ws x : Int), .int .i64 (offN ws (x + 1) : Int), undef, u16, u17, u18, u19, u20, u21, .slice (some ⟨bx, 0, none⟩) 128 128, .slice (some adl) 128 c0, .int .i64 (l.length : Int), .slice (some ⟨b_y, 0, none⟩) 128 128, .slice (some adr) 128 c1, .int .i64 (r.length : Int), .slice A2 ws.length c2, .func (.func 56) #[] #[.pointer (some ⟨W3.heap.size + 1, 0, none⟩)], .int .i64 (offN ws x : Int), .int .i64 (offN ws (x + 1) : Int), undef, undef, undef, undef, undef, undef, undef, undef, undef, undef, undef, undef, undef, undef, undef, undef, undef, undef, undef, undef, undef, undef, undef, undef, undef, undef, undef, undef, undef, undef, undef, undef, undef, undef, undef, undef], defers := [] }) ?assign ?body ?done ?stop
    case assign =>
      intro l x W K hK
      gi_wp2
      exact hK
    case body =>
      rintro lr pre x W ⟨x0, x1, x2, x3, x4, x5, xT, wx, w_y, hB⟩ hlt
      have X0 := Aside0.mk x0
      have X1 := Aside0.mk x1
      have X2 := Aside0.mk x2
      have X3 := Aside0.mk x3
      have X4 := Aside0.mk x4
      have X5 := Aside0.mk x5
      have XT := Aside0.mk xT
      have WX := Aside0.mk wx
      have WY := Aside0.mk w_y
      have HBW := Aside0.mk hB
      have HLT := Aside0.mk hlt
      have hpl : pre.length < 32 := by omega
      have hml := HML.out
      have o1 := offN_le HWO.out x
      have o2 := offN_le HWO.out (x + 1)
      have o3 := offN_mono ws x
      obtain ⟨adm, em, hmc⟩ := Kd.at_bool HM.out (pre.length : Int) (by omega) (by omega)
      rw [Int.toNat_natCast] at hmc
      have hblk := World.block_lt_of_cell? w _ hmc
      have hmc1 := pw_cell_below hB hmc
      obtain ⟨W1, hW1⟩ : ∃ W1, W1 = W.setCell ⟨W3.heap.size, 0, none⟩ (.int .i64 ((pre.length : Int) + 1)) := ⟨_, rfl⟩
      have hmc2 : W1.cell? (adm.add pre.length) = some (.bool (rdOf false mid (pre.length : Int))) := by
        rw [hW1]
        exact (World.cell?_of_block (Below.heap_setCell _ _ _ _ (Nat.ne_of_lt (Nat.lt_of_lt_of_le hblk hNw)))).trans hmc1
      have y0 : Boxed W1 N 22 (.slice (some adl) 128 c0) := by rw [hW1]; exact x0.other (by omega) _
      have y1 : Boxed W1 (N + 1) 22 (.slice (some adr) 128 c1) := by rw [hW1]; exact x1.other (by omega) _
      have y2 : Boxed W1 (N + 1 + 1) 27 (.slice A3 mid.length c3) := by rw [hW1]; exact x2.other (by omega) _
      have y3 : Boxed W1 (N + 1 + 1 + 1) 45 (.func (.func 30) #[] #[]) := by rw [hW1]; exact x3.other (by omega) _
      have y4 : Boxed W1 (N + 1 + 1 + 1 + 1) 22 (.slice (some ⟨bx, 0, none⟩) 128 128) := by rw [hW1]; exact x4.other (by omega) _
      have y5 : Boxed W1 (N + 1 + 1 + 1 + 1 + 1) 22 (.slice (some ⟨b_y, 0, none⟩) 128 128) := by rw [hW1]; exact x5.other (by omega) _
      have yT : Boxed W1 W3.heap.size 3 (.int .i64 ((pre.length : Int) + 1)) := by rw [hW1]; exact xT.set _
      have yx : Whole W1 bx 3 (rowV (cSt midP l r ws mid pre).2.1) := by rw [hW1]; exact wx.other (by omega) 0 _
      have y_y : Whole W1 b_y 3 (rowV (cSt midP l r ws mid pre).2.2) := by rw [hW1]; exact w_y.other (by omega) 0 _
      have hB1 : Below w.heap.size W W1 := by rw [hW1]; exact (Below.refl _ _).setCell (p := ⟨W3.heap.size, 0, none⟩) hNw _
      have hK1 : KeepsOthers W W1 := by rw [hW1]; exact KeepsOthers.setCell _ _ _
      have HW1 := Aside0.mk hW1.symm
      have cT := xT.cell
      have fT := xT.frozen
      have cT1 := yT.cell
      have c21 := y2.cell
      subst em
      clear x0 x1 x2 x3 x4 x5 xT wx w_y hB hlt hmc hmc1 hW1 hml hblk
      have hsw := HW1.out
      have hix : (pre.length : Int) < (mid.length : Int) := by have := HML.out; have := HLT.out; omega
      have hix2 : pre.length < mid.length := by omega
      cases hm : rdOf false mid (pre.length : Int) with
      | false =>
        have hcs : cSt midP l r ws mid (pre ++ [x]) = (pre.length + 1, (cSt midP l r ws mid pre).2) := by rw [cSt_snoc]; unfold cStep; rw [cSt_fst, hm]; simp
        have HCS := Aside0.mk hcs
        rw [hm] at hmc2
        clear hcs hm
        gi_wp2
        exact ⟨hK1.from _, hB1, y0, y1, y2, y3, y4, y5, by simpa using yT, by rw [HCS.out]; exact yx, by rw [HCS.out]; exact y_y, HBW.out.trans hB1⟩
      | true =>
        have hcs : cSt midP l r ws mid (pre ++ [x]) = (pre.length + 1, updP midP l r (cSt midP l r ws mid pre).2 (offN ws x) (offN ws (x + 1) - offN ws x)) := by rw [cSt_snoc]; unfold cStep; rw [cSt_fst, hm]; simp
        have HCS := Aside0.mk hcs
        rw [hm] at hmc2
        clear hcs hm
        have hcl := cSt_length midP l r ws mid pre
        rw [HLN.out, HRN.out] at hcl
        obtain ⟨S, hS⟩ : ∃ S, S = (cSt midP l r ws mid pre).2 := ⟨_, rfl⟩
        obtain ⟨a, ha⟩ : ∃ a, a = offN ws x := ⟨_, rfl⟩
        obtain ⟨b, hb⟩ : ∃ b, b = offN ws (x + 1) := ⟨_, rfl⟩
        rw [← ha] at o1 o3 HCS ⊢
        rw [← hb] at o2 o3 HCS ⊢
        rw [← hS] at yx y_y HCS hcl
        have Y0 := Aside0.mk y0
        have Y1 := Aside0.mk y1
        have Y2 := Aside0.mk y2
        have Y3 := Aside0.mk y3
        have Y4 := Aside0.mk y4
        have Y5 := Aside0.mk y5
        have YT := Aside0.mk yT
        have YX := Aside0.mk yx
        have YY := Aside0.mk y_y
        have HB1 := Aside0.mk hB1
        have HK1 := Aside0.mk hK1
        have HCL := Aside0.mk hcl
        clear ha hb hS y0 y1 y2 y3 y4 y5 yT yx y_y hB1 hK1 hcl
        gi_wp2
        clear hsw cT fT cT1 c21
        gi_loopw [15] (fun i wr => ∃ n : Nat, i = .int .i64 ((a + n : Nat) : Int) ∧ Aside0 (a + n ≤ b) ∧ Aside0 (Whole wr bx 3 (rowV (updP midP l r S a n).1)) ∧ Aside0 (Whole wr b_y 3 (rowV (updP midP l r S a n).2)) ∧ Aside0 (KB bx b_y W1 wr)) (fun i _ => (b : Nat) - (intOf i).toNat)
        case atStart => exact ⟨0, rfl, ⟨o3⟩, YX, YY, ⟨KB.refl _ _ _⟩⟩
        case round =>
          obtain ⟨n, rfl, HNN, HX, HY, HKB⟩ := hrel
          by_cases hn : a + n < b
          · have HNT := Aside0.mk hn
            obtain ⟨i, hie⟩ : ∃ i, i = a + n := ⟨_, rfl⟩
            have hul := updP_length midP l r S a n
            rw [HCL.out.1, HCL.out.2] at hul
            have e1 : updP midP l r S a (n + 1) = ((updP midP l r S a n).1.set (a + n) (midP (rd l ((a + n : Nat) : Int)) (rd r ((a + n : Nat) : Int))).1, (updP midP l r S a n).2.set (a + n) (midP (rd l ((a + n : Nat) : Int)) (rd r ((a + n : Nat) : Int))).2) := rfl
            obtain ⟨T1, hT1⟩ : ∃ T, T = updP midP l r S a n := ⟨_, rfl⟩
            rw [← hT1] at HX HY hul e1
            rw [← hie] at hn e1 ⊢
            obtain ⟨ad1, ea1, hx⟩ := Kd.at_int HL.out (i : Int) (by omega) (by omega)
            cases ea1
            obtain ⟨ad2, ea2, hy⟩ := Kd.at_int HR.out (i : Int) (by omega) (by omega)
            cases ea2
            rw [Int.toNat_natCast] at hx hy
            have g1 := HLC.out i
            have g2 := HRC.out i
            obtain ⟨u1, hu1⟩ : ∃ u, u = rd l (i : Int) := ⟨_, rfl⟩
            obtain ⟨u2, hu2⟩ : ∃ u, u = rd r (i : Int) := ⟨_, rfl⟩
            rw [← hu1] at hx g1 e1
            rw [← hu2] at hy g2 e1
            have hwN := HN.out
            have bl1 := World.block_lt_of_cell? w _ hx
            have bl2 := World.block_lt_of_cell? w _ hy
            have hbw := HBW.out.trans HB1.out
            have cx1 := HKB.out.cell (pw_cell_below hbw hx) (by omega) (by omega)
            have cy1 := HKB.out.cell (pw_cell_below hbw hy) (by omega) (by omega)
            have Z0 := HKB.out.boxed Y0.out (by omega) (by omega)
            have Z1 := HKB.out.boxed Y1.out (by omega) (by omega)
            have Z3 := HKB.out.boxed Y3.out (by omega) (by omega)
            have Z4 := HKB.out.boxed Y4.out (by omega) (by omega)
            have Z5 := HKB.out.boxed Y5.out (by omega) (by omega)
            have qx := Aside0.mk fun w' (h : KB bx b_y wr w') => h.cell cx1 (by omega) (by omega)
            have qy := Aside0.mk fun w' (h : KB bx b_y wr w') => h.cell cy1 (by omega) (by omega)
            have q0 := Aside0.mk fun w' (h : KB bx b_y wr w') => (h.boxed Z0 (by omega) (by omega)).cell
            have q1 := Aside0.mk fun w' (h : KB bx b_y wr w') => (h.boxed Z1 (by omega) (by omega)).cell
            have q3 := Aside0.mk fun w' (h : KB bx b_y wr w') => (h.boxed Z3 (by omega) (by omega)).cell
            have q4 := Aside0.mk fun w' (h : KB bx b_y wr w') => (h.boxed Z4 (by omega) (by omega)).cell
            have q5 := Aside0.mk fun w' (h : KB bx b_y wr w') => (h.boxed Z5 (by omega) (by omega)).cell
            obtain ⟨p, hp⟩ : ∃ p, (midP u1 u2).1 = p := ⟨_, rfl⟩
            obtain ⟨q, hq⟩ : ∃ q, (midP u1 u2).2 = q := ⟨_, rfl⟩
            have HCALL := fun w0 => Aside0.mk (how30_calls u1 u2 p q w0 g1.1 g1.2 g2.1 g2.2 hp hq)
            rw [hp, hq] at e1
            have HE1 := Aside0.mk e1
            have HIE := Aside0.mk hie
            have HUL := Aside0.mk hul
            have i128 : (i : Int) < 128 := by omega
            have i0 : (0 : Int) ≤ (i : Int) := by omega
            have hd : decide ((i : Int) < (b : Int)) = true := decide_eq_true (by omega)
            have HNE := Aside0.mk hne
            clear hx hy g1 g2 hu1 hu2 hwN bl1 bl2 hbw cx1 cy1 Z0 Z1 Z3 Z4 Z5 hp hq e1 hie hul hT1 hne
            gi_wp2
            refine wpIn_round_held (KB bx b_y wr) (by kernel_rfl) (by kernel_rfl) ((KB.refl _ _ _).drew) (fun hHeld => ?_)
            refine wpAnyH_take (i := 0) (v := .slice (some ⟨bx, 0, none⟩) 128 128) rfl (by kernel_rfl) (by kernel_rfl) (by kernel_rfl) (fun _ _ _ h => absurd h.1 (by simp)) (Or.inl ⟨by rfl, ?_⟩) hHeld ?_
            · intro w' hS'
              have hq := q4.out w' hS'
              first | (go_simp; done) | (go_simp; with_reducible rfl)
            try simp only [Act.put, List.setIfInBounds_toArray, List.set_cons_zero, List.set_cons_succ]
            refine wpAnyH_take (i := 1) (v := .int .i64 (i : Int)) rfl (by kernel_rfl) (by kernel_rfl) (by kernel_rfl) (fun _ _ _ h => absurd h.1 (by simp)) (Or.inl ⟨by rfl, ?_⟩) hHeld ?_
            · intro w' hS'
              first | (go_simp; done) | (go_simp; with_reducible rfl)
            try simp only [Act.put, List.setIfInBounds_toArray, List.set_cons_zero, List.set_cons_succ]
            refine wpAnyH_take (i := 2) (v := .slice (some ⟨b_y, 0, none⟩) 128 128) rfl (by kernel_rfl) (by kernel_rfl) (by kernel_rfl) (fun _ _ _ h => absurd h.1 (by simp)) (Or.inl ⟨by rfl, ?_⟩) hHeld ?_
            · intro w' hS'
              have hq := q5.out w' hS'
              first | (go_simp; done) | (go_simp; with_reducible rfl)
            try simp only [Act.put, List.setIfInBounds_toArray, List.set_cons_zero, List.set_cons_succ]
            refine wpAnyH_take (i := 3) (v := .int .i64 (i : Int)) rfl (by kernel_rfl) (by kernel_rfl) (by kernel_rfl) (fun _ _ _ h => absurd h.1 (by simp)) (Or.inl ⟨by rfl, ?_⟩) hHeld ?_
            · intro w' hS'
              first | (go_simp; done) | (go_simp; with_reducible rfl)
            try simp only [Act.put, List.setIfInBounds_toArray, List.set_cons_zero, List.set_cons_succ]
            refine wpAnyH_take (i := 4) (v := .func (.func 30) #[] #[]) rfl (by kernel_rfl) (by kernel_rfl) (by kernel_rfl) (fun _ _ _ h => absurd h.1 (by simp)) (Or.inl ⟨by rfl, ?_⟩) hHeld ?_
            · intro w' hS'
              have hq := q3.out w' hS'
              first | (go_simp; done) | (go_simp; with_reducible rfl)
            try simp only [Act.put, List.setIfInBounds_toArray, List.set_cons_zero, List.set_cons_succ]
            refine wpAnyH_take (i := 5) (v := .slice (some adl) 128 c0) rfl (by kernel_rfl) (by kernel_rfl) (by kernel_rfl) (fun _ _ _ h => absurd h.1 (by simp)) (Or.inl ⟨by rfl, ?_⟩) hHeld ?_
            · intro w' hS'
              have hq := q0.out w' hS'
              first | (go_simp; done) | (go_simp; with_reducible rfl)
            try simp only [Act.put, List.setIfInBounds_toArray, List.set_cons_zero, List.set_cons_succ]
            refine wpAnyH_take (i := 6) (v := .int .i64 (i : Int)) rfl (by kernel_rfl) (by kernel_rfl) (by kernel_rfl) (fun _ _ _ h => absurd h.1 (by simp)) (Or.inl ⟨by rfl, ?_⟩) hHeld ?_
            · intro w' hS'
              first | (go_simp; done) | (go_simp; with_reducible rfl)
            try simp only [Act.put, List.setIfInBounds_toArray, List.set_cons_zero, List.set_cons_succ]
            refine wpAnyH_take (i := 7) (v := .pointer (some (adl.add i))) rfl (by kernel_rfl) (by kernel_rfl) (by kernel_rfl) (fun _ _ _ h => absurd h.1 (by simp)) (Or.inl ⟨by rfl, ?_⟩) hHeld ?_
            · intro w' hS'
              first | (go_simp; done) | (go_simp; with_reducible rfl)
            try simp only [Act.put, List.setIfInBounds_toArray, List.set_cons_zero, List.set_cons_succ]
            refine wpAnyH_take (i := 8) (v := .int .i64 u1) rfl (by kernel_rfl) (by kernel_rfl) (by kernel_rfl) (fun _ _ _ h => absurd h.1 (by simp)) (Or.inl ⟨by rfl, ?_⟩) hHeld ?_
            · intro w' hS'
              have hq := qx.out w' hS'
              first | (go_simp; done) | (go_simp; with_reducible rfl)
            try simp only [Act.put, List.setIfInBounds_toArray, List.set_cons_zero, List.set_cons_succ]
            refine wpAnyH_take (i := 9) (v := .slice (some adr) 128 c1) rfl (by kernel_rfl) (by kernel_rfl) (by kernel_rfl) (fun _ _ _ h => absurd h.1 (by simp)) (Or.inl ⟨by rfl, ?_⟩) hHeld ?_
            · intro w' hS'
              have hq := q1.out w' hS'
              first | (go_simp; done) | (go_simp; with_reducible rfl)
            try simp only [Act.put, List.setIfInBounds_toArray, List.set_cons_zero, List.set_cons_succ]
            refine wpAnyH_take (i := 10) (v := .int .i64 (i : Int)) rfl (by kernel_rfl) (by kernel_rfl) (by kernel_rfl) (fun _ _ _ h => absurd h.1 (by simp)) (Or.inl ⟨by rfl, ?_⟩) hHeld ?_
            · intro w' hS'
              first | (go_simp; done) | (go_simp; with_reducible rfl)
            try simp only [Act.put, List.setIfInBounds_toArray, List.set_cons_zero, List.set_cons_succ]
            refine wpAnyH_take (i := 11) (v := .pointer (some (adr.add i))) rfl (by kernel_rfl) (by kernel_rfl) (by kernel_rfl) (fun _ _ _ h => absurd h.1 (by simp)) (Or.inl ⟨by rfl, ?_⟩) hHeld ?_
            · intro w' hS'
              first | (go_simp; done) | (go_simp; with_reducible rfl)
            try simp only [Act.put, List.setIfInBounds_toArray, List.set_cons_zero, List.set_cons_succ]
            refine wpAnyH_take (i := 12) (v := .int .i64 u2) rfl (by kernel_rfl) (by kernel_rfl) (by kernel_rfl) (fun _ _ _ h => absurd h.1 (by simp)) (Or.inl ⟨by rfl, ?_⟩) hHeld ?_
            · intro w' hS'
              have hq := qy.out w' hS'
              first | (go_simp; done) | (go_simp; with_reducible rfl)
            try simp only [Act.put, List.setIfInBounds_toArray, List.set_cons_zero, List.set_cons_succ]
            refine wpAnyH_ready (rs := [13]) (by kernel_rfl) (by simp) ?_
            refine AllReadyH.cons rfl (fun K hK => ?_) AllReadyH.nil
            go_simp
            refine (HCALL _).out.mono ?_
            rintro e w1 ⟨rfl, hb⟩
            have hKB1 : KB bx b_y wr w1 := (KB.refl _ _ _).drew.to_below hb
            have wx1 : Whole w1 bx 3 _ := Whole.below (W := wr.drew) HX.out hb
            have wy1 : Whole w1 b_y 3 _ := Whole.below (W := wr.drew) HY.out hb
            have WX1 := Aside0.mk wx1
            have WY1 := Aside0.mk wy1
            have HKB1 := Aside0.mk hKB1
            clear hb wx1 wy1 hKB1 hHeld
            refine hK.out _ _ HKB1.out (fun hHeld => ?_)
            clear hK K
            try simp only [Act.put, List.setIfInBounds_toArray, List.set_cons_zero, List.set_cons_succ]
            refine wpAnyH_take (i := 14) (v := .tuple #[.int .i64 p, .int .i64 q, .int .i64 0]) rfl (by kernel_rfl) (by kernel_rfl) (by kernel_rfl) (fun _ _ _ h => absurd h.1 (by simp)) (Or.inl ⟨by rfl, ?_⟩) hHeld ?_
            · intro w' hS'
              first | (go_simp; done) | (go_simp; with_reducible rfl)
            try simp only [Act.put, List.setIfInBounds_toArray, List.set_cons_zero, List.set_cons_succ]
            refine wpAnyH_take (i := 15) (v := .int .i64 p) rfl (by kernel_rfl) (by kernel_rfl) (by kernel_rfl) (fun _ _ _ h => absurd h.1 (by simp)) (Or.inl ⟨by rfl, ?_⟩) hHeld ?_
            · intro w' hS'
              first | (go_simp; done) | (go_simp; with_reducible rfl)
            try simp only [Act.put, List.setIfInBounds_toArray, List.set_cons_zero, List.set_cons_succ]
            refine wpAnyH_take (i := 16) (v := .int .i64 q) rfl (by kernel_rfl) (by kernel_rfl) (by kernel_rfl) (fun _ _ _ h => absurd h.1 (by simp)) (Or.inl ⟨by rfl, ?_⟩) hHeld ?_
            · intro w' hS'
              first | (go_simp; done) | (go_simp; with_reducible rfl)
            try simp only [Act.put, List.setIfInBounds_toArray, List.set_cons_zero, List.set_cons_succ]
            refine wpAnyH_take (i := 17) (v := .int .i64 0) rfl (by kernel_rfl) (by kernel_rfl) (by kernel_rfl) (fun _ _ _ h => absurd h.1 (by simp)) (Or.inl ⟨by rfl, ?_⟩) hHeld ?_
            · intro w' hS'
              first | (go_simp; done) | (go_simp; with_reducible rfl)
            try simp only [Act.put, List.setIfInBounds_toArray, List.set_cons_zero, List.set_cons_succ]
            refine wpAnyH_take (i := 18) (v := .pointer (some ⟨bx, i, none⟩)) rfl (by kernel_rfl) (by kernel_rfl) (by kernel_rfl) (fun _ _ _ h => absurd h.1 (by simp)) (Or.inl ⟨by rfl, ?_⟩) hHeld ?_
            · intro w' hS'
              first | (go_simp; done) | (go_simp; with_reducible rfl)
            try simp only [Act.put, List.setIfInBounds_toArray, List.set_cons_zero, List.set_cons_succ]
            refine wpAnyH_ready (rs := [19]) (by kernel_rfl) (by simp) ?_
            refine AllReadyH.cons rfl (fun K hK => ?_) AllReadyH.nil
            obtain ⟨zx, hzx⟩ : ∃ z, w1.cell? ⟨bx, i, none⟩ = some (.int .i64 z) := by
              have h := WX1.out.cell i
              have hlt : i < T1.1.length := by rw [HUL.out.1]; omega
              rw [show (rowV T1.1)[i]? = some (.int .i64 T1.1[i]) by simp [rowV, hlt]] at h
              exact ⟨_, h⟩
            have hfx := WX1.out.frozen i
            go_simp
            refine hK.out _ _ (HKB1.out.set (.inl rfl) i _) (fun hHeld => ?_)
            clear hK K hzx hfx
            have wx2 := WX1.out.set i (.int .i64 p)
            have wy2 := WY1.out.other (B' := bx) (Ne.symm HNE.out) i (.int .i64 p)
            have WX2 := Aside0.mk wx2
            have WY2 := Aside0.mk wy2
            clear wx2 wy2
            obtain ⟨w2, hw2⟩ : ∃ w2, w2 = w1.setCell ⟨bx, i, none⟩ (.int .i64 p) := ⟨_, rfl⟩
            rw [← hw2] at WX2 WY2 hHeld ⊢
            have HKB2 := Aside0.mk hHeld
            clear hw2
            refine wpAnyH_take (i := 20) (v := .pointer (some ⟨b_y, i, none⟩)) rfl (by kernel_rfl) (by kernel_rfl) (by kernel_rfl) (fun _ _ _ h => absurd h.1 (by simp)) (Or.inl ⟨by rfl, ?_⟩) hHeld ?_
            · intro w' hS'
              first | (go_simp; done) | (go_simp; with_reducible rfl)
            try simp only [Act.put, List.setIfInBounds_toArray, List.set_cons_zero, List.set_cons_succ]
            refine wpAnyH_ready (rs := [21]) (by kernel_rfl) (by simp) ?_
            refine AllReadyH.cons rfl (fun K hK => ?_) AllReadyH.nil
            obtain ⟨zy, hzy⟩ : ∃ z, w2.cell? ⟨b_y, i, none⟩ = some (.int .i64 z) := by
              have h := WY2.out.cell i
              have hlt : i < T1.2.length := by rw [HUL.out.2]; omega
              rw [show (rowV T1.2)[i]? = some (.int .i64 T1.2[i]) by simp [rowV, hlt]] at h
              exact ⟨_, h⟩
            have hfy := WY2.out.frozen i
            go_simp
            refine hK.out _ _ (HKB2.out.set (.inr rfl) i _) (fun hHeld => ?_)
            clear hK K hzy hfy
            have wy3 := WY2.out.set i (.int .i64 q)
            have wx3 := WX2.out.other (B' := b_y) HNE.out i (.int .i64 q)
            rw [rowV_set] at wy3 wx3
            have WX3 := Aside0.mk wx3
            have WY3 := Aside0.mk wy3
            clear wx3 wy3
            obtain ⟨w3, hw3⟩ : ∃ w3, w3 = w2.setCell ⟨b_y, i, none⟩ (.int .i64 q) := ⟨_, rfl⟩
            rw [← hw3] at WX3 WY3 hHeld ⊢
            have HKB3 := Aside0.mk hHeld
            clear hw3 hHeld
            refine wpAnyH_done (by kernel_rfl) ?_ _
            refine ⟨rfl, ?_⟩
            gi_wp2
            go_roundw
            case rel => exact ⟨n + 1, by rw [HIE.out]; congr 1, ⟨by have := HNT.out; omega⟩, ⟨by rw [HE1.out]; exact WX3.out⟩, ⟨by rw [HE1.out]; exact WY3.out⟩, ⟨KB.trans HKB.out HKB3.out⟩⟩
            case measure => simp [intOf]; omega
          · have hd : decide ((((a + n : Nat)) : Int) < (b : Int)) = false := decide_eq_false (by omega)
            have en : n = b - a := by have := HNN.out; omega
            subst en
            obtain ⟨q, hq⟩ : ∃ q, q = a + (b - a) := ⟨_, rfl⟩
            rw [← hq] at hd ⊢
            have hd2 : ¬ (q < b) := by omega
            clear hq
            gi_wp2
            have hk1 := HKB.out
            have hwN := HN.out
            exact ⟨(HK1.out.trans (hk1.keeps YX.out YY.out)).from _, HB1.out.trans (hk1.below (by have := HBW.out.size; have := HB1.out.size; omega) (by omega) (by omega)), hk1.boxed Y0.out (by omega) (by omega), hk1.boxed Y1.out (by omega) (by omega), hk1.boxed Y2.out (by omega) (by omega), hk1.boxed Y3.out (by omega) (by omega), hk1.boxed Y4.out (by omega) (by omega), hk1.boxed Y5.out (by omega) (by omega), by simpa using hk1.boxed YT.out (by omega) (by omega), by rw [HCS.out]; exact HX.out, by rw [HCS.out]; exact HY.out, (HBW.out.trans HB1.out).trans (hk1.below (by have := HBW.out.size; have := HB1.out.size; omega) (by omega) (by omega))⟩
    case done =>
      rintro D ys W hD rfl ⟨x0, x1, x2, x3, x4, x5, xT, wx, w_y, hB⟩ hK
      have hDw : W3.heap.size < D := by have := hD; simp at this; omega
      have c4 := x4.cell
      have c5 := x5.cell
      have f4 := x4.frozen
      have f5 := x5.frozen
      have HKK := Aside0.mk hK
      have X4 := Aside0.mk x4
      have X5 := Aside0.mk x5
      have WX := Aside0.mk wx
      have WY := Aside0.mk w_y
      have HBW := Aside0.mk hB
      have ne45 : ¬ (N + 1 + 1 + 1 + 1 = N + 1 + 1 + 1 + 1 + 1) := by omega
      have e4 := fun u => (x5.other (B' := N + 1 + 1 + 1 + 1) (by omega) u).cell
      have e5 := fun u => (x5.other (B' := N + 1 + 1 + 1 + 1) (by omega) u).frozen
      have s4 := fun u => (x4.other (B' := N + 1 + 1 + 1 + 1 + 1) (by omega) u).cell
      have s5 := fun u => (x4.other (B' := N + 1 + 1 + 1 + 1 + 1) (by omega) u).frozen
      have r4 := fun u => (x4.set u).cell
      have r5 := fun u => (x5.set u).cell
      have t4 := fun u v => ((x4.set u).other (B' := N + 1 + 1 + 1 + 1 + 1) (by omega) v).cell
      have t5 := fun u v => ((x5.other (B' := N + 1 + 1 + 1 + 1) (by omega) u).set v).cell
      clear x0 x1 x2 x3 x4 x5 xT wx w_y hB hK
      go_wp2
      go_region_held3 (fun w' => w'.cell? ⟨N + 1 + 1 + 1 + 1, 0, none⟩ = some (.slice (some ⟨bx, 0, none⟩) 128 128) ∧ w'.cell? ⟨N + 1 + 1 + 1 + 1 + 1, 0, none⟩ = some (.slice (some ⟨b_y, 0, none⟩) 128 128)) (go_keep) (fail)
      obtain ⟨W5, hW5⟩ : ∃ W5, W5 = ((W.setCell ⟨N + 1 + 1 + 1 + 1, 0, none⟩ (.slice (some ⟨bx, 0, none⟩) 128 128)).setCell ⟨N + 1 + 1 + 1 + 1 + 1, 0, none⟩ (.slice (some ⟨b_y, 0, none⟩) 128 128)).drew := ⟨_, rfl⟩
      have v4 : Boxed W5 (N + 1 + 1 + 1 + 1) 22 (.slice (some ⟨bx, 0, none⟩) 128 128) := by rw [hW5]; exact (X4.out.set _).other (by omega) _
      have v5 : Boxed W5 (N + 1 + 1 + 1 + 1 + 1) 22 (.slice (some ⟨b_y, 0, none⟩) 128 128) := by rw [hW5]; exact (X5.out.other (by omega) _).set _
      have vx : Whole W5 bx 3 (rowV (cSt midP l r ws mid (List.range ws.length)).2.1) := by rw [hW5]; exact (WX.out.other (by omega) 0 _).other (by omega) 0 _
      have vy : Whole W5 b_y 3 (rowV (cSt midP l r ws mid (List.range ws.length)).2.2) := by rw [hW5]; exact (WY.out.other (by omega) 0 _).other (by omega) 0 _
      have vD : W5.heap[D]? = some (.deferred (some [])) := by rw [hW5]; exact (Below.heap_setCell _ _ _ _ (by have : D ≠ N + 1 + 1 + 1 + 1 + 1 := by omega
                                                                                                               exact this)).trans ((Below.heap_setCell _ _ _ _ (by have : D ≠ N + 1 + 1 + 1 + 1 := by omega
                                                                                                                                                                   exact this)).trans HKK.out)
      have vB : Below w.heap.size w W5 := by rw [hW5]; exact pw_below_drewN ((HBW.out.setCell (p := ⟨N + 1 + 1 + 1 + 1, 0, none⟩) (by have := HN.out; simp; omega) _).setCell (p := ⟨N + 1 + 1 + 1 + 1 + 1, 0, none⟩) (by have := HN.out; simp; omega) _) 1
      rw [← hW5]
      clear hW5 c4 c5 f4 f5 ne45 e4 e5 s4 s5 r4 r5 t4 t5
      go_wp2
      rw [Exit.noGoto_ret]
      refine ⟨by simp, .inl ⟨_, _, rfl, run_takeDeferred vD, ?_⟩⟩
      have gk := grownBy_putObj' W5 D (Obj.deferred none)
      have nD : ∀ k, k < D → some k ≠ some D := fun k hk e => by injection e; omega
      have hbx2 : bx < D := by omega
      have hby2 : b_y < D := by omega
      have u4 := v4.kept gk (nD _ (by omega))
      have u5 := v5.kept gk (nD _ (by omega))
      have ux := vx.kept gk (nD _ hbx2)
      have uy := vy.kept gk (nD _ hby2)
      have uB := vB.trans (belowK_b (w := w) (Nat.le_refl _) W5 D (.deferred (some [])) (.deferred none) (by omega) vD rfl rfl)
      obtain ⟨W6, hW6⟩ : ∃ W6, W6 = W5.putObj D (Obj.deferred none) := ⟨_, rfl⟩
      rw [← hW6] at u4 u5 ux uy uB ⊢
      clear gk hW6 v4 v5 vx vy vD vB nD
      have hcl := cSt_length midP l r ws mid (List.range ws.length)
      rw [HLN.out, HRN.out] at hcl
      have z4 := u4.cell
      have z5 := u5.cell
      have hwN := HN.out
      exact ⟨.tuple #[.slice (some ⟨bx, 0, none⟩) 128 128, .slice (some ⟨b_y, 0, none⟩) 128 128], by simp [results, Try.results49, go_sem, z4, z5], _, _, rfl, Kd.R_of_own (enc := Value.int .i64) (h1 := fun _ => rfl) (own_of_whole ux hcl.1 (by omega)) (fun k hk e => hne (by simp [Value.ownBlock] at hk e; omega)), Kd.R_of_own (enc := Value.int .i64) (h1 := fun _ => rfl) (own_of_whole uy hcl.2 (by omega)) (fun k hk e => hne (by simp [Value.ownBlock] at hk e; omega)), uB⟩
    case stop =>
      rintro D c pre W _ _ h _
      exact h.elim
set_option maxRecDepth 100000 in
set_option maxHeartbeats 8000000 in
theorem coupled30_calls (A0 A1 A2 A3 : Option Addr) (c0 c1 c2 c3 : Nat) (m : Int) (hm0 : 0 ≤ m) (hm1 : m ≤ 8388608) (l r ws : List Int) (mid : List Bool) (w : World) (hwl : ws.length ≤ 1000) (hl : Kd.C (Kd.int .i64) w A0 l.length l) (hc0 : l.length ≤ c0) (hr : Kd.C (Kd.int .i64) w A1 r.length r) (hc1 : r.length ≤ c1) (hw : Kd.C (Kd.int .i64) w A2 ws.length ws) (hc2 : ws.length ≤ c2) (hm : Kd.C Kd.bool w A3 mid.length mid) (r1 r2 : List Int) (r3 : Int) (h : cplV midP m l r ws mid = (r1, r2, r3)) :
    Calls Try.prog 29 #[.slice A0 l.length c0, .slice A1 r.length c1, .slice A2 ws.length c2, .slice A3 mid.length c3, .int .i64 m, .func (.func 30) #[] #[]] w fun e w' =>
      ∃ v0_ v1_ : Value, e = .returned (.tuple #[v0_, v1_, .int .i64 r3]) ∧ Kd.R (Kd.int .i64) 3 w' w.heap.size (fun k_ => some k_ ≠ v1_.ownBlock) v0_ r1 ∧ Kd.R (Kd.int .i64) 3 w' w.heap.size (fun k_ => some k_ ≠ v0_.ownBlock) v1_ r2 ∧ Below w.heap.size w w' := by
  have HCK := Aside0.mk (check_at A0 A1 A2 l.length r.length c0 c1 c2 l r ws m w hm0 hm1 hwl rfl rfl hl hc0 hr hc1 hw hc2)
  obtain ⟨z, hz⟩ : ∃ z, z = chkV l r ws m := ⟨_, rfl⟩
  unfold cplV at h
  rw [← hz] at h HCK
  by_cases h1 : z = 1
  · rw [if_pos h1] at h
    simp only [Prod.mk.injEq] at h
    obtain ⟨rfl, rfl, rfl⟩ := h
    subst h1
    clear hz hl hr hw hm hc0 hc1 hc2
    go_enter Try.func29, Try.ntmps29
    go_wp2_with (go_at_call 27; refine HCK.out.mono ?_; rintro e w1 ⟨rfl, hb⟩; have HB1 := Aside0.mk hb; clear hb)
    go_ret3
    exact ⟨_, _, rfl, Kd.R_nil _ _ _ _ _, Kd.R_nil _ _ _ _ _, HB1.out⟩
  · rw [if_neg h1] at h
    have b1 : (z == 1) = false := beq_eq_false_iff_ne.2 h1
    by_cases h2 : mid.length ≠ ws.length
    · rw [if_pos h2] at h
      simp only [Prod.mk.injEq] at h
      obtain ⟨rfl, rfl, rfl⟩ := h
      have b2 : (mid.length == ws.length) = false := beq_eq_false_iff_ne.2 h2
      have b3 : (mid.length != ws.length) = true := by simp [bne, b2]
      have b4 : ¬ mid.length = ws.length := h2
      clear hz h1 h2 hl hr hw hm hc0 hc1 hc2
      go_enter Try.func29, Try.ntmps29
      go_wp2_with (go_at_call 27; refine HCK.out.mono ?_; rintro e w1 ⟨rfl, hb⟩; have HB1 := Aside0.mk hb; clear hb)
      go_ret3
      exact ⟨_, _, rfl, Kd.R_nil _ _ _ _ _, Kd.R_nil _ _ _ _ _, HB1.out⟩
    · rw [if_neg h2] at h
      have h2' : mid.length = ws.length := Classical.not_not.1 h2
      by_cases h3 : z ≠ 0
      · rw [if_pos h3] at h
        simp only [Prod.mk.injEq] at h
        obtain ⟨rfl, rfl, rfl⟩ := h
        have b5 : (z == 0) = false := beq_eq_false_iff_ne.2 h3
        obtain ⟨n, hn⟩ : ∃ n, n = ws.length := ⟨_, rfl⟩
        rw [← hn] at HCK h2' ⊢
        rw [h2']
        clear hz h1 h2 h2' h3 hn hl hr hw hm hc0 hc1 hc2
        go_enter Try.func29, Try.ntmps29
        go_wp2_with (go_at_call 27; refine HCK.out.mono ?_; rintro e w1 ⟨rfl, hb⟩; have HB1 := Aside0.mk hb; clear hb)
        go_ret3
        exact ⟨_, _, rfl, Kd.R_nil _ _ _ _ _, Kd.R_nil _ _ _ _ _, HB1.out⟩
      · rw [if_neg h3] at h
        have h3' : z = 0 := Classical.not_not.1 h3
        simp only [Prod.mk.injEq] at h
        obtain ⟨rfl, rfl, rfl⟩ := h
        obtain ⟨hwo, hn0, hn1, hi0, hi1⟩ := chkV_ok (hz.symm.trans h3')
        have cc0 : Coefs 8388608 l := coefs_of (by omega) (fun x hx => by have := hi0 x hx; omega)
        have cc1 : Coefs 8388608 r := coefs_of (by omega) (fun x hx => by have := hi1 x hx; omega)
        have HE := Aside0.mk fun (w1 : World) (hb : Below w.heap.size w w1) => couple30_calls A0 A1 A2 A3 c0 c1 c2 c3 l r ws mid w1 (Kd.C_below hl hb) (Kd.C_below hr hb) (Kd.C_below hw hb) (Kd.C_below hm hb) hn0 hn1 hwo h2' cc0 cc1
        obtain ⟨X, hX⟩ : ∃ X, X = (cSt midP l r ws mid (List.range ws.length)).2.1 := ⟨_, rfl⟩
        obtain ⟨Y, hY⟩ : ∃ Y, Y = (cSt midP l r ws mid (List.range ws.length)).2.2 := ⟨_, rfl⟩
        rw [← hX, ← hY] at HE ⊢
        rw [hn0, hn1] at HCK ⊢
        obtain ⟨n, hn⟩ : ∃ n, n = ws.length := ⟨_, rfl⟩
        rw [← hn] at HCK HE h2' ⊢
        rw [h2'] at HE ⊢
        subst h3'
        clear hz h1 h2 h2' h3 hn hl hr hw hm hc0 hc1 hc2 hwo hn0 hn1 hi0 hi1 cc0 cc1 hX hY b1
        go_enter Try.func29, Try.ntmps29
        go_wp2_with (first | (go_at_call 27; refine HCK.out.mono ?_; rintro e w1 ⟨rfl, hb⟩; have HB1 := Aside0.mk hb; clear hb) | (go_at_call 49; refine (HE.out _ HB1.out).mono ?_; rintro e w2 ⟨v0, v1, rfl, hr0, hr1, hb⟩; have HR0 := Aside0.mk hr0; have HR1 := Aside0.mk hr1; have HB2 := Aside0.mk (HB1.out.trans (hb.mono HB1.out.size)); clear hb hr0 hr1))
        go_ret3
        exact ⟨_, _, rfl, Kd.R_lower HR0.out HB1.out.size, Kd.R_lower HR1.out HB1.out.size, HB2.out⟩
def stereo_Couple.f (l0 l1 l2 : List Int) (l3 : List Bool) : Option (List Int × List Int × Int) := if l2.length ≤ 1000 then some (cplV midP 2097152 l0 l1 l2 l3) else none
set_option maxHeartbeats 4000000 in
theorem stereo_Couple.calls (A0 : Option Addr) (c0 : Nat) (l0 : List Int) (A1 : Option Addr) (c1 : Nat) (l1 : List Int) (A2 : Option Addr) (c2 : Nat) (l2 : List Int) (A3 : Option Addr) (c3 : Nat) (l3 : List Bool) (r1 : List Int) (r2 : List Int) (r3 : Int) (w : World) (hr0 : Kd.C (Kd.int .i64) w A0 l0.length l0) (hc0 : l0.length ≤ c0) (hr1 : Kd.C (Kd.int .i64) w A1 l1.length l1) (hc1 : l1.length ≤ c1) (hr2 : Kd.C (Kd.int .i64) w A2 l2.length l2) (hc2 : l2.length ≤ c2) (hr3 : Kd.C Kd.bool w A3 l3.length l3) (hc3 : l3.length ≤ c3) (h : stereo_Couple.f l0 l1 l2 l3 = some (r1, r2, r3)) :
    Calls Try.prog 13 #[.slice A0 l0.length c0, .slice A1 l1.length c1, .slice A2 l2.length c2, .slice A3 l3.length c3] w fun e w' => ∃ v0_ v1_ : Value, e = .returned (.tuple #[v0_, v1_, .int .i64 r3]) ∧ Kd.R (Kd.int .i64) 3 w' w.heap.size (fun k_ => some k_ ≠ (v1_ : Value).ownBlock) v0_ r1 ∧ Kd.R (Kd.int .i64) 3 w' w.heap.size (fun k_ => some k_ ≠ (v0_ : Value).ownBlock) v1_ r2 ∧ Below w.heap.size w w' := by
  unfold stereo_Couple.f at h
  split at h
  case isFalse => cases h
  rename_i hwl
  have h := Option.some.inj h
  have HC := Aside0.mk (coupled30_calls A0 A1 A2 A3 c0 c1 c2 c3 2097152 (by omega) (by omega) l0 l1 l2 l3 w hwl hr0 hc0 hr1 hc1 hr2 hc2 hr3 r1 r2 r3 h)
  clear h hr0 hc0 hr1 hc1 hr2 hc2 hr3 hc3
  go_enter Try.func13, Try.ntmps13
  go_wp2_with (go_at_call 29; refine HC.out.mono ?_; rintro e w1 ⟨v0, v1, rfl, h0, h1, hb⟩)
  go_ret3
  exact ⟨_, _, rfl, h0, h1, hb⟩
end

end Go.Proofs.Ytjplalkgabpinaa.Hn
