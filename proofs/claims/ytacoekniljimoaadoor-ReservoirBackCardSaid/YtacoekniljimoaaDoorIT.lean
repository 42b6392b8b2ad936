/- Chapter 23: the iterator of Plan: what it yields, for every loop body that keeps what lay ahead of the loop. -/
import Derived.Test.YtacoekniljimoaaDoorRP
import Derived.Test.YtacoekniljimoaaDoorRF
namespace Go.Proofs.YtacoekniljimoaaDoor.Res
open Go.RowKit Go.Proofs.YtacoekniljimoaaDoorW.PrintWords Go.Proofs.YtacoekniljimoaaDoorW.PrintLast Go.Proofs.YtacoekniljimoaaDoorW.PrintMore
attribute [local go_sem] max2_int min2_int max_two min_two
set_option linter.unusedVariables false
set_option linter.unusedSimpArgs false
theorem range_prefix {k p : Nat} (h : k < p) : List.range k ++ [k] <+: List.range p := by
  have e : List.range p = List.range (k + 1) ++ (List.range (p - (k + 1))).map (k + 1 + ·) := by
    rw [← List.range_add]; congr 1; omega
  rw [e, List.range_succ]
  exact List.prefix_append _ _
/-- What the iterator hands on: the frame k. -/
def frV (m b : Int) (xs : List Int) (k : Nat) : Value := .agg #[.int .i64 (lv m b xs k), .int .i64 (pd m b xs k), .int .i64 (er m b xs k)]
/-- What lay in w00 lies there; the boxes hold what they hold; the tank stands at frame k. -/
structure ItOk (w00 W : World) (p B1 B2 : Nat) (A : Option Addr) (n c : Nat) (m b l : Int) : Prop where
  old : ∀ q, q < w00.heap.size → W.heap[q]? = w00.heap[q]?
  c1 : W.cell? ⟨B1, 0, none⟩ = some (.pointer (some ⟨p, 0, none⟩))
  c2 : W.cell? ⟨B2, 0, none⟩ = some (.slice A n c)
  t : Tank W p m b l
/-- The blocks that the body keeps. -/
def KIt (w00 : World) (p B1 B2 : Nat) (k : Nat) : Prop := k < w00.heap.size ∨ k = p ∨ k = B1 ∨ k = B2
theorem ItOk.kept {w00 W W' : World} {p B1 B2 : Nat} {A : Option Addr} {n c : Nat} {m b l : Int} (h : ItOk w00 W p B1 B2 A n c m b l) (k : KpK (KIt w00 p B1 B2) W W') : ItOk w00 W' p B1 B2 A n c m b l :=
  ⟨fun q hq => (k q (.inl hq)).trans (h.old q hq), (World.cell?_of_block (w := W) (k B1 (.inr (.inr (.inl rfl))))).trans h.c1, (World.cell?_of_block (w := W) (k B2 (.inr (.inr (.inr rfl))))).trans h.c2, h.t.of_block (k p (.inr (.inl rfl)))⟩
theorem ItOk.upd {w00 W W' : World} {p B1 B2 : Nat} {A : Option Addr} {n c : Nat} {m b l l' : Int} (h : ItOk w00 W p B1 B2 A n c m b l) (u : Upd p W W') (ht : Tank W' p m b l') (h0 : w00.heap.size ≤ p) (h00 : w00.heap.size ≤ W.heap.size) (h1 : B1 ≠ p) (h2 : B2 ≠ p) : ItOk w00 W' p B1 B2 A n c m b l' :=
  ⟨fun q hq => (u.block q (by omega) (by omega)).trans (h.old q hq), (World.cell?_of_block (w := W) (u.block B1 (World.block_lt_of_cell? W _ h.c1) h1)).trans h.c1, (World.cell?_of_block (w := W) (u.block B2 (World.block_lt_of_cell? W _ h.c2) h2)).trans h.c2, ht⟩
/-- An element of the sizes, in a later world. -/
theorem ItOk.at_ {w00 W : World} {p B1 B2 : Nat} {A : Option Addr} {n c : Nat} {m b l : Int} {xs : List Int} (h : ItOk w00 W p B1 B2 A n c m b l) (hr : Kd.C (Kd.int .i64) w00 A n xs) (k : Nat) (hk : k < n) : ∃ ad, A = some ad ∧ W.cell? (ad.add k) = some (.int .i64 (rd xs (k : Int))) := by
  obtain ⟨ad, e, hx⟩ := Kd.at_int hr (k : Int) (by omega) (by omega)
  rw [Int.toNat_natCast] at hx
  exact ⟨ad, e, (World.cell?_of_block (w := w00) (h.old _ (World.block_lt_of_cell? w00 _ hx))).trans hx⟩
theorem frame_facts {wr w2 : World} {p : Nat} {x : Value} (hp : p < wr.heap.size) (hu : Upd p (wr.alloc (.cells #[x, .int .i64 0, .int .i64 0] 64)) w2) :
    w2.cell? ⟨wr.heap.size, 0, none⟩ = some x ∧ w2.cell? ⟨wr.heap.size, 1, none⟩ = some (.int .i64 0) ∧ w2.cell? ⟨wr.heap.size, 2, none⟩ = some (.int .i64 0) ∧ w2.frozen? ⟨wr.heap.size, 1, none⟩ = false ∧ w2.frozen? ⟨wr.heap.size, 2, none⟩ = false := by
  have hb := hu.block wr.heap.size (by simp) (by omega)
  refine ⟨?_, ?_, ?_, ?_, ?_⟩
  · rw [World.cell?_of_block (a := ⟨wr.heap.size, 0, none⟩) hb]; simp
  · rw [World.cell?_of_block (a := ⟨wr.heap.size, 1, none⟩) hb]; simp
  · rw [World.cell?_of_block (a := ⟨wr.heap.size, 2, none⟩) hb]; simp
  · rw [World.frozen?_of_block (a := ⟨wr.heap.size, 1, none⟩) hb]; simp
  · rw [World.frozen?_of_block (a := ⟨wr.heap.size, 2, none⟩) hb]; simp
theorem frame_upd {wr w2 : World} {p : Nat} {x : Value} (y z : Int) (hu : Upd p (wr.alloc (.cells #[x, .int .i64 0, .int .i64 0] 64)) w2) :
    Upd p wr ((w2.setCell ⟨wr.heap.size, 1, none⟩ (.int .i64 y)).setCell ⟨wr.heap.size, 2, none⟩ (.int .i64 z)) := by
  refine ⟨hu.os, hu.tape, hu.output, ?_, fun k hk hp => ?_⟩
  · have := hu.size; simp at this; simp [World.setCell]; omega
  · rw [Below.heap_setCell _ _ _ _ (by show k ≠ wr.heap.size; omega), Below.heap_setCell _ _ _ _ (by show k ≠ wr.heap.size; omega), hu.block k (by simp; omega) hp]
    exact Below.heap_alloc _ _ _ hk
theorem frame_tank {wr w2 : World} {p : Nat} {m b l : Int} (y z : Int) (hp : p < wr.heap.size) (h : Tank w2 p m b l) : Tank ((w2.setCell ⟨wr.heap.size, 1, none⟩ (.int .i64 y)).setCell ⟨wr.heap.size, 2, none⟩ (.int .i64 z)) p m b l := by
  refine h.of_block ?_
  rw [Below.heap_setCell _ _ _ _ (by show p ≠ wr.heap.size; omega), Below.heap_setCell _ _ _ _ (by show p ≠ wr.heap.size; omega)]
set_option maxRecDepth 100000 in
set_option maxHeartbeats 4000000 in
theorem planned1_in (n : Nat) (hn1 : 1 ≤ n) (m b : Int) (l p B1 B2 : Nat) (A : Option Addr) (c N : Nat) (xs : List Int) (hN : xs.length = N) (hcap : N ≤ c) (hl : N ≤ 200) (J Jx : List Nat → World → Prop) (w00 : World) (hJ : UpdClosed p J)
    (h00 : w00.heap.size ≤ p) (h1 : B1 ≠ p) (h2 : B2 ≠ p) (hr : Kd.C (Kd.int .i64) w00 A N xs)
    (hY : ∀ (pre : List Nat) (x : Nat) W, J pre W → pre.length < N → YieldAt Fence.wide (n - 1) Tryd.prog l #[frV m b xs x] W fun e W' =>
      (e = .returned (.bool true) ∧ J (pre ++ [x]) W' ∧ KpK (KIt w00 p B1 B2) W W') ∨ (e = .returned (.bool false) ∧ Jx (pre ++ [x]) W'))
    (W : World) (hW : ItOk w00 W p B1 B2 A N c m b 0) (hs : w00.heap.size ≤ W.heap.size) (h0 : J [] W) :
    CallsIn Fence.wide n Tryd.prog 40 #[.func (.yield l) #[] #[], .pointer (some ⟨B1, 0, none⟩), .pointer (some ⟨B2, 0, none⟩)] W fun e W' => (∃ v, e = .returned v) ∧
      ((∃ ys, ys = List.range N ∧ J ys W') ∨ (∃ pre, pre <+: List.range N ∧ Jx pre W')) := by
  have HR := Aside0.mk hr
  have HN := Aside0.mk hN
  have HC := Aside0.mk hcap
  have HO := Aside0.mk hW
  have HS := Aside0.mk hs
  have H00 := Aside0.mk h00
  have H1 := Aside0.mk h1
  have H2 := Aside0.mk h2
  have HJC := Aside0.mk hJ
  have hc1 := hW.c1
  have hc2 := hW.c2
  clear hr hN hcap hW hs h00 h1 h2 hJ
  refine callsIn_of_wp Tryd.func40 rfl trivial ?_ rfl
  simp only [Tryd.ntmps40, List.size_toArray, List.length_cons, List.length_nil, Nat.reduceAdd, Nat.reduceSub, Array.replicate_succ, Array.replicate_zero, List.push_toArray, List.append_toArray, List.nil_append, List.cons_append]
  gi_wp2
  clear hc1 hc2
  gi_loopw [12] (fun i wr => ∃ k : Nat, i = .int .i64 (k : Int) ∧ Aside0 (k ≤ N) ∧ Aside0 (J (List.range k) wr) ∧ Aside0 (ItOk w00 wr p B1 B2 A N c m b (lv m b xs k) ∧ w00.heap.size ≤ wr.heap.size)) (fun i _ => N - (intOf i).toNat)
  case atStart => exact ⟨0, rfl, ⟨by omega⟩, ⟨h0⟩, ⟨HO.out, HS.out⟩⟩
  case round =>
    obtain ⟨k, rfl, HK, HJ, HI⟩ := hrel
    by_cases hk : k < N
    · have HKT := Aside0.mk hk
      have hk1 : (k : Int) < (N : Int) := by omega
      have hk0 : (0 : Int) ≤ (k : Int) := by omega
      obtain ⟨ad, rfl, hx⟩ := HI.out.1.at_ HR.out k hk
      have hc1 := HI.out.1.c1
      clear hk
      have HPL := Aside0.mk HI.out.1.t.lt
      gi_wp2_with (first
        | (refine ⟨trivial, ?_⟩; gi_at_call 17; refine (callsIn_wide.2 (level_any HI.out.1.t)).mono ?_; rintro e w' ⟨rfl, rfl⟩)
        | (refine ⟨trivial, ?_⟩; gi_at_call 19; refine (callsIn_wide.2 (take_at (rd xs (k : Int)) (pd m b xs k) (er m b xs k) (lv m b xs (k + 1)) (HI.out.1.t.below (below_alloc (Below.refl _ _) _)) rfl rfl rfl)).mono ?_; rintro e w2 ⟨rfl, ht, hu⟩; have HT2 := Aside0.mk ht; have HU := Aside0.mk hu; obtain ⟨hf0, hf1, hf2, fz1, fz2⟩ := frame_facts HPL.out hu; have HU3 := Aside0.mk (frame_upd (pd m b xs k) (er m b xs k) hu); obtain ⟨fn, tmps, assign, body, hy, hR⟩ := hY _ k _ (HJC.out _ _ _ HJ.out HU3.out) (by rw [List.length_range]; exact HKT.out); unfold frV at hy; clear ht hu))
      refine hR.mono ?_
      rintro e W3 (⟨rfl, hJ3, hk3⟩ | ⟨rfl, hJx3⟩)
      · have HJ3 := Aside0.mk hJ3
        have HI3 := Aside0.mk ((HI.out.1.upd HU3.out (frame_tank (pd m b xs k) (er m b xs k) HPL.out HT2.out) H00.out HI.out.2 H1.out H2.out).kept hk3)
        have HS3 := Aside0.mk (show w00.heap.size ≤ W3.heap.size from Nat.le_trans H00.out (Nat.le_of_lt HI3.out.t.lt))
        clear hJ3 hk3 hy hR hf0 hf1 hf2 fz1 fz2
        gi_wp2
        go_roundw
        case rel => exact ⟨k + 1, by go_num, ⟨HKT.out⟩, ⟨by rw [List.range_succ]; exact HJ3.out⟩, ⟨HI3.out, HS3.out⟩⟩
        case measure => have := HKT.out; simp [intOf]; omega
      · clear hy hR hf0 hf1 hf2 fz1 fz2
        have HJX := Aside0.mk hJx3
        clear hJx3
        gi_wp2
        refine bodyPost_ret (results_none rfl _ _ _) rfl ?_
        exact ⟨⟨_, rfl⟩, .inr ⟨_, range_prefix HKT.out, HJX.out⟩⟩
    · have hkn : k = N := by have := HK.out; omega
      subst hkn
      gi_wp2
      go_end0
      exact ⟨⟨_, rfl⟩, .inl ⟨_, rfl, HJ.out⟩⟩
end Go.Proofs.YtacoekniljimoaaDoor.Res
