/- Chapter 23, ReservoirBack: the rows that it builds, side by side. Conditions: none beyond each theorem's own. -/
import Derived.Test.YtacoekniljimoaaDoorBK
import Derived.Test.YtacoekniljimoaaDoorWZeros
namespace Go.Proofs.YtacoekniljimoaaDoor.Res
open Go.RowKit Go.Proofs.YtacoekniljimoaaDoorW.PrintWords Go.Proofs.YtacoekniljimoaaDoorW.PrintLast Go.Proofs.YtacoekniljimoaaDoorW.PrintMore
set_option linter.unusedVariables false
set_option linter.unusedSimpArgs false
set_option maxRecDepth 100000
theorem lit8 (W : World) (x : Int) : Kd.C (Kd.int .u8) (W.alloc (.cells #[.int .u8 x] 5)) (some ⟨W.heap.size, 0, none⟩) 1 [x] := lit_row W 5 [x] (by simp)
theorem info37 : (Tryd.prog.info? 37).map (fun i => (i.zero, i.size, i.bytes)) = some (some (.slice none 0 0), 1, 24) := by kernel_rfl
/-- Rows of bytes, in a row. -/
def KB : Kd (List Int) := Kd.slice 5 (Kd.int .u8)
theorem R_grown2 {α : Type} {d : Kd α} {e : Nat} {W W1 : World} {B : Nat} {v v1 u : Value} {ys : List α} (h : d.R e W B (fun k => some k ≠ v.ownBlock) u ys) (hg : W.grownBy W1 v.ownBlock) (hat : v1.ownBlock = v.ownBlock ∨ ∃ b, v1.ownBlock = some b ∧ W.heap.size ≤ b) : d.R e W1 B (fun k => some k ≠ v1.ownBlock) u ys := by
  have hb := Kd.R_bound h
  refine Kd.R_mono (Kd.R_step hb (fun k hk hlt => hg.block k hlt hk.1)) (fun k hk => ?_)
  rcases hat with e | ⟨b, e, hbb⟩
  · rw [e]; exact hk.1
  · rw [e]
    intro e2
    injection e2 with e2
    have := hk.2.2.1
    omega
structure Both (W : World) (B : Nat) (va vd : Value) (la : List Int) (ld : List (List Int)) : Prop where
  a : (Kd.int .u8).R 5 W B (fun k => some k ≠ vd.ownBlock) va la
  d : KB.R 37 W B (fun k => some k ≠ va.ownBlock) vd ld
section
variable {W W1 : World} {B : Nat} {va vd v1 : Value} {la la1 : List Int} {ld ld1 : List (List Int)}
theorem Both.nil (W : World) (B : Nat) : Both W B (.slice none 0 0) (.slice none 0 0) [] [] := ⟨Kd.R_nil _ _ _ _ _, Kd.R_nil _ _ _ _ _⟩
theorem Both.below (h : Both W B va vd la ld) (hb : Below W.heap.size W W1) : Both W1 B va vd la ld := ⟨Kd.R_below h.a hb, Kd.R_below h.d hb⟩
theorem Both.lta (h : Both W B va vd la ld) : ∀ k, va.ownBlock = some k → k < W.heap.size := fun k hk => ((Kd.R_bound h.a).1 k hk).2.2.1
theorem Both.ltd (h : Both W B va vd la ld) : ∀ k, vd.ownBlock = some k → k < W.heap.size := fun k hk => ((Kd.R_bound h.d).1 k hk).2.2.1
theorem Both.fa (h : Both W B va vd la ld) : ∀ k, W.heap.size ≤ k → some k ≠ va.ownBlock := fun k hk e => by have := h.lta k e.symm; omega
theorem Both.fd (h : Both W B va vd la ld) : ∀ k, W.heap.size ≤ k → some k ≠ vd.ownBlock := fun k hk e => by have := h.ltd k e.symm; omega
theorem Both.grow_a (h : Both W B va vd la ld) (h1 : (Kd.int .u8).R 5 W1 B (fun k => some k ≠ vd.ownBlock) v1 la1) (hg : W.grownBy W1 va.ownBlock) (hat : v1.ownBlock = va.ownBlock ∨ ∃ b, v1.ownBlock = some b ∧ W.heap.size ≤ b) : Both W1 B v1 vd la1 ld :=
  ⟨h1, R_grown2 h.d hg hat⟩
theorem Both.grow_d (h : Both W B va vd la ld) (h1 : KB.R 37 W1 B (fun k => some k ≠ va.ownBlock) v1 ld1) (hg : W.grownBy W1 vd.ownBlock) (hat : v1.ownBlock = vd.ownBlock ∨ ∃ b, v1.ownBlock = some b ∧ W.heap.size ≤ b) : Both W1 B va v1 la ld1 :=
  ⟨R_grown2 h.a hg hat, h1⟩
end
/-- A new body x, in memory from B' on. -/
structure Body (W : World) (B' : Nat) (vx : Value) (lx : List Int) : Prop where
  r : (Kd.int .u8).R 5 W B' (fun _ => True) vx lx
section
variable {W W1 : World} {B B' : Nat} {va vd vx v1 : Value} {la la1 lx : List Int} {ld ld1 : List (List Int)}
theorem Body.below (h : Body W B' vx lx) (hb : Below W.heap.size W W1) : Body W1 B' vx lx := ⟨Kd.R_below h.r hb⟩
theorem Body.reads (h : Body W B' vx lx) : ∃ A c, vx = .slice A lx.length c ∧ lx.length ≤ c ∧ Kd.C (Kd.int .u8) W A lx.length lx := Kd.R_reads h.r
theorem Body.M (h : Body W B' vx lx) (hB : B ≤ B') : KB.M W B (fun k => B' ≤ k) lx [vx] := Kd.M_row (Kd.R_mono (Kd.R_lower (Kd.R_bound h.r) hB) (fun k hk => hk.2.1))
theorem Body.kept (h : Body W B' vx lx) {r : Option Nat} (hg : W.grownBy W1 r) (hr : ∀ k, r = some k → k < B') : Body W1 B' vx lx := by
  refine ⟨Kd.R_mono (Kd.R_step (Kd.R_bound h.r) (fun k hk hlt => hg.block k hlt (fun e => ?_))) (fun _ _ => trivial)⟩
  have := hr k e.symm
  have := hk.2.1
  omega
end
/-- Where the first k frames have been gathered. -/
structure Got (xs P : List Int) (ld : List (List Int)) (k : Nat) (la : List Int) : Prop where
  len : ld.length = k
  each : ∀ j, j < k → ((ld.getD j []).length : Int) = rd xs (j : Int)
  all : la = catTo (fun j => ld.getD j []) (fun j => rd P (j : Int)) k
theorem Got.nil (xs P : List Int) : Got xs P [] 0 [] := ⟨rfl, fun j h => by omega, rfl⟩
theorem Got.next {xs P la lx : List Int} {ld : List (List Int)} {k : Nat} (h : Got xs P ld k la) (hx : (lx.length : Int) = rd xs (k : Int)) : Got xs P (ld ++ [lx]) (k + 1) (la ++ lx ++ List.replicate (rd P (k : Int)).toNat 0) := by
  have hl := h.len
  have g1 : ∀ j, j < k → (ld ++ [lx]).getD j [] = ld.getD j [] := fun j hj => by
    rw [List.getD_eq_getElem?_getD, List.getD_eq_getElem?_getD, List.getElem?_append_left (by omega)]
  have g2 : (ld ++ [lx]).getD k [] = lx := by
    rw [List.getD_eq_getElem?_getD, ← hl]
    simp
  refine ⟨by simp [hl], fun j hj => ?_, ?_⟩
  · by_cases e : j = k
    · subst e
      rw [g2]; exact hx
    · rw [g1 j (by omega)]
      exact h.each j (by omega)
  · simp only [catTo]
    rw [g2, catTo_congr (g := fun j => ld.getD j []) (fun i hi => g1 i hi), ← h.all]
theorem Body.C {W : World} {B' n c : Nat} {A : Option Addr} {lx : List Int} (h : Body W B' (.slice A n c) lx) : Kd.C (Kd.int .u8) W A n lx := by
  obtain ⟨h1, h2, h3⟩ := Kd.R_reads' h.r
  rw [← h1] at h3
  exact h3
theorem catTo_pads {f : Nat → List Int} {p q : Nat → Int} : ∀ {k : Nat}, (∀ i, i < k → p i = q i) → catTo f p k = catTo f q k
  | 0, _ => rfl
  | k + 1, h => by
    simp only [catTo]
    rw [catTo_pads (k := k) (fun i hi => h i (by omega)), h k (by omega)]
theorem Got.total {m b : Int} {xs P la : List Int} {ld : List (List Int)} {k n : Nat} (h : Got xs P ld k la) (hb : okR m b) (h0 : eTo m b xs n = 0) (hp : ∀ i, i < n → rd P (i : Int) = pd m b xs i) (hk : k ≤ n) : (la.length : Int) = m * (k : Int) - lv m b xs k := by
  rw [h.all, catTo_pads (q := pd m b xs) (fun i hi => hp i (by omega))]
  exact cat_len hb (n := k) (by
    refine eTo_zero k (fun i hi => eTo_all h0 i (by omega))) (fun i hi => h.each i hi) k (Nat.le_refl _)
theorem Got.bound {m b : Int} {xs P la : List Int} {ld : List (List Int)} {k n : Nat} (h : Got xs P ld k la) (hb : okR m b) (h0 : eTo m b xs n = 0) (hp : ∀ i, i < n → rd P (i : Int) = pd m b xs i) (hk : k ≤ n) (hn : n ≤ 40) : la.length ≤ 100000 := by
  have h1 := h.total hb h0 hp hk
  have h2 := (lv_range (m := m) xs hb.2 k).1
  have h3 : m * (k : Int) ≤ 2047 * (k : Int) := Int.mul_le_mul_of_nonneg_right hb.1.2 (by omega)
  omega
theorem run_mid (A : Option Addr) (n c : Nat) (l h : Int) (h0 : 0 ≤ l) (h1 : l ≤ h) (h2 : h ≤ c) (W : World) : (Instr.slice 37 (.slice A n c) (some (.int .i64 l)) (some (.int .i64 h)) none).run Tryd.prog W = .ok (.slice (if c = l.toNat then A else A.map (·.add l.toNat)) (h.toNat - l.toNat) (c - l.toNat)) W := by
  obtain ⟨i0, hi, hz⟩ := Option.map_eq_some_iff.1 info5
  simp only [Prod.mk.injEq] at hz
  have hel : Tryd.prog.elem 37 = 5 := by simp [Program.elem, Tryd.underlying37]
  rw [run_slice_lh W 37 A n c (by rw [hel]; exact Tryd.underlying37) .i64 .i64 l h h0 h1 h2, hel]
  simp [sizeOf, typeInfo, hi, hz.2.1, sliced, Result.andThen]
theorem run_top (A : Option Addr) (n c h : Nat) (h2 : h ≤ c) (W : World) : (Instr.slice 37 (.slice A n c) none (some (.int .i64 (h : Int))) none).run Tryd.prog W = .ok (.slice A h c) W := by
  obtain ⟨i0, hi, hz⟩ := Option.map_eq_some_iff.1 info5
  simp only [Prod.mk.injEq] at hz
  have hel : Tryd.prog.elem 37 = 5 := by simp [Program.elem, Tryd.underlying37]
  rw [run_slice_h W 37 A n c (by rw [hel]; exact Tryd.underlying37) .i64 (h : Int) (Int.natCast_nonneg _) (by omega), hel]
  have e : A.map (fun x => x.add 0) = A := by cases A <;> simp [Addr.add]
  simp [sizeOf, typeInfo, hi, hz.2.1, sliced, Result.andThen, e]
theorem C_mid {w : World} {A : Option Addr} {n c t M : Nat} {xs : List Int} (h : Kd.C (Kd.int .u8) w A n xs) (hk : t + M ≤ n) (hc : n ≤ c) : Kd.C (Kd.int .u8) w (if c = t then A else A.map (·.add t)) M ((xs.drop t).take M) := by
  have h1 := C_from h (k := t) (by omega) hc
  have hx : xs.length = n := h.1
  have hl : (xs.drop t).length = n - t := by rw [List.length_drop, hx]
  rw [← hl] at h1
  have h2 := Kd.C_take (m := M) h1 (by omega)
  rw [List.length_take, Nat.min_eq_left (by omega)] at h2
  exact h2
set_option maxHeartbeats 4000000 in
theorem same_quiet {A A' : Option Addr} {n c c' : Nat} {xs : List Int} {w : World} (h : Kd.C (Kd.int .u8) w A n xs) (h' : Kd.C (Kd.int .u8) w A' n xs) (hn : n ≤ 1000000) :
    Calls Tryd.prog 22 #[.slice A n c, .slice A' n c'] w fun e w' => e = .returned (.bool true) ∧ ∃ m, w' = w.drewN m := by
  have H := Aside0.mk h
  have H' := Aside0.mk h'
  clear h h'
  go_enter Tryd.func22, Tryd.ntmps22
  go_wp2
  go_loopw [13] (fun i wr => ∃ k : Nat, i = .int .i64 (k : Int) ∧ Aside0 (k ≤ n) ∧ Aside0 (∃ m, wr = w.drewN m)) (fun i _ => n - (intOf i).toNat)
  case atStart => exact ⟨0, rfl, ⟨by omega⟩, ⟨0, rfl⟩⟩
  case round =>
    obtain ⟨k, rfl, HK, HB⟩ := hrel
    by_cases hk : k < n
    · have HKT := Aside0.mk hk
      have hk1 : (k : Int) < (n : Int) := by omega
      have hk0 : (0 : Int) ≤ (k : Int) := by omega
      obtain ⟨m, rfl⟩ := HB.out
      obtain ⟨ad, rfl, hx⟩ := Kd.at_int (Kd.C_drewN H.out m) (k : Int) (by omega) (by omega)
      obtain ⟨ad', rfl, hx'⟩ := Kd.at_int (Kd.C_drewN H'.out m) (k : Int) (by omega) (by omega)
      rw [Int.toNat_natCast] at hx hx'
      obtain ⟨y, hy⟩ : ∃ y, y = rd xs (k : Int) := ⟨_, rfl⟩
      rw [← hy] at hx hx'
      obtain ⟨wm, hwm⟩ : ∃ wm, wm = w.drewN m := ⟨_, rfl⟩
      rw [← hwm] at hx hx' ⊢
      have HWM := Aside0.mk hwm
      clear hk hy hwm HB
      go_wp2
      go_quiet ((skip))
      go_wp2
      go_roundw
      case rel => exact ⟨k + 1, by go_num, ⟨HKT.out⟩, ⟨⟨_, by rw [HWM.out]; simp only [World.drewN_drewN]; rfl⟩⟩⟩
      case measure => have := HKT.out; simp [intOf]; omega
    · have hkn : k = n := by have := HK.out; omega
      subst hkn
      go_wp2
      go_ret
      exact ⟨rfl, HB.out⟩
theorem mid_at (A : Option Addr) (n c t M : Nat) (hk : t + M ≤ n) (hc : n ≤ c) : ∃ A' cc, (∀ W, (Instr.slice 37 (.slice A n c) (some (.int .i64 (t : Int))) (some (.int .i64 ((t : Int) + (M : Int)))) none).run Tryd.prog W = .ok (.slice A' M cc) W) ∧ ∀ (w : World) (xs : List Int), Kd.C (Kd.int .u8) w A n xs → Kd.C (Kd.int .u8) w A' M ((xs.drop t).take M) := by
  refine ⟨if c = t then A else A.map (·.add t), c - t, fun W => ?_, fun w xs h => C_mid h hk hc⟩
  rw [run_mid A n c (t : Int) ((t : Int) + (M : Int)) (by omega) (by omega) (by omega) W]
  have e : ((t : Int) + (M : Int)).toNat - ((t : Int)).toNat = M := by omega
  rw [e]
  rfl
/-- Element k of the bodies. -/
theorem body_at {w : World} {A : Option Addr} {n k : Nat} {ld : List (List Int)} (h : KB.C w A n ld) (hk : k < n) : ∃ ad Ax cx, A = some ad ∧ w.cell? (ad.add k) = some (.slice Ax (ld.getD k []).length cx) ∧ (ld.getD k []).length ≤ cx ∧ Kd.C (Kd.int .u8) w Ax (ld.getD k []).length (ld.getD k []) := by
  obtain ⟨ad, cs, rfl, hl, hK, hcell⟩ := Kd.C_get h [] (k : Int) (by omega) (by omega)
  rw [Int.toNat_natCast] at hK hcell
  obtain ⟨Ax, cx, rfl, h1, h2⟩ := hK
  have h3 := hcell 0 _ rfl
  simp only [KB, Kd.slice, Nat.mul_one, Nat.add_zero] at h3
  exact ⟨ad, Ax, cx, rfl, h3, h1, h2⟩
/-- The sizes of frame k. -/
theorem frame_at {M n k L : Nat} {y : Int} {xs lp la F : List Int} {ld : List (List Int)} (hb : okR (M : Int) y) (h0 : eTo (M : Int) y xs n = 0) (hp : ∀ i, i < n → rd lp (i : Int) = pd (M : Int) y xs i) (hG : Got xs lp ld n la) (hF : F = la ++ List.replicate L 0) (hlen : F.length = M * n) (hk : k < n) :
    ∃ bk t : Nat, lv (M : Int) y xs k = (bk : Int) ∧ (M : Int) * (k : Int) = (t : Int) ∧ t = M * k ∧ t + M = M * (k + 1) ∧ t + M ≤ F.length ∧ bk ≤ 511 ∧ bk ≤ t ∧ (ld.getD k []).length ≤ M + bk ∧ ((F.take (t + M)).drop (t - bk)).take (ld.getD k []).length = ld.getD k [] := by
  obtain ⟨l0, l1⟩ := lv_range (m := (M : Int)) xs hb.2 k
  obtain ⟨bk, hbk⟩ := Int.eq_ofNat_of_zero_le l0
  have hM : (M : Int) * (k : Int) = ((M * k : Nat) : Int) := by simp
  have hM1 : M * k + M = M * (k + 1) := by rw [Nat.mul_add, Nat.mul_one]
  have hle : M * (k + 1) ≤ M * n := Nat.mul_le_mul_left M (by omega)
  obtain ⟨r, hr⟩ := catTo_more (fun j => ld.getD j []) (fun j => rd lp (j : Int)) k n (by omega)
  have hc : ((catTo (fun j => ld.getD j []) (fun j => rd lp (j : Int)) k).length : Int) = (M : Int) * (k : Int) - lv (M : Int) y xs k := by
    rw [catTo_pads (q := pd (M : Int) y xs) (fun i hi => hp i (by omega))]
    exact cat_len hb h0 (fun i hi => hG.each i hi) k (by omega)
  obtain ⟨s1, s2, _, _, _⟩ := step_ok hb h0 hk
  have hx := hG.each k hk
  have hy := hb.2.2
  rw [hM, hbk] at hc
  rw [hbk] at s2
  have hle2 : (ld.getD k []).length ≤ M + bk := by omega
  refine ⟨bk, M * k, hbk, hM, rfl, hM1, by omega, by omega, by omega, hle2, ?_⟩
  refine data_body (C := catTo (fun j => ld.getD j []) (fun j => rd lp (j : Int)) k) (r := r ++ List.replicate L 0) ?_ (by omega) hle2 (by omega) (by omega)
  rw [hF, hG.all, hr]
  simp only [List.append_assoc]
end Go.Proofs.YtacoekniljimoaaDoor.Res
