/- Functions of the Go program as Lean functions, each with a proof that the call computes it. Conditions: none beyond each theorem's own. -/
import Derived.Test.YtooipbjdpajmmaaHlx0
import Derived.Test.YtooipbjdpajmmaaHlx1
import Derived.Test.YtooipbjdpajmmaaHlx2
import Derived.Test.YtooipbjdpajmmaaHlx3
import Derived.Test.YtooipbjdpajmmaaHlx4
import Derived.Test.YtooipbjdpajmmaaHlx5
import Derived.Test.YtooipbjdpajmmaaHlx6
namespace Go.Proofs.Ytooipbjdpajmmaa.Hl
open Go.RowKit Go.Proofs.YtooipbjdpajmmaaW.PrintWords Go.Proofs.YtooipbjdpajmmaaW.PrintLast Go.Proofs.YtooipbjdpajmmaaW.PrintMore
attribute [local go_sem] max2_int min2_int max_two min_two max_three min_three max_four min_four   -- for this text's walks alone
set_option linter.unusedVariables false
set_option linter.unusedSimpArgs false

/-! ### block_Exact: function 28 -/
def block_Exact.f (k : Nat) (l0 : List Bool) (a1 : Int) (a2 : Int) : Option (Int × Int × Int) := if (l0.length : Int) > 64 then (some (0, 0, 2)) else (if a1 < 0 then (some (0, 0, 6)) else (if a2 < a1 then (some (0, 0, 6)) else (if a2 > (l0.length : Int) then (some (0, 0, 6)) else ((block_lap.f k l0 a1).bind fun t132 => ((block_lap.f k l0 a2).bind fun t133 => (if (wrap64 ((wrap64 (a1 * 128)) + (wrap64 (Int.tdiv t132 2)))) ≥ (wrap64 ((wrap64 (a2 * 128)) - (wrap64 (Int.tdiv t133 2)))) then (some (wrap64 (a1 * 128), wrap64 (a1 * 128), 0)) else (some (wrap64 ((wrap64 (a1 * 128)) + (wrap64 (Int.tdiv t132 2))), wrap64 ((wrap64 (a2 * 128)) - (wrap64 (Int.tdiv t133 2))), 0))))))))
theorem block_Exact.mono : ∀ a0 a1 a2 k, LeO (block_Exact.f k a0 a1 a2) (block_Exact.f (k + 1) a0 a1 a2) := by
  intro a0 a1 a2 k
  unfold block_Exact.f
  repeat' first
      | (with_reducible exact block_lap.mono _ _ _)
      | (with_reducible exact LeO.refl _)
      | (with_reducible exact LeO.none _)
      | (with_reducible refine LeO.ite ?_ ?_)
      | (with_reducible refine LeO.bind ?_ (fun _ => ?_))
      | exact block_lap.mono _ _ _
      | exact LeO.none _
      | refine LeO.ite ?_ ?_
      | refine LeO.bind ?_ (fun _ => ?_)
set_option maxHeartbeats 8000000 in
set_option maxRecDepth 100000 in
theorem block_Exact.calls (k : Nat) (A0 : Option Addr) (c0 : Nat) (l0 : List Bool) (a1 : Int) (a2 : Int) (r1 : Int) (r2 : Int) (r3 : Int) (w : World) (hr0 : Kd.C Kd.bool w A0 l0.length l0) (hc0 : l0.length ≤ c0) (h : block_Exact.f k l0 a1 a2 = some (r1, r2, r3)) :
    Calls Try.prog 28 #[.slice A0 l0.length c0, .int .i64 a1, .int .i64 a2] w fun e w' => e = .returned (.tuple #[.int .i64 r1, .int .i64 r2, .int .i64 r3]) ∧ Drawn0 w w' := by
  have HR0 := Aside0.mk hr0
  have HC0 := Aside0.mk hc0
  clear hr0 hc0
  have H : (if (l0.length : Int) > 64 then (some (0, 0, 2)) else (if a1 < 0 then (some (0, 0, 6)) else (if a2 < a1 then (some (0, 0, 6)) else (if a2 > (l0.length : Int) then (some (0, 0, 6)) else ((block_lap.f k l0 a1).bind fun t132 => ((block_lap.f k l0 a2).bind fun t133 => (if (wrap64 ((wrap64 (a1 * 128)) + (wrap64 (Int.tdiv t132 2)))) ≥ (wrap64 ((wrap64 (a2 * 128)) - (wrap64 (Int.tdiv t133 2)))) then (some (wrap64 (a1 * 128), wrap64 (a1 * 128), 0)) else (some (wrap64 ((wrap64 (a1 * 128)) + (wrap64 (Int.tdiv t132 2))), wrap64 ((wrap64 (a2 * 128)) - (wrap64 (Int.tdiv t133 2))), 0))))))))) = some (r1, r2, r3) := h
  clear h
  by_cases c4 : (l0.length : Int) > 64
  · rw [if_pos c4] at H
    have c4b0 : decide (64 < (l0.length : Int)) = true := decide_eq_true c4
    have c4b1 : decide (64 < l0.length) = true := decide_eq_true (by omega)
    clear c4
    simp only [Option.some.injEq, Prod.mk.injEq] at H
    obtain ⟨rfl, rfl, rfl⟩ := H
    go_enter Try.func28, Try.ntmps28
    go_wp2
    go_ret3
    exact ⟨by first | rfl | (simp; done) | (simp [*]; done), by repeat (first | exact Drawn0.refl _ | apply Drawn0.step)⟩
  · rw [if_neg c4] at H
    have c4b0 : decide (64 < (l0.length : Int)) = false := decide_eq_false c4
    have c4b1 : decide (64 < l0.length) = false := decide_eq_false (by omega)
    clear c4
    by_cases c5 : a1 < 0
    · rw [if_pos c5] at H
      have c5b0 : decide (a1 < 0) = true := decide_eq_true c5
      clear c5
      simp only [Option.some.injEq, Prod.mk.injEq] at H
      obtain ⟨rfl, rfl, rfl⟩ := H
      go_enter Try.func28, Try.ntmps28
      go_wp2
      go_ret3
      exact ⟨by first | rfl | (simp; done) | (simp [*]; done), by repeat (first | exact Drawn0.refl _ | apply Drawn0.step)⟩
    · rw [if_neg c5] at H
      have c5b0 : decide (a1 < 0) = false := decide_eq_false c5
      clear c5
      by_cases c6 : a2 < a1
      · rw [if_pos c6] at H
        have c6b0 : decide (a2 < a1) = true := decide_eq_true c6
        clear c6
        simp only [Option.some.injEq, Prod.mk.injEq] at H
        obtain ⟨rfl, rfl, rfl⟩ := H
        go_enter Try.func28, Try.ntmps28
        go_wp2
        go_ret3
        exact ⟨by first | rfl | (simp; done) | (simp [*]; done), by repeat (first | exact Drawn0.refl _ | apply Drawn0.step)⟩
      · rw [if_neg c6] at H
        have c6b0 : decide (a2 < a1) = false := decide_eq_false c6
        clear c6
        by_cases c7 : a2 > (l0.length : Int)
        · rw [if_pos c7] at H
          have c7b0 : decide ((l0.length : Int) < a2) = true := decide_eq_true c7
          clear c7
          simp only [Option.some.injEq, Prod.mk.injEq] at H
          obtain ⟨rfl, rfl, rfl⟩ := H
          go_enter Try.func28, Try.ntmps28
          go_wp2
          go_ret3
          exact ⟨by first | rfl | (simp; done) | (simp [*]; done), by repeat (first | exact Drawn0.refl _ | apply Drawn0.step)⟩
        · rw [if_neg c7] at H
          have c7b0 : decide ((l0.length : Int) < a2) = false := decide_eq_false c7
          clear c7
          replace H := Option.bind_eq_some_iff.mp H
          obtain ⟨t132, A80, H⟩ := H
          replace H : ((block_lap.f k l0 a2).bind fun t133 => (if (wrap64 ((wrap64 (a1 * 128)) + (wrap64 (Int.tdiv t132 2)))) ≥ (wrap64 ((wrap64 (a2 * 128)) - (wrap64 (Int.tdiv t133 2)))) then (some (wrap64 (a1 * 128), wrap64 (a1 * 128), 0)) else (some (wrap64 ((wrap64 (a1 * 128)) + (wrap64 (Int.tdiv t132 2))), wrap64 ((wrap64 (a2 * 128)) - (wrap64 (Int.tdiv t133 2))), 0)))) = some (r1, r2, r3) := H
          have A8 := Aside0.mk A80
          clear A80
          replace H := Option.bind_eq_some_iff.mp H
          obtain ⟨t133, A90, H⟩ := H
          replace H : (if (wrap64 ((wrap64 (a1 * 128)) + (wrap64 (Int.tdiv t132 2)))) ≥ (wrap64 ((wrap64 (a2 * 128)) - (wrap64 (Int.tdiv t133 2)))) then (some (wrap64 (a1 * 128), wrap64 (a1 * 128), 0)) else (some (wrap64 ((wrap64 (a1 * 128)) + (wrap64 (Int.tdiv t132 2))), wrap64 ((wrap64 (a2 * 128)) - (wrap64 (Int.tdiv t133 2))), 0))) = some (r1, r2, r3) := H
          have A9 := Aside0.mk A90
          clear A90
          by_cases c10 : (wrap64 ((wrap64 (a1 * 128)) + (wrap64 (Int.tdiv t132 2)))) ≥ (wrap64 ((wrap64 (a2 * 128)) - (wrap64 (Int.tdiv t133 2))))
          · rw [if_pos c10] at H
            have c10b0 : decide ((wrap64 ((wrap64 (a2 * 128)) - (wrap64 (Int.tdiv t133 2)))) ≤ (wrap64 ((wrap64 (a1 * 128)) + (wrap64 (Int.tdiv t132 2))))) = true := decide_eq_true c10
            clear c10
            simp only [Option.some.injEq, Prod.mk.injEq] at H
            obtain ⟨rfl, rfl, rfl⟩ := H
            go_enter Try.func28, Try.ntmps28
            go_wp2_with (first | ((with_reducible refine gate_callee (f := 50) rfl ?_); refine goesL_ (some 31) rfl rfl Try.func50 (by kernel_rfl) rfl #[.slice A0 l0.length c0, .int .i64 a1] rfl (by (try simp only [List.map_toArray, List.map_cons, List.map_nil]); first | done | rfl | (simp only [List.length_drop, List.length_take]; rfl)) ?_; (with_reducible refine (block_lap.calls k _ _ l0 a1 t132 _ ?side1 ?side2 A8.out).mono ?_); (case side1 => repeat (first | exact HR0.out | (with_reducible refine Kd.C_alloc ?_ _) | (with_reducible refine Kd.C_drewN ?_ _) | (with_reducible refine Kd.C_drew ?_))); (case side2 => exact HC0.out); rintro e w' ⟨rfl, ⟨nd, rfl⟩⟩; refine ⟨_, rfl, ?_⟩) | ((with_reducible refine gate_callee (f := 50) rfl ?_); refine goesL_ (some 38) rfl rfl Try.func50 (by kernel_rfl) rfl #[.slice A0 l0.length c0, .int .i64 a2] rfl (by (try simp only [List.map_toArray, List.map_cons, List.map_nil]); first | done | rfl | (simp only [List.length_drop, List.length_take]; rfl)) ?_; (with_reducible refine (block_lap.calls k _ _ l0 a2 t133 _ ?side1 ?side2 A9.out).mono ?_); (case side1 => repeat (first | exact HR0.out | (with_reducible refine Kd.C_alloc ?_ _) | (with_reducible refine Kd.C_drewN ?_ _) | (with_reducible refine Kd.C_drew ?_))); (case side2 => exact HC0.out); rintro e w' ⟨rfl, ⟨nd, rfl⟩⟩; refine ⟨_, rfl, ?_⟩))
            go_ret3
            exact ⟨by first | rfl | (simp; done) | (simp [*]; done), by repeat (first | exact Drawn0.refl _ | apply Drawn0.step)⟩
          · rw [if_neg c10] at H
            have c10b0 : decide ((wrap64 ((wrap64 (a2 * 128)) - (wrap64 (Int.tdiv t133 2)))) ≤ (wrap64 ((wrap64 (a1 * 128)) + (wrap64 (Int.tdiv t132 2))))) = false := decide_eq_false c10
            clear c10
            simp only [Option.some.injEq, Prod.mk.injEq] at H
            obtain ⟨rfl, rfl, rfl⟩ := H
            go_enter Try.func28, Try.ntmps28
            go_wp2_with (first | ((with_reducible refine gate_callee (f := 50) rfl ?_); refine goesL_ (some 31) rfl rfl Try.func50 (by kernel_rfl) rfl #[.slice A0 l0.length c0, .int .i64 a1] rfl (by (try simp only [List.map_toArray, List.map_cons, List.map_nil]); first | done | rfl | (simp only [List.length_drop, List.length_take]; rfl)) ?_; (with_reducible refine (block_lap.calls k _ _ l0 a1 t132 _ ?side1 ?side2 A8.out).mono ?_); (case side1 => repeat (first | exact HR0.out | (with_reducible refine Kd.C_alloc ?_ _) | (with_reducible refine Kd.C_drewN ?_ _) | (with_reducible refine Kd.C_drew ?_))); (case side2 => exact HC0.out); rintro e w' ⟨rfl, ⟨nd, rfl⟩⟩; refine ⟨_, rfl, ?_⟩) | ((with_reducible refine gate_callee (f := 50) rfl ?_); refine goesL_ (some 38) rfl rfl Try.func50 (by kernel_rfl) rfl #[.slice A0 l0.length c0, .int .i64 a2] rfl (by (try simp only [List.map_toArray, List.map_cons, List.map_nil]); first | done | rfl | (simp only [List.length_drop, List.length_take]; rfl)) ?_; (with_reducible refine (block_lap.calls k _ _ l0 a2 t133 _ ?side1 ?side2 A9.out).mono ?_); (case side1 => repeat (first | exact HR0.out | (with_reducible refine Kd.C_alloc ?_ _) | (with_reducible refine Kd.C_drewN ?_ _) | (with_reducible refine Kd.C_drew ?_))); (case side2 => exact HC0.out); rintro e w' ⟨rfl, ⟨nd, rfl⟩⟩; refine ⟨_, rfl, ?_⟩))
            go_ret3
            exact ⟨by first | rfl | (simp; done) | (simp [*]; done), by repeat (first | exact Drawn0.refl _ | apply Drawn0.step)⟩

-- NOT PRINTED: function 56 (block_each_bool_int)

/-! ### block_Kinds: function 34 (by hand) -/
/-- The kind of frame i by its flags. -/
def kindB (l : List Bool) (i : Nat) : Int :=
  if l.getD i false = true then 2
  else if (decide (0 < i) && l.getD (i - 1) false) = true then (if l.getD (i + 1) false = true then 4 else 3)
  else if l.getD (i + 1) false = true then 1 else 0
theorem at_tells (l : List Bool) (i : Int) : block_at.f l i = some (decide (0 ≤ i) && l.getD i.toNat false) := by
  unfold block_at.f rdOf
  by_cases h0 : 0 ≤ i
  · rw [if_pos h0]
    by_cases h1 : i < (l.length : Int)
    · rw [if_pos h1, if_pos h0]; simp [h0]
    · rw [if_neg h1]
      have : l.getD i.toNat false = false := by rw [List.getD_eq_getElem?_getD, List.getElem?_eq_none (by omega)]; rfl
      rw [this]; simp
  · rw [if_neg h0]; simp [h0]
theorem kind_tells (l : List Bool) (i : Nat) (h : i < l.length) (hl : l.length ≤ 140737488351232) : block_kind.f 1 l (i : Int) = some (kindB l i) := by
  have e1 : wrap64 ((i : Int) + 1) = ((i + 1 : Nat) : Int) := by unfold wrap64; omega
  have e2 : wrap64 ((i : Int) - 1) = (i : Int) - 1 := by unfold wrap64; omega
  unfold block_kind.f
  rw [at_tells, at_tells, e1, e2]
  simp only [Option.bind_some]
  rw [if_pos (show (0 : Int) ≤ (i : Int) by omega), if_pos (show (i : Int) < (l.length : Int) by omega)]
  have e3 : (decide ((0 : Int) ≤ (i : Int) - 1) && l.getD ((i : Int) - 1).toNat false) = (decide (0 < i) && l.getD (i - 1) false) := by
    have : (decide ((0 : Int) ≤ (i : Int) - 1)) = decide (0 < i) := by rw [decide_eq_decide]; omega
    rw [this]; congr 2; omega
  have e4 : (decide ((0 : Int) ≤ ((i + 1 : Nat) : Int)) && l.getD (((i + 1 : Nat) : Int)).toNat false) = l.getD (i + 1) false := by
    rw [decide_eq_true (by omega), Int.toNat_natCast]; rfl
  rw [e3, e4]
  have e5 : rdOf false l (i : Int) = l.getD i false := by unfold rdOf; simp
  rw [e5]
  unfold kindB
  generalize l.getD i false = a
  generalize (decide (0 < i) && l.getD (i - 1) false) = b
  generalize l.getD (i + 1) false = c
  cases a <;> cases b <;> cases c <;> rfl
set_option maxHeartbeats 2000000 in
theorem kinds1_calls (A : Option Addr) (c b : Nat) (l : List Bool) (i : Nat) (w : World) (hr : Kd.C Kd.bool w A l.length l) (hc : l.length ≤ c) (hb : w.cell? ⟨b, 0, none⟩ = some (.slice A l.length c)) (hi : i < l.length) (hl : l.length ≤ 140737488351232) :
    Calls Try.prog 57 #[.int .i64 (i : Int), .pointer (some ⟨b, 0, none⟩)] w fun e w' => e = .returned (.int .i64 (kindB l i)) ∧ Drawn0 w w' := by
  have HR := Aside0.mk hr
  have HC := Aside0.mk hc
  have HI := Aside0.mk hi
  have HL := Aside0.mk hl
  clear hr hc hi hl
  go_enter Try.func57, Try.ntmps57
  go_wp2_with (go_at_call 48; refine (block_kind.calls 1 A c l (i : Int) _ _ HR.out HC.out (kind_tells l i HI.out HL.out)).mono ?_; rintro e w' ⟨rfl, hd⟩)
  go_ret
  exact ⟨rfl, hd⟩
set_option maxHeartbeats 4000000 in
set_option maxRecDepth 100000 in
theorem kinds_each (A : Option Addr) (c b : Nat) (l : List Bool) (w : World) (hr : Kd.C Kd.bool w A l.length l) (hc : l.length ≤ c) (hb : w.cell? ⟨b, 0, none⟩ = some (.slice A l.length c)) (hl : l.length ≤ 64) :
    Calls Try.prog 56 #[.slice A l.length c, .func (.func 57) #[] #[.pointer (some ⟨b, 0, none⟩)]] w fun e w' =>
      ∃ v0_ : Value, e = .returned v0_ ∧ Kd.R (Kd.int .i64) 3 w' w.heap.size (fun _ => True) v0_ ((List.range l.length).map (kindB l)) ∧ Below w.heap.size w w' := by
  have HR := Aside0.mk hr
  have HC := Aside0.mk hc
  have HL := Aside0.mk hl
  have HC0 := Aside0.mk hb
  have hbl := World.block_lt_of_cell? w _ hb
  simp only at hbl
  have HBL := Aside0.mk hbl
  clear hr hc hb hbl
  go_enter Try.func56, Try.ntmps56
  go_wp2
  go_loopw [5, 9] (fun v x wr => ∃ k : Nat, x = .int .i64 k ∧ Aside0 (k ≤ l.length) ∧ Aside0 (Kd.R (Kd.int .i64) 3 wr w.heap.size (fun _ => True) v ((List.range k).map (kindB l))) ∧ Aside0 (Below w.heap.size w wr)) (fun _ x _ => l.length - (intOf x).toNat)
  case atStart => exact ⟨0, rfl, ⟨Nat.zero_le _⟩, ⟨Kd.R_nil _ _ _ _ _⟩, ⟨Below.refl _ _⟩⟩
  case round =>
    obtain ⟨k, rfl, HK, HO, HB⟩ := hrel
    by_cases hlt : k < l.length
    · have HLT := Aside0.mk hlt
      have hd0 : decide (k < l.length) = true := decide_eq_true hlt
      have hk64 : k < 64 := by omega
      clear hlt
      have hcell := (HB.out.cell (p := ⟨b, 0, none⟩) HBL.out).trans HC0.out
      have HCELL := Aside0.mk hcell
      clear hcell
      go_wp2_with (first | (go_at_call 57; refine (kinds1_calls A c b l k _ (Kd.C_below HR.out (by first | exact HB.out | exact HB.out.drew)) HC.out HCELL.out HLT.out (by have := HL.out; omega)).mono ?_; rintro e w1 ⟨rfl, ⟨nd, rfl⟩⟩) | ((with_reducible refine gate_builtin (b := .append) (xs := #[.tmp 12, .tmp 16]) rfl ?_); at_builtin; refine Kd.R_append (Kd.int .i64) (w0 := w) w.heap.size rfl (.tmp 12) (.tmp 16) 22 3 (.int .i64 0) 8 rfl Try.underlying22 info3 rfl (by decide) (by omega) _ ((List.range k).map (kindB l)) (kindB l k) [.int .i64 (kindB l k)] (fun _ => True) (fun _ => False) rfl rfl ?aP (fun _ hk => hk.elim) (fun _ _ => trivial) ?aO ?aB ?aS ?aL ?_; (case aP => exact rfl); (case aO => exact HO.out); (case aB => exact pw_below_drewN HB.out _); (case aS => exact HB.out.size); (case aL => have h1 := HK.out; have h2 := HL.out; rw [List.length_map, List.length_range]; omega); intro v1 w1 ho hb1 hg hat; have HO1 := Aside0.mk ho; have HB1 := Aside0.mk hb1; clear ho hb1 hg hat))
      go_roundw
      case rel => exact ⟨k + 1, by go_num, ⟨HLT.out⟩, ⟨by rw [List.range_succ, List.map_append]; exact HO1.out⟩, HB1⟩
      case measure => have := HLT.out; simp [intOf]; omega
    · have hd0 : decide (k < l.length) = false := decide_eq_false hlt
      obtain rfl : k = l.length := by have := HK.out; omega
      clear hlt
      go_wp2
      go_ret
      exact ⟨_, rfl, HO.out, HB.out⟩
def block_Kinds.f (l0 : List Bool) : Option (List Int × Int) := if 64 < l0.length then some ([], 2) else some ((List.range l0.length).map (kindB l0), 0)
set_option maxHeartbeats 4000000 in
theorem block_Kinds.calls (A0 : Option Addr) (c0 : Nat) (l0 : List Bool) (r1 : List Int) (r2 : Int) (w : World) (hr0 : Kd.C Kd.bool w A0 l0.length l0) (hc0 : l0.length ≤ c0) (h : block_Kinds.f l0 = some (r1, r2)) :
    Calls Try.prog 34 #[.slice A0 l0.length c0] w fun e w' => ∃ v0_ : Value, e = .returned (.tuple #[v0_, .int .i64 r2]) ∧ Kd.R (Kd.int .i64) 3 w' w.heap.size (fun _ => True) v0_ r1 ∧ Below w.heap.size w w' := by
  have HR := Aside0.mk hr0
  have HC := Aside0.mk hc0
  clear hr0 hc0
  unfold block_Kinds.f at h
  by_cases hl : 64 < l0.length
  · rw [if_pos hl] at h
    simp only [Option.some.injEq, Prod.mk.injEq] at h
    obtain ⟨rfl, rfl⟩ := h
    have hd0 : decide (64 < l0.length) = true := decide_eq_true hl
    have hd1 : decide ((64 : Int) < (l0.length : Int)) = true := decide_eq_true (by omega)
    clear hl
    go_enter Try.func34, Try.ntmps34
    go_wp2
    go_ret2
    exact ⟨_, rfl, Kd.R_nil _ _ _ _ _, below_alloc (Below.refl _ _) _⟩
  · rw [if_neg hl] at h
    simp only [Option.some.injEq, Prod.mk.injEq] at h
    obtain ⟨rfl, rfl⟩ := h
    have hd0 : decide (64 < l0.length) = false := decide_eq_false hl
    have hd1 : decide ((64 : Int) < (l0.length : Int)) = false := decide_eq_false (by omega)
    have HL := Aside0.mk (show l0.length ≤ 64 by omega)
    clear hl
    go_enter Try.func34, Try.ntmps34
    go_wp2_with (go_at_call 56; refine (kinds_each A0 c0 w.heap.size l0 _ (Kd.C_below HR.out (below_alloc (Below.refl _ _) _)) HC.out (by simp) HL.out).mono ?_; rintro e w1 ⟨v0, rfl, ho, hb⟩; have HO := Aside0.mk ho; have HB := Aside0.mk hb; clear ho hb)
    go_ret2
    exact ⟨_, rfl, Kd.R_lower HO.out (by simp), (below_alloc (Below.refl _ _) _).trans (HB.out.mono (by simp))⟩

/-! ### shawmlaw09_awake: function 12 (by hand) -/
/-! The chapter's examples hold: one way, each call by its contract, at rows that are known. -/
section
variable {w : World} {A A' : Option Addr} {n m c c' : Nat}
theorem parts_at {l r : List Int} {e : Int} (hl : l.length = n) (hr : Kd.C (Kd.int .i64) w A n l) (hc : n ≤ c) (h : block_Parts.f l = some (r, e)) :
    Calls Try.prog 16 #[.slice A n c] w fun x w' => ∃ v : Value, x = .returned (.tuple #[v, .int .i64 e]) ∧ Kd.R (Kd.int .i64) 3 w' w.heap.size (fun _ => True) v r ∧ Below w.heap.size w w' := by
  subst hl; exact block_Parts.calls A c l r e w hr hc h
theorem flags_at {l : List Int} {r : List Bool} {e : Int} (k : Nat) (hl : l.length = n) (hr : Kd.C (Kd.int .i64) w A n l) (hc : n ≤ c) (h : block_Flags.f k l = some (r, e)) :
    Calls Try.prog 20 #[.slice A n c] w fun x w' => ∃ v : Value, x = .returned (.tuple #[v, .int .i64 e]) ∧ Kd.R Kd.bool 4 w' w.heap.size (fun _ => True) v r ∧ Below w.heap.size w w' := by
  subst hl; exact block_Flags.calls k A c l r e w hr hc h
theorem kinds_at {l : List Bool} {r : List Int} {e : Int} (hl : l.length = n) (hr : Kd.C Kd.bool w A n l) (hc : n ≤ c) (h : block_Kinds.f l = some (r, e)) :
    Calls Try.prog 34 #[.slice A n c] w fun x w' => ∃ v : Value, x = .returned (.tuple #[v, .int .i64 e]) ∧ Kd.R (Kd.int .i64) 3 w' w.heap.size (fun _ => True) v r ∧ Below w.heap.size w w' := by
  subst hl; exact block_Kinds.calls A c l r e w hr hc h
theorem groups_at {l r : List Int} {e : Int} (k : Nat) (hl : l.length = n) (hr : Kd.C (Kd.int .i64) w A n l) (hc : n ≤ c) (h : block_Groups.f k l = some (r, e)) :
    Calls Try.prog 13 #[.slice A n c] w fun x w' => ∃ v : Value, x = .returned (.tuple #[v, .int .i64 e]) ∧ Kd.R (Kd.int .i64) 3 w' w.heap.size (fun _ => True) v r ∧ Below w.heap.size w w' := by
  subst hl; exact block_Groups.calls k A c l r e w hr hc h
theorem exact_at {l : List Bool} {a b r1 r2 r3 : Int} (k : Nat) (hl : l.length = n) (hr : Kd.C Kd.bool w A n l) (hc : n ≤ c) (h : block_Exact.f k l a b = some (r1, r2, r3)) :
    Calls Try.prog 28 #[.slice A n c, .int .i64 a, .int .i64 b] w fun e w' => e = .returned (.tuple #[.int .i64 r1, .int .i64 r2, .int .i64 r3]) ∧ Drawn0 w w' := by
  subst hl; exact block_Exact.calls k A c l a b r1 r2 r3 w hr hc h
theorem ints_at {l l' : List Int} {r : Bool} (k : Nat) (hl : l.length = n) (hr : Kd.C (Kd.int .i64) w A n l) (hc : n ≤ c) (hl' : l'.length = m) (hr' : Kd.C (Kd.int .i64) w A' m l') (hc' : m ≤ c') (h : shawmref02_Ints.f k l l' = some r) :
    Calls Try.prog 15 #[.slice A n c, .slice A' m c'] w fun e w' => e = .returned (.bool r) ∧ Drawn0 w w' := by
  subst hl hl'; exact shawmref02_Ints.calls k A c l A' c' l' r w hr hc hr' hc' h
theorem bools_at {l l' : List Bool} {r : Bool} (k : Nat) (hl : l.length = n) (hr : Kd.C Kd.bool w A n l) (hc : n ≤ c) (hl' : l'.length = m) (hr' : Kd.C Kd.bool w A' m l') (hc' : m ≤ c') (h : shawmref09_Bools.f k l l' = some r) :
    Calls Try.prog 22 #[.slice A n c, .slice A' m c'] w fun e w' => e = .returned (.bool r) ∧ Drawn0 w w' := by
  subst hl hl'; exact shawmref09_Bools.calls k A c l A' c' l' r w hr hc hr' hc' h
/-- What a row of the call's own reads as, its length told. -/
theorem R_told {α : Type} {d : Kd α} {e : Nat} {W : World} {base : Nat} {ok : Nat → Prop} {v : Value} {xs : List α} (h : Kd.R d e W base ok v xs) (hn : xs.length = n) : ∃ A c, v = .slice A n c ∧ n ≤ c ∧ Kd.C d W A n xs := by
  subst hn; exact Kd.R_reads h
end
/-- A literal's row, read where it has just been made. -/
theorem lit_reads {α : Type} {enc : α → Value} (h1 : ∀ x, (enc x).oneCell' = true) (W : World) (e : TypeId) (xs : List α) (hm : xs.length ≤ 9223372036854775807) : Kd.C (Kd.scalar enc h1) (W.alloc (.cells (xs.map enc).toArray e)) (some ⟨W.heap.size, 0, none⟩) xs.length xs := by
  refine ⟨rfl, hm, fun _ => ⟨_, rfl, fun j p hj => ⟨[enc p], rfl, rfl, fun i u hu => ?_⟩⟩⟩
  cases i with
  | zero =>
    have : enc p = u := by simpa using hu
    subst this
    have hb : Whole (W.alloc (.cells (xs.map enc).toArray e)) W.heap.size e (xs.map enc).toArray := World.alloc_heap_new W _
    have ea : (⟨W.heap.size, 0, none⟩ : Addr).add (j * (Kd.scalar enc h1).sz + 0) = ⟨W.heap.size, j, none⟩ := by
      simp only [Kd.scalar, Nat.mul_one, Nat.add_zero]
      by_cases hj0 : j = 0
      · subst hj0; simp [Addr.add]
      · simp [Addr.add, hj0]
    rw [ea, hb.cell]
    simp [hj]
  | succ i => simp at hu
theorem lit_reads' {α : Type} {enc : α → Value} (h1 : ∀ x, (enc x).oneCell' = true) {W : World} {B : Nat} (hB : B = W.heap.size) (e : TypeId) (xs : List α) (hm : xs.length ≤ 9223372036854775807) : Kd.C (Kd.scalar enc h1) (W.alloc (.cells (xs.map enc).toArray e)) (some ⟨B, 0, none⟩) xs.length xs := by
  subst hB; exact lit_reads h1 W e xs hm
def exX : List Int := (List.replicate 256 0).set 128 1000
theorem ex_parts : ∃ P, block_Parts.f exX = some (P, 0) ∧ P.length = 16 ∧ rd P 8 = 2000000 := ⟨ensOf exX (List.range 16), by decide +kernel, by decide +kernel, by decide +kernel⟩
theorem ex_flags : block_Flags.f 300 exX = some ([false, true], 0) := by decide +kernel
theorem ex_kinds : block_Kinds.f [false, true] = some ([1, 2], 0) := by decide +kernel
theorem ex_exact1 : block_Exact.f 4 (List.replicate 3 false) 1 2 = some (128, 128, 0) := by decide +kernel
theorem ex_exact2 : block_Exact.f 4 (List.replicate 3 false) 1 3 = some (192, 384, 0) := by decide +kernel
theorem ex_groups : block_Groups.f 30 (List.replicate 8 0) = some ([8], 0) := by decide +kernel
theorem ex_bools : shawmref09_Bools.f 9 [false, true] [false, true] = some true := by decide +kernel
theorem ex_ints1 : shawmref02_Ints.f 9 [1, 2] [1, 2] = some true := by decide +kernel
theorem ex_ints2 : shawmref02_Ints.f 9 [8] [8] = some true := by decide +kernel
def shawmlaw09_awake.f : Option Bool := some true
set_option maxHeartbeats 8000000 in
set_option maxRecDepth 100000 in
theorem shawmlaw09_awake.calls (r : Bool) (w : World) (h : shawmlaw09_awake.f = some r) :
    Calls Try.prog 12 #[] w fun e w' => e = .returned (.bool r) ∧ Below w.heap.size w w' := by
  obtain rfl : true = r := by injection h
  clear h
  obtain ⟨P, hp1, hp2, hp3⟩ := ex_parts
  have HP1 := Aside0.mk hp1
  have HP2 := Aside0.mk hp2
  have HP3 := Aside0.mk hp3
  clear hp1 hp2 hp3
  obtain ⟨X, hX⟩ : ∃ X, X = exX := ⟨_, rfl⟩
  have HX := Aside0.mk hX
  rw [← hX] at HP1
  have HXL := Aside0.mk (show X.length = 256 by rw [hX]; decide +kernel)
  clear hX
  go_enter Try.func12, Try.ntmps12
  go_wp2_with (first
    | ((with_reducible refine gate_dst (N := 16) rfl ?_); refine Kd.R_make (Kd.int .i64) (w0 := w) w.heap.size 3 rfl (N := 16) rfl 22 _ _ rfl 256 rfl rfl Try.underlying22 (.int .i64 0) 8 info3 rfl (by decide) (by omega) 0 (ok := fun _ => True) (okp := fun _ => True) rfl (fun _ hk => hk) trivial (by omega) (by omega) (Below.refl _ _) (Nat.le_refl _) ?_; intro v1 w1 ho hb _ _; simp only [Int.reduceToNat] at ho; have HB1 := Aside0.mk hb; clear hb; obtain ⟨g, cap, ev, hg1, hg2, _⟩ := Kd.R_form ho (by simp); rw [List.length_replicate] at ev; subst ev; obtain ⟨hx, hf⟩ := Kd.R_celln (0 : Int) ho (128 : Int) (by omega) (by omega); have hput := (Kd.R_putg ho (128 : Int) 1000).1; rw [show ((128 : Int)).toNat = 128 from rfl] at hx hf hput; have HCX := Aside0.mk (Kd.R_reads' hput); have HB2 := Aside0.mk (below_set (j := 128) (v := .int .i64 1000) HB1.out hg1); clear ho hg1 hg2 hput)
    | (go_at_call 16; refine (parts_at (n := 256) HXL.out (by rw [HX.out]; exact HCX.out.2.2) HCX.out.2.1 HP1.out).mono ?_; rintro e w2 ⟨v2, rfl, ho, hb⟩; obtain ⟨A2, c2, rfl, hc2, hr2⟩ := R_told ho HP2.out; have HR2 := Aside0.mk hr2; have HC2 := Aside0.mk hc2; have HB3 := Aside0.mk (below_step HB2.out hb); have HX2 := Aside0.mk (Kd.C_below HCX.out.2.2 hb); clear ho hb hc2 hr2)
    | (go_at_call 20; refine (flags_at (n := 256) 300 (by decide +kernel) HX2.out HCX.out.2.1 ex_flags).mono ?_; rintro e w3 ⟨v3, rfl, ho, hb⟩; obtain ⟨A3, c3, rfl, hc3, hr3⟩ := R_told (n := 2) ho rfl; have HR3 := Aside0.mk hr3; have HC3 := Aside0.mk hc3; have HB4 := Aside0.mk (below_step HB3.out hb); have HR23 := Aside0.mk (Kd.C_below HR2.out hb); clear ho hb hc3 hr3)
    | (go_at_call 34; refine (kinds_at (n := 2) rfl HR3.out HC3.out ex_kinds).mono ?_; rintro e w4 ⟨v4, rfl, ho, hb⟩; obtain ⟨A4, c4, rfl, hc4, hr4⟩ := R_told (n := 2) ho rfl; have HR4 := Aside0.mk hr4; have HC4 := Aside0.mk hc4; have HB5 := Aside0.mk (below_step HB4.out hb); have HR24 := Aside0.mk (Kd.C_below HR23.out hb); have HR34 := Aside0.mk (Kd.C_below HR3.out hb); clear ho hb hc4 hr4)
    | ((with_reducible refine gate_dst (N := 35) rfl ?_); refine Kd.R_make Kd.bool (w0 := w4) w4.heap.size 4 rfl (N := 35) rfl 29 _ _ rfl 3 rfl rfl Try.underlying29 (.bool false) 1 info4 rfl (by decide) (by omega) false (ok := fun _ => True) (okp := fun _ => True) rfl (fun _ hk => hk) trivial (by omega) (by omega) (Below.refl _ _) (Nat.le_refl _) ?_; intro v5 w5 ho hb _ _; simp only [Int.reduceToNat] at ho; obtain ⟨A5, c5, rfl, hc, hr⟩ := R_told (n := 3) ho (by simp); have HR5 := Aside0.mk hr; have HC5 := Aside0.mk hc; have HB6 := Aside0.mk (below_step HB5.out hb); have HR25 := Aside0.mk (Kd.C_below HR24.out hb); have HR35 := Aside0.mk (Kd.C_below HR34.out hb); have HR45 := Aside0.mk (Kd.C_below HR4.out hb); clear ho hb hc hr)
    | (go_at_call 28; have tok1 := HR5; refine (exact_at (n := 3) 4 (by simp) HR5.out HC5.out ex_exact1).mono ?_; rintro e w' ⟨rfl, ⟨nd1, rfl⟩⟩; clear tok1 HR5)
    | ((with_reducible refine gate_dst (N := 41) rfl ?_); refine Kd.R_make Kd.bool (w0 := w5.drewN nd1) (w5.drewN nd1).heap.size 4 rfl (N := 41) rfl 29 _ _ rfl 3 rfl rfl Try.underlying29 (.bool false) 1 info4 rfl (by decide) (by omega) false (ok := fun _ => True) (okp := fun _ => True) rfl (fun _ hk => hk) trivial (by omega) (by omega) (Below.refl _ _) (Nat.le_refl _) ?_; intro v6 w6 ho hb _ _; simp only [Int.reduceToNat] at ho; obtain ⟨A6, c6, rfl, hc, hr⟩ := R_told (n := 3) ho (by simp); have HR6 := Aside0.mk hr; have HC6 := Aside0.mk hc; have HB7 := Aside0.mk (below_step (pw_below_drewN HB6.out nd1) hb); have HR26 := Aside0.mk (Kd.C_below (Kd.C_drewN HR25.out nd1) hb); have HR36 := Aside0.mk (Kd.C_below (Kd.C_drewN HR35.out nd1) hb); have HR46 := Aside0.mk (Kd.C_below (Kd.C_drewN HR45.out nd1) hb); clear ho hb hc hr)
    | (go_at_call 28; refine (exact_at (n := 3) 4 (by simp) HR6.out HC6.out ex_exact2).mono ?_; rintro e w' ⟨rfl, ⟨nd2, rfl⟩⟩)
    | ((with_reducible refine gate_dst (N := 47) rfl ?_); refine Kd.R_make (Kd.int .i64) (w0 := w6.drewN nd2) (w6.drewN nd2).heap.size 3 rfl (N := 47) rfl 22 _ _ rfl 8 rfl rfl Try.underlying22 (.int .i64 0) 8 info3 rfl (by decide) (by omega) 0 (ok := fun _ => True) (okp := fun _ => True) rfl (fun _ hk => hk) trivial (by omega) (by omega) (Below.refl _ _) (Nat.le_refl _) ?_; intro v7 w7 ho hb _ _; simp only [Int.reduceToNat] at ho; obtain ⟨A7, c7, rfl, hc, hr⟩ := R_told (n := 8) ho (by simp); have HR7 := Aside0.mk hr; have HC7 := Aside0.mk hc; have HB8 := Aside0.mk (below_step (pw_below_drewN HB7.out nd2) hb); have HR27 := Aside0.mk (Kd.C_below (Kd.C_drewN HR26.out nd2) hb); have HR37 := Aside0.mk (Kd.C_below (Kd.C_drewN HR36.out nd2) hb); have HR47 := Aside0.mk (Kd.C_below (Kd.C_drewN HR46.out nd2) hb); clear ho hb hc hr)
    | (go_at_call 13; refine (groups_at (n := 8) 30 (by simp) HR7.out HC7.out ex_groups).mono ?_; rintro e w8 ⟨v8, rfl, ho, hb⟩; obtain ⟨A8, c8, rfl, hc, hr⟩ := R_told (n := 1) ho rfl; have HR8 := Aside0.mk hr; have HC8 := Aside0.mk hc; have HB9 := Aside0.mk (below_step HB8.out hb); have hr28 := Kd.C_below HR27.out hb; have HR38 := Aside0.mk (Kd.C_below HR37.out hb); have HR48 := Aside0.mk (Kd.C_below HR47.out hb); obtain ⟨ad8, ea8, hcell8⟩ := Kd.at_int hr28 (8 : Int) (by omega) (by omega); subst ea8; rw [show ((8 : Int)).toNat = 8 from rfl, HP3.out] at hcell8; simp only [Nat.reduceEqDiff, Go.Addr.add, ↓reduceIte] at hcell8; clear ho hb hc hr hr28)
    | (go_at_call 22; refine (bools_at (n := 2) (m := 2) (l := [false, true]) (l' := [false, true]) (A := A3) (c := c3) 9 rfl (by (with_reducible repeat (first | apply Kd.C_alloc | apply Kd.C_drewN | apply Kd.C_drew)); exact HR38.out) HC3.out rfl (by (with_reducible repeat (first | apply Kd.C_drewN | apply Kd.C_drew)); exact lit_reads' (enc := Value.bool) (fun _ => rfl) (by simp) 4 [false, true] (by simp)) (Nat.le_refl _) ex_bools).mono ?_; rintro e w' ⟨rfl, ⟨nd3, rfl⟩⟩)
    | (go_at_call 15; have tok2 := HR48; refine (ints_at (n := 2) (m := 2) (l := [1, 2]) (l' := [1, 2]) (A := A4) (c := c4) 9 rfl (by (with_reducible repeat (first | apply Kd.C_alloc | apply Kd.C_drewN | apply Kd.C_drew)); exact HR48.out) HC4.out rfl (by (with_reducible repeat (first | apply Kd.C_drewN | apply Kd.C_drew)); exact lit_reads' (enc := (Value.int .i64)) (fun _ => rfl) (by simp) 3 [1, 2] (by simp)) (Nat.le_refl _) ex_ints1).mono ?_; rintro e w' ⟨rfl, ⟨nd4, rfl⟩⟩; clear tok2 HR48)
    | (go_at_call 15; refine (ints_at (n := 1) (m := 1) (l := [8]) (l' := [8]) (A := A8) (c := c8) 9 rfl (by (with_reducible repeat (first | apply Kd.C_alloc | apply Kd.C_drewN | apply Kd.C_drew)); exact HR8.out) HC8.out rfl (by (with_reducible repeat (first | apply Kd.C_drewN | apply Kd.C_drew)); exact lit_reads' (enc := (Value.int .i64)) (fun _ => rfl) (by simp) 3 [8] (by simp)) (Nat.le_refl _) ex_ints2).mono ?_; rintro e w' ⟨rfl, ⟨nd5, rfl⟩⟩))
  go_ret
  exact ⟨rfl, by repeat (first | exact HB9.out | apply below_alloc | apply pw_below_drewN | apply below_drew1)⟩

end Go.Proofs.Ytooipbjdpajmmaa.Hl
