/- Functions of the Go program as Lean functions, each with a proof that the call computes it. Conditions: none beyond each theorem's own. -/
import Derived.Test.YtooipbjdpajmmaaHlx0
import Derived.Test.YtooipbjdpajmmaaHlx6
namespace Go.Proofs.Ytooipbjdpajmmaa.Hl
open Go.RowKit Go.Proofs.YtooipbjdpajmmaaW.PrintWords Go.Proofs.YtooipbjdpajmmaaW.PrintLast Go.Proofs.YtooipbjdpajmmaaW.PrintMore
attribute [local go_sem] max2_int min2_int max_two min_two max_three min_three max_four min_four   -- for this text's walks alone
set_option linter.unusedVariables false
set_option linter.unusedSimpArgs false

/-! ### block_Frames: function 26 -/
def block_Frames.f (k : Nat) (l0 : List Bool) (a1 : Int) : Option (Int × Int × Int) := if (l0.length : Int) > 64 then (some (0, 0, 2)) else (if a1 < 0 then (some (0, 0, 6)) else (if a1 ≥ (wrap64 ((l0.length : Int) * 128)) then (some (0, 0, 6)) else ((block_lap.f k l0 (wrap64 (Int.tdiv a1 128))).bind fun t134 => (if (Int.tmod a1 128) < (wrap64 (Int.tdiv t134 2)) then ((block_lap.f k l0 (wrap64 ((wrap64 (Int.tdiv a1 128)) + 1))).bind fun t135 => (if (Int.tmod a1 128) ≥ (wrap64 (128 - (wrap64 (Int.tdiv t135 2)))) then (some (wrap64 ((wrap64 (Int.tdiv a1 128)) - 1), wrap64 ((wrap64 (Int.tdiv a1 128)) + 1), 0)) else (some (wrap64 ((wrap64 (Int.tdiv a1 128)) - 1), wrap64 (Int.tdiv a1 128), 0)))) else ((block_lap.f k l0 (wrap64 ((wrap64 (Int.tdiv a1 128)) + 1))).bind fun t136 => (if (Int.tmod a1 128) ≥ (wrap64 (128 - (wrap64 (Int.tdiv t136 2)))) then (some (wrap64 (Int.tdiv a1 128), wrap64 ((wrap64 (Int.tdiv a1 128)) + 1), 0)) else (some (wrap64 (Int.tdiv a1 128), wrap64 (Int.tdiv a1 128), 0))))))))
theorem block_Frames.mono : ∀ a0 a1 k, LeO (block_Frames.f k a0 a1) (block_Frames.f (k + 1) a0 a1) := by
  intro a0 a1 k
  unfold block_Frames.f
  repeat' first
      | (with_reducible exact block_lap.mono _ _ _)
      | (with_reducible exact LeO.refl _)
      | (with_reducible exact LeO.none _)
      | (with_reducible refine LeO.ite ?_ ?_)
      | (with_reducible refine LeO.bind ?_ (fun _ => ?_))
      | exact block_lap.mono _ _ _
      | exact LeO.none _
      | refine LeO.ite ?_ ?_
      | refine LeO.bind ?_ (fun _ => ?_)
set_option maxHeartbeats 8000000 in
set_option maxRecDepth 100000 in
theorem block_Frames.calls (k : Nat) (A0 : Option Addr) (c0 : Nat) (l0 : List Bool) (a1 : Int) (r1 : Int) (r2 : Int) (r3 : Int) (w : World) (hr0 : Kd.C Kd.bool w A0 l0.length l0) (hc0 : l0.length ≤ c0) (h : block_Frames.f k l0 a1 = some (r1, r2, r3)) :
    Calls Try.prog 26 #[.slice A0 l0.length c0, .int .i64 a1] w fun e w' => e = .returned (.tuple #[.int .i64 r1, .int .i64 r2, .int .i64 r3]) ∧ Drawn0 w w' := by
  have HR0 := Aside0.mk hr0
  have HC0 := Aside0.mk hc0
  clear hr0 hc0
  have H : (if (l0.length : Int) > 64 then (some (0, 0, 2)) else (if a1 < 0 then (some (0, 0, 6)) else (if a1 ≥ (wrap64 ((l0.length : Int) * 128)) then (some (0, 0, 6)) else ((block_lap.f k l0 (wrap64 (Int.tdiv a1 128))).bind fun t134 => (if (Int.tmod a1 128) < (wrap64 (Int.tdiv t134 2)) then ((block_lap.f k l0 (wrap64 ((wrap64 (Int.tdiv a1 128)) + 1))).bind fun t135 => (if (Int.tmod a1 128) ≥ (wrap64 (128 - (wrap64 (Int.tdiv t135 2)))) then (some (wrap64 ((wrap64 (Int.tdiv a1 128)) - 1), wrap64 ((wrap64 (Int.tdiv a1 128)) + 1), 0)) else (some (wrap64 ((wrap64 (Int.tdiv a1 128)) - 1), wrap64 (Int.tdiv a1 128), 0)))) else ((block_lap.f k l0 (wrap64 ((wrap64 (Int.tdiv a1 128)) + 1))).bind fun t136 => (if (Int.tmod a1 128) ≥ (wrap64 (128 - (wrap64 (Int.tdiv t136 2)))) then (some (wrap64 (Int.tdiv a1 128), wrap64 ((wrap64 (Int.tdiv a1 128)) + 1), 0)) else (some (wrap64 (Int.tdiv a1 128), wrap64 (Int.tdiv a1 128), 0))))))))) = some (r1, r2, r3) := h
  clear h
  by_cases c3 : (l0.length : Int) > 64
  · rw [if_pos c3] at H
    have c3b0 : decide (64 < (l0.length : Int)) = true := decide_eq_true c3
    have c3b1 : decide (64 < l0.length) = true := decide_eq_true (by omega)
    clear c3
    simp only [Option.some.injEq, Prod.mk.injEq] at H
    obtain ⟨rfl, rfl, rfl⟩ := H
    go_enter Try.func26, Try.ntmps26
    go_wp2
    go_ret3
    exact ⟨by first | rfl | (simp; done) | (simp [*]; done), by repeat (first | exact Drawn0.refl _ | apply Drawn0.step)⟩
  · rw [if_neg c3] at H
    have c3b0 : decide (64 < (l0.length : Int)) = false := decide_eq_false c3
    have c3b1 : decide (64 < l0.length) = false := decide_eq_false (by omega)
    clear c3
    by_cases c4 : a1 < 0
    · rw [if_pos c4] at H
      have c4b0 : decide (a1 < 0) = true := decide_eq_true c4
      clear c4
      simp only [Option.some.injEq, Prod.mk.injEq] at H
      obtain ⟨rfl, rfl, rfl⟩ := H
      go_enter Try.func26, Try.ntmps26
      go_wp2
      go_ret3
      exact ⟨by first | rfl | (simp; done) | (simp [*]; done), by repeat (first | exact Drawn0.refl _ | apply Drawn0.step)⟩
    · rw [if_neg c4] at H
      have c4b0 : decide (a1 < 0) = false := decide_eq_false c4
      clear c4
      by_cases c5 : a1 ≥ (wrap64 ((l0.length : Int) * 128))
      · rw [if_pos c5] at H
        have c5b0 : decide ((wrap64 ((l0.length : Int) * 128)) ≤ a1) = true := decide_eq_true c5
        clear c5
        simp only [Option.some.injEq, Prod.mk.injEq] at H
        obtain ⟨rfl, rfl, rfl⟩ := H
        go_enter Try.func26, Try.ntmps26
        go_wp2
        go_ret3
        exact ⟨by first | rfl | (simp; done) | (simp [*]; done), by repeat (first | exact Drawn0.refl _ | apply Drawn0.step)⟩
      · rw [if_neg c5] at H
        have c5b0 : decide ((wrap64 ((l0.length : Int) * 128)) ≤ a1) = false := decide_eq_false c5
        clear c5
        replace H := Option.bind_eq_some_iff.mp H
        obtain ⟨t134, A60, H⟩ := H
        replace H : (if (Int.tmod a1 128) < (wrap64 (Int.tdiv t134 2)) then ((block_lap.f k l0 (wrap64 ((wrap64 (Int.tdiv a1 128)) + 1))).bind fun t135 => (if (Int.tmod a1 128) ≥ (wrap64 (128 - (wrap64 (Int.tdiv t135 2)))) then (some (wrap64 ((wrap64 (Int.tdiv a1 128)) - 1), wrap64 ((wrap64 (Int.tdiv a1 128)) + 1), 0)) else (some (wrap64 ((wrap64 (Int.tdiv a1 128)) - 1), wrap64 (Int.tdiv a1 128), 0)))) else ((block_lap.f k l0 (wrap64 ((wrap64 (Int.tdiv a1 128)) + 1))).bind fun t136 => (if (Int.tmod a1 128) ≥ (wrap64 (128 - (wrap64 (Int.tdiv t136 2)))) then (some (wrap64 (Int.tdiv a1 128), wrap64 ((wrap64 (Int.tdiv a1 128)) + 1), 0)) else (some (wrap64 (Int.tdiv a1 128), wrap64 (Int.tdiv a1 128), 0))))) = some (r1, r2, r3) := H
        have A6 := Aside0.mk A60
        clear A60
        by_cases c7 : (Int.tmod a1 128) < (wrap64 (Int.tdiv t134 2))
        · rw [if_pos c7] at H
          have c7b0 : decide ((Int.tmod a1 128) < (wrap64 (Int.tdiv t134 2))) = true := decide_eq_true c7
          clear c7
          replace H := Option.bind_eq_some_iff.mp H
          obtain ⟨t135, A80, H⟩ := H
          replace H : (if (Int.tmod a1 128) ≥ (wrap64 (128 - (wrap64 (Int.tdiv t135 2)))) then (some (wrap64 ((wrap64 (Int.tdiv a1 128)) - 1), wrap64 ((wrap64 (Int.tdiv a1 128)) + 1), 0)) else (some (wrap64 ((wrap64 (Int.tdiv a1 128)) - 1), wrap64 (Int.tdiv a1 128), 0))) = some (r1, r2, r3) := H
          have A8 := Aside0.mk A80
          clear A80
          by_cases c9 : (Int.tmod a1 128) ≥ (wrap64 (128 - (wrap64 (Int.tdiv t135 2))))
          · rw [if_pos c9] at H
            have c9b0 : decide ((wrap64 (128 - (wrap64 (Int.tdiv t135 2)))) ≤ (Int.tmod a1 128)) = true := decide_eq_true c9
            clear c9
            simp only [Option.some.injEq, Prod.mk.injEq] at H
            obtain ⟨rfl, rfl, rfl⟩ := H
            go_enter Try.func26, Try.ntmps26
            go_wp2_with (first | ((with_reducible refine gate_callee (f := 50) rfl ?_); refine goesL_ (some 32) rfl rfl Try.func50 (by kernel_rfl) rfl #[.slice A0 l0.length c0, .int .i64 (wrap64 (Int.tdiv a1 128))] rfl (by (try simp only [List.map_toArray, List.map_cons, List.map_nil]); first | done | rfl | (simp only [List.length_drop, List.length_take]; rfl)) ?_; (with_reducible refine (block_lap.calls k _ _ l0 (wrap64 (Int.tdiv a1 128)) t134 _ ?side1 ?side2 A6.out).mono ?_); (case side1 => repeat (first | exact HR0.out | (with_reducible refine Kd.C_alloc ?_ _) | (with_reducible refine Kd.C_drewN ?_ _) | (with_reducible refine Kd.C_drew ?_))); (case side2 => exact HC0.out); rintro e w' ⟨rfl, ⟨nd, rfl⟩⟩; refine ⟨_, rfl, ?_⟩) | ((with_reducible refine gate_callee (f := 50) rfl ?_); refine goesL_ (some 41) rfl rfl Try.func50 (by kernel_rfl) rfl #[.slice A0 l0.length c0, .int .i64 (wrap64 ((wrap64 (Int.tdiv a1 128)) + 1))] rfl (by (try simp only [List.map_toArray, List.map_cons, List.map_nil]); first | done | rfl | (simp only [List.length_drop, List.length_take]; rfl)) ?_; (with_reducible refine (block_lap.calls k _ _ l0 (wrap64 ((wrap64 (Int.tdiv a1 128)) + 1)) t135 _ ?side1 ?side2 A8.out).mono ?_); (case side1 => repeat (first | exact HR0.out | (with_reducible refine Kd.C_alloc ?_ _) | (with_reducible refine Kd.C_drewN ?_ _) | (with_reducible refine Kd.C_drew ?_))); (case side2 => exact HC0.out); rintro e w' ⟨rfl, ⟨nd, rfl⟩⟩; refine ⟨_, rfl, ?_⟩))
            go_ret3
            exact ⟨by first | rfl | (simp; done) | (simp [*]; done), by repeat (first | exact Drawn0.refl _ | apply Drawn0.step)⟩
          · rw [if_neg c9] at H
            have c9b0 : decide ((wrap64 (128 - (wrap64 (Int.tdiv t135 2)))) ≤ (Int.tmod a1 128)) = false := decide_eq_false c9
            clear c9
            simp only [Option.some.injEq, Prod.mk.injEq] at H
            obtain ⟨rfl, rfl, rfl⟩ := H
            go_enter Try.func26, Try.ntmps26
            go_wp2_with (first | ((with_reducible refine gate_callee (f := 50) rfl ?_); refine goesL_ (some 32) rfl rfl Try.func50 (by kernel_rfl) rfl #[.slice A0 l0.length c0, .int .i64 (wrap64 (Int.tdiv a1 128))] rfl (by (try simp only [List.map_toArray, List.map_cons, List.map_nil]); first | done | rfl | (simp only [List.length_drop, List.length_take]; rfl)) ?_; (with_reducible refine (block_lap.calls k _ _ l0 (wrap64 (Int.tdiv a1 128)) t134 _ ?side1 ?side2 A6.out).mono ?_); (case side1 => repeat (first | exact HR0.out | (with_reducible refine Kd.C_alloc ?_ _) | (with_reducible refine Kd.C_drewN ?_ _) | (with_reducible refine Kd.C_drew ?_))); (case side2 => exact HC0.out); rintro e w' ⟨rfl, ⟨nd, rfl⟩⟩; refine ⟨_, rfl, ?_⟩) | ((with_reducible refine gate_callee (f := 50) rfl ?_); refine goesL_ (some 41) rfl rfl Try.func50 (by kernel_rfl) rfl #[.slice A0 l0.length c0, .int .i64 (wrap64 ((wrap64 (Int.tdiv a1 128)) + 1))] rfl (by (try simp only [List.map_toArray, List.map_cons, List.map_nil]); first | done | rfl | (simp only [List.length_drop, List.length_take]; rfl)) ?_; (with_reducible refine (block_lap.calls k _ _ l0 (wrap64 ((wrap64 (Int.tdiv a1 128)) + 1)) t135 _ ?side1 ?side2 A8.out).mono ?_); (case side1 => repeat (first | exact HR0.out | (with_reducible refine Kd.C_alloc ?_ _) | (with_reducible refine Kd.C_drewN ?_ _) | (with_reducible refine Kd.C_drew ?_))); (case side2 => exact HC0.out); rintro e w' ⟨rfl, ⟨nd, rfl⟩⟩; refine ⟨_, rfl, ?_⟩))
            go_ret3
            exact ⟨by first | rfl | (simp; done) | (simp [*]; done), by repeat (first | exact Drawn0.refl _ | apply Drawn0.step)⟩
        · rw [if_neg c7] at H
          have c7b0 : decide ((Int.tmod a1 128) < (wrap64 (Int.tdiv t134 2))) = false := decide_eq_false c7
          clear c7
          replace H := Option.bind_eq_some_iff.mp H
          obtain ⟨t136, A100, H⟩ := H
          replace H : (if (Int.tmod a1 128) ≥ (wrap64 (128 - (wrap64 (Int.tdiv t136 2)))) then (some (wrap64 (Int.tdiv a1 128), wrap64 ((wrap64 (Int.tdiv a1 128)) + 1), 0)) else (some (wrap64 (Int.tdiv a1 128), wrap64 (Int.tdiv a1 128), 0))) = some (r1, r2, r3) := H
          have A10 := Aside0.mk A100
          clear A100
          by_cases c11 : (Int.tmod a1 128) ≥ (wrap64 (128 - (wrap64 (Int.tdiv t136 2))))
          · rw [if_pos c11] at H
            have c11b0 : decide ((wrap64 (128 - (wrap64 (Int.tdiv t136 2)))) ≤ (Int.tmod a1 128)) = true := decide_eq_true c11
            clear c11
            simp only [Option.some.injEq, Prod.mk.injEq] at H
            obtain ⟨rfl, rfl, rfl⟩ := H
            go_enter Try.func26, Try.ntmps26
            go_wp2_with (first | ((with_reducible refine gate_callee (f := 50) rfl ?_); refine goesL_ (some 32) rfl rfl Try.func50 (by kernel_rfl) rfl #[.slice A0 l0.length c0, .int .i64 (wrap64 (Int.tdiv a1 128))] rfl (by (try simp only [List.map_toArray, List.map_cons, List.map_nil]); first | done | rfl | (simp only [List.length_drop, List.length_take]; rfl)) ?_; (with_reducible refine (block_lap.calls k _ _ l0 (wrap64 (Int.tdiv a1 128)) t134 _ ?side1 ?side2 A6.out).mono ?_); (case side1 => repeat (first | exact HR0.out | (with_reducible refine Kd.C_alloc ?_ _) | (with_reducible refine Kd.C_drewN ?_ _) | (with_reducible refine Kd.C_drew ?_))); (case side2 => exact HC0.out); rintro e w' ⟨rfl, ⟨nd, rfl⟩⟩; refine ⟨_, rfl, ?_⟩) | ((with_reducible refine gate_callee (f := 50) rfl ?_); refine goesL_ (some 41) rfl rfl Try.func50 (by kernel_rfl) rfl #[.slice A0 l0.length c0, .int .i64 (wrap64 ((wrap64 (Int.tdiv a1 128)) + 1))] rfl (by (try simp only [List.map_toArray, List.map_cons, List.map_nil]); first | done | rfl | (simp only [List.length_drop, List.length_take]; rfl)) ?_; (with_reducible refine (block_lap.calls k _ _ l0 (wrap64 ((wrap64 (Int.tdiv a1 128)) + 1)) t136 _ ?side1 ?side2 A10.out).mono ?_); (case side1 => repeat (first | exact HR0.out | (with_reducible refine Kd.C_alloc ?_ _) | (with_reducible refine Kd.C_drewN ?_ _) | (with_reducible refine Kd.C_drew ?_))); (case side2 => exact HC0.out); rintro e w' ⟨rfl, ⟨nd, rfl⟩⟩; refine ⟨_, rfl, ?_⟩))
            go_ret3
            exact ⟨by first | rfl | (simp; done) | (simp [*]; done), by repeat (first | exact Drawn0.refl _ | apply Drawn0.step)⟩
          · rw [if_neg c11] at H
            have c11b0 : decide ((wrap64 (128 - (wrap64 (Int.tdiv t136 2)))) ≤ (Int.tmod a1 128)) = false := decide_eq_false c11
            clear c11
            simp only [Option.some.injEq, Prod.mk.injEq] at H
            obtain ⟨rfl, rfl, rfl⟩ := H
            go_enter Try.func26, Try.ntmps26
            go_wp2_with (first | ((with_reducible refine gate_callee (f := 50) rfl ?_); refine goesL_ (some 32) rfl rfl Try.func50 (by kernel_rfl) rfl #[.slice A0 l0.length c0, .int .i64 (wrap64 (Int.tdiv a1 128))] rfl (by (try simp only [List.map_toArray, List.map_cons, List.map_nil]); first | done | rfl | (simp only [List.length_drop, List.length_take]; rfl)) ?_; (with_reducible refine (block_lap.calls k _ _ l0 (wrap64 (Int.tdiv a1 128)) t134 _ ?side1 ?side2 A6.out).mono ?_); (case side1 => repeat (first | exact HR0.out | (with_reducible refine Kd.C_alloc ?_ _) | (with_reducible refine Kd.C_drewN ?_ _) | (with_reducible refine Kd.C_drew ?_))); (case side2 => exact HC0.out); rintro e w' ⟨rfl, ⟨nd, rfl⟩⟩; refine ⟨_, rfl, ?_⟩) | ((with_reducible refine gate_callee (f := 50) rfl ?_); refine goesL_ (some 41) rfl rfl Try.func50 (by kernel_rfl) rfl #[.slice A0 l0.length c0, .int .i64 (wrap64 ((wrap64 (Int.tdiv a1 128)) + 1))] rfl (by (try simp only [List.map_toArray, List.map_cons, List.map_nil]); first | done | rfl | (simp only [List.length_drop, List.length_take]; rfl)) ?_; (with_reducible refine (block_lap.calls k _ _ l0 (wrap64 ((wrap64 (Int.tdiv a1 128)) + 1)) t136 _ ?side1 ?side2 A10.out).mono ?_); (case side1 => repeat (first | exact HR0.out | (with_reducible refine Kd.C_alloc ?_ _) | (with_reducible refine Kd.C_drewN ?_ _) | (with_reducible refine Kd.C_drew ?_))); (case side2 => exact HC0.out); rintro e w' ⟨rfl, ⟨nd, rfl⟩⟩; refine ⟨_, rfl, ?_⟩))
            go_ret3
            exact ⟨by first | rfl | (simp; done) | (simp [*]; done), by repeat (first | exact Drawn0.refl _ | apply Drawn0.step)⟩

/-! ### block_Layout: function 30 (by hand) -/
/-- The blocks of frames. -/
def layB (l : List Bool) : List Int := l.flatMap fun b => if b then List.replicate 8 16 else [128]
theorem layB_take (l : List Bool) (k : Nat) (h : k < l.length) : layB (l.take (k + 1)) = layB (l.take k) ++ (if rdOf false l (k : Int) = true then List.replicate 8 16 else [128]) := by
  unfold layB
  rw [List.take_succ_eq_append_getElem h, List.flatMap_append]
  congr 1
  have : rdOf false l (k : Int) = l[k] := by unfold rdOf; simp [List.getD_eq_getElem?_getD, h]
  rw [this]
  simp
theorem layB_le (l : List Bool) : (layB l).length ≤ 8 * l.length := by
  unfold layB
  induction l with
  | nil => simp
  | cons b l ih => 
    rw [List.flatMap_cons, List.length_append, List.length_cons]
    cases b
    · rw [if_neg (by simp)]; simp only [List.length_singleton]; omega
    · rw [if_pos rfl, List.length_replicate]; omega
theorem layB_takele (l : List Bool) (k : Nat) (h : l.length ≤ 64) : (layB (l.take k)).length ≤ 512 := by
  have := layB_le (l.take k)
  have := List.length_take_le' k l
  omega
def block_Layout.f (l0 : List Bool) : Option (List Int × Int) := if 64 < l0.length then some ([], 2) else some (layB l0, 0)
set_option maxHeartbeats 8000000 in
set_option maxRecDepth 100000 in
theorem block_Layout.calls (A0 : Option Addr) (c0 : Nat) (l0 : List Bool) (r1 : List Int) (r2 : Int) (w : World) (hr0 : Kd.C Kd.bool w A0 l0.length l0) (hc0 : l0.length ≤ c0) (h : block_Layout.f l0 = some (r1, r2)) :
    Calls Try.prog 30 #[.slice A0 l0.length c0] w fun e w' => ∃ v0_ : Value, e = .returned (.tuple #[v0_, .int .i64 r2]) ∧ Kd.R (Kd.int .i64) 3 w' w.heap.size (fun _ => True) v0_ r1 ∧ Below w.heap.size w w' := by
  have HR := Aside0.mk hr0
  clear hr0 hc0
  unfold block_Layout.f at h
  by_cases hl : 64 < l0.length
  · rw [if_pos hl] at h
    simp only [Option.some.injEq, Prod.mk.injEq] at h
    obtain ⟨rfl, rfl⟩ := h
    have hd0 : decide (64 < l0.length) = true := decide_eq_true hl
    have hd1 : decide ((64 : Int) < (l0.length : Int)) = true := decide_eq_true (by omega)
    clear hl
    go_enter Try.func30, Try.ntmps30
    go_wp2
    go_step3
    go_wp2
    rw [Exit.noGoto_ret]
    go_ret2
    exact ⟨_, rfl, Kd.R_nil _ _ _ _ _, Below.refl _ _⟩
  · rw [if_neg hl] at h
    simp only [Option.some.injEq, Prod.mk.injEq] at h
    obtain ⟨rfl, rfl⟩ := h
    have hd0 : decide (64 < l0.length) = false := decide_eq_false hl
    have hd1 : decide ((64 : Int) < (l0.length : Int)) = false := decide_eq_false (by omega)
    have HL := Aside0.mk (show l0.length ≤ 64 by omega)
    clear hl
    go_enter Try.func30, Try.ntmps30
    go_wp2
    go_step3
    go_wp2
    go_step3
    go_wp2
    go_loopw [4, 12] (fun v x wr => ∃ k : Nat, x = .int .i64 k ∧ Aside0 (k ≤ l0.length) ∧ Aside0 (Kd.R (Kd.int .i64) 3 wr w.heap.size (fun _ => True) v (layB (l0.take k))) ∧ Aside0 (Below w.heap.size w wr)) (fun _ x _ => l0.length - (intOf x).toNat)
    case atStart => exact ⟨0, rfl, ⟨Nat.zero_le _⟩, ⟨Kd.R_nil _ _ _ _ _⟩, ⟨Below.refl _ _⟩⟩
    case round =>
      obtain ⟨k, rfl, HK, HO, HB⟩ := hrel
      by_cases hlt : k < l0.length
      · have p0 : 0 ≤ (k : Int) := by omega
        have q0 : (k : Int) < (l0.length : Int) := by omega
        obtain ⟨ad, e, hx⟩ := Kd.at_bool HR.out (k : Int) p0 q0
        subst e
        replace hx := pw_cell_below HB.out hx
        simp only [Int.toNat_natCast] at hx
        have HLT := Aside0.mk hlt
        have HLN := Aside0.mk (layB_takele l0 k HL.out)
        have HST := Aside0.mk (layB_take l0 k hlt)
        have hd2 : decide (k < l0.length) = true := decide_eq_true hlt
        have hk64 : k < 64 := by have := HL.out; omega
        clear p0 q0
        cases hbv : rdOf false l0 (k : Int) with
        | false =>
          have HBV := Aside0.mk hbv
          rw [hbv] at hx
          clear hbv
          go_wp2_with (((with_reducible refine gate_builtin (b := .append) (xs := #[.tmp 18, .tmp 19]) rfl ?_); at_builtin; refine Kd.R_append (Kd.int .i64) (w0 := w) w.heap.size rfl (.tmp 18) (.tmp 19) 22 3 (.int .i64 0) 8 rfl Try.underlying22 info3 rfl (by decide) (by omega) _ (layB (l0.take k)) 128 [.int .i64 128] (fun _ => True) (fun _ => False) rfl rfl ?aP (fun _ hk => hk.elim) (fun _ _ => trivial) ?aO ?aB ?aS ?aL ?_; (case aP => exact rfl); (case aO => exact HO.out); (case aB => exact HB.out); (case aS => exact HB.out.size); (case aL => have h1 := HLN.out; omega); intro v1 w1 ho hb1 hg hat; have HO1 := Aside0.mk ho; have HB1 := Aside0.mk hb1; clear ho hb1 hg hat))
          go_roundw
          case rel => exact ⟨k + 1, by go_num, ⟨HLT.out⟩, ⟨by rw [HST.out, HBV.out, if_neg (by simp)]; exact HO1.out⟩, HB1⟩
          case measure => have := HLT.out; simp [intOf]; omega
        | true =>
          have HBV := Aside0.mk hbv
          rw [hbv] at hx
          clear hbv
          go_wp2
          go_loopw [4, 21] (fun v x wr => ∃ j : Nat, x = .int .i64 j ∧ Aside0 (j ≤ 8) ∧ Aside0 (Kd.R (Kd.int .i64) 3 wr w.heap.size (fun _ => True) v (layB (l0.take k) ++ List.replicate j 16)) ∧ Aside0 (Below w.heap.size w wr)) (fun _ x _ => 8 - (intOf x).toNat)
          case atStart => exact ⟨0, rfl, ⟨Nat.zero_le _⟩, ⟨by rw [List.replicate_zero, List.append_nil]; exact HO.out⟩, HB⟩
          case round =>
            obtain ⟨j, rfl, HJ, HOj, HBj⟩ := hrel
            by_cases hj : j < 8
            · have HJT := Aside0.mk hj
              have hd3 : decide ((j : Int) < 8) = true := decide_eq_true (by omega)
              go_wp2_with (((with_reducible refine gate_builtin (b := .append) (xs := #[.tmp 23, .tmp 24]) rfl ?_); at_builtin; refine Kd.R_append (Kd.int .i64) (w0 := w) w.heap.size rfl (.tmp 23) (.tmp 24) 22 3 (.int .i64 0) 8 rfl Try.underlying22 info3 rfl (by decide) (by omega) _ (layB (l0.take k) ++ List.replicate j 16) 16 [.int .i64 16] (fun _ => True) (fun _ => False) rfl rfl ?aP (fun _ hk => hk.elim) (fun _ _ => trivial) ?aO ?aB ?aS ?aL ?_; (case aP => exact rfl); (case aO => exact HOj.out); (case aB => exact HBj.out); (case aS => exact HBj.out.size); (case aL => have h1 := HLN.out; have h2 := HJ.out; rw [List.length_append, List.length_replicate]; omega); intro v1 w1 ho hb1 hg hat; have HO1 := Aside0.mk ho; have HB1 := Aside0.mk hb1; clear ho hb1 hg hat))
              go_roundw
              case rel => exact ⟨j + 1, by go_num, ⟨HJT.out⟩, ⟨by rw [List.replicate_succ', ← List.append_assoc]; exact HO1.out⟩, HB1⟩
              case measure => have := HJT.out; simp [intOf]; omega
            · have hd3 : decide ((j : Int) < 8) = false := decide_eq_false (by omega)
              obtain rfl : j = 8 := by have := HJ.out; omega
              go_wp2
              go_roundw
              case rel => exact ⟨k + 1, by go_num, ⟨HLT.out⟩, ⟨by rw [HST.out, HBV.out, if_pos rfl]; exact HOj.out⟩, HBj⟩
              case measure => have := HLT.out; simp [intOf]; omega
      · have hd2 : decide (k < l0.length) = false := decide_eq_false hlt
        obtain rfl : k = l0.length := by have := HK.out; omega
        clear hlt HK
        go_wp2
        rw [Exit.noGoto_ret]
        go_ret2
        exact ⟨_, rfl, by have := HO.out; rw [List.take_length] at this; exact this, HB.out⟩

/-! ### shawmref06_within: function 45 -/
def shawmref06_within.l0 : Nat → Int → List Int → Int → Int → Option (Bool)
  | 0, _, _, _, _ => none
  | k + 1, x0, x7, x8, x9 => if x9 < x8 then (if 0 ≤ x9 then (if x9 < (x7.length : Int) then (if (rd x7 x9) < (wrap64 (-x0)) then (some false) else (if (rd x7 x9) > x0 then (some false) else (shawmref06_within.l0 k x0 x7 x8 (wrap64 (x9 + 1))))) else (none)) else (none)) else (some true)
def shawmref06_within.f (k : Nat) (a0 : Int) (l1 : List Int) : Option (Bool) := shawmref06_within.l0 k a0 l1 (l1.length : Int) 0
theorem shawmref06_within.mono_l : ∀ k, (∀ y0 y1 y2 y3, LeO (shawmref06_within.l0 k y0 y1 y2 y3) (shawmref06_within.l0 (k + 1) y0 y1 y2 y3))
  | 0 => fun _ _ _ _ r h => by simp [shawmref06_within.l0] at h
  | k + 1 => by
    have ih0 := shawmref06_within.mono_l k
    · intro y0 y1 y2 y3
      unfold shawmref06_within.l0
      repeat' first
      | (with_reducible exact ih0 _ _ _ _)
      | (with_reducible exact LeO.refl _)
      | (with_reducible exact LeO.none _)
      | (with_reducible refine LeO.ite ?_ ?_)
      | (with_reducible refine LeO.bind ?_ (fun _ => ?_))
      | exact ih0 _ _ _ _
      | exact LeO.none _
      | refine LeO.ite ?_ ?_
      | refine LeO.bind ?_ (fun _ => ?_)
theorem shawmref06_within.mono : ∀ a0 a1 k, LeO (shawmref06_within.f k a0 a1) (shawmref06_within.f (k + 1) a0 a1) := by
  intro a0 a1 k
  have ih0 := shawmref06_within.mono_l k
  unfold shawmref06_within.f
  repeat' first
      | (with_reducible exact ih0 _ _ _ _)
      | (with_reducible exact LeO.refl _)
      | (with_reducible exact LeO.none _)
      | (with_reducible refine LeO.ite ?_ ?_)
      | (with_reducible refine LeO.bind ?_ (fun _ => ?_))
      | exact ih0 _ _ _ _
      | exact LeO.none _
      | refine LeO.ite ?_ ?_
      | refine LeO.bind ?_ (fun _ => ?_)
set_option maxHeartbeats 8000000 in
set_option maxRecDepth 100000 in
theorem shawmref06_within.calls (k : Nat) (a0 : Int) (A1 : Option Addr) (c1 : Nat) (l1 : List Int) (r : Bool) (w : World) (hr1 : Kd.C (Kd.int .i64) w A1 l1.length l1) (hc1 : l1.length ≤ c1) (h : shawmref06_within.f k a0 l1 = some r) :
    Calls Try.prog 45 #[.int .i64 a0, .slice A1 l1.length c1] w fun e w' => e = .returned (.bool r) ∧ Drawn0 w w' := by
  have HR1 := Aside0.mk hr1
  have HC1 := Aside0.mk hc1
  clear hr1 hc1
  have H : (shawmref06_within.l0 k a0 l1 (l1.length : Int) 0) = some r := h
  clear h
  have H' := Aside0.mk H
  clear H
  go_enter Try.func45, Try.ntmps45
  go_wp2
  go_loopg [9] k (fun kq v9 w' => ∃ (x9_1 : Int), v9 = .int .i64 x9_1 ∧ Aside0 (shawmref06_within.l0 kq a0 l1 (l1.length : Int) x9_1 = some r) ∧ Aside0 (kq ≤ k) ∧ Drawn0 w w')
  case atStart => exact ⟨(0), (by first | rfl | (simp; done) | (simp [*]; done)), H', ⟨Nat.le_refl _⟩, by repeat (first | exact Drawn0.refl _ | apply Drawn0.step)⟩
  case round =>
    clear H'
    try clear c1
    try clear p2
    obtain ⟨x9_1, rfl, HA, HK1, ⟨m1, rfl⟩⟩ := hrel
    cases gk with
    | zero => exact absurd HA.out (by simp [shawmref06_within.l0])
    | succ k1 =>
      have H := HA.out
      clear HA
      simp only [shawmref06_within.l0] at H
      by_cases c3 : x9_1 < (l1.length : Int)
      · rw [if_pos c3] at H
        have c3b0 : decide (x9_1 < (l1.length : Int)) = true := decide_eq_true c3
        clear c3
        by_cases c4 : 0 ≤ x9_1
        · rw [if_pos c4] at H
          have c4b0 : decide (0 ≤ x9_1) = true := decide_eq_true c4
          clear c4
          by_cases c5 : x9_1 < (l1.length : Int)
          · rw [if_pos c5] at H
            have c5b0 : decide (x9_1 < (l1.length : Int)) = true := decide_eq_true c5
            clear c5
            by_cases c6 : (rd l1 x9_1) < (wrap64 (-a0))
            · rw [if_pos c6] at H
              have c6b0 : decide ((rd l1 x9_1) < (wrap64 (-a0))) = true := decide_eq_true c6
              clear c6
              obtain rfl := Option.some.inj H
              have p137 : 0 ≤ (x9_1 : Int) := of_decide_eq_true (by first | (with_reducible assumption) | assumption)
              have q137 : x9_1 < (l1.length : Int) := of_decide_eq_true (by first | (with_reducible assumption) | assumption)
              obtain ⟨ad137, e137, hx137_0⟩ := Kd.at_int HR1.out x9_1 p137 q137
              cases e137
              replace p137 := eq_true p137
              replace q137 := eq_true q137
              go_wp2
              go_ret
              exact ⟨by first | rfl | (simp; done) | (simp [*]; done), by repeat (first | exact Drawn0.refl _ | apply Drawn0.step)⟩
            · rw [if_neg c6] at H
              have c6b0 : decide ((rd l1 x9_1) < (wrap64 (-a0))) = false := decide_eq_false c6
              clear c6
              by_cases c7 : (rd l1 x9_1) > a0
              · rw [if_pos c7] at H
                have c7b0 : decide (a0 < (rd l1 x9_1)) = true := decide_eq_true c7
                clear c7
                obtain rfl := Option.some.inj H
                have p137 : 0 ≤ (x9_1 : Int) := of_decide_eq_true (by first | (with_reducible assumption) | assumption)
                have q137 : x9_1 < (l1.length : Int) := of_decide_eq_true (by first | (with_reducible assumption) | assumption)
                obtain ⟨ad137, e137, hx137_0⟩ := Kd.at_int HR1.out x9_1 p137 q137
                cases e137
                replace p137 := eq_true p137
                replace q137 := eq_true q137
                go_wp2
                go_ret
                exact ⟨by first | rfl | (simp; done) | (simp [*]; done), by repeat (first | exact Drawn0.refl _ | apply Drawn0.step)⟩
              · rw [if_neg c7] at H
                have c7b0 : decide (a0 < (rd l1 x9_1)) = false := decide_eq_false c7
                clear c7
                have H' := Aside0.mk H
                clear H
                have p137 : 0 ≤ (x9_1 : Int) := of_decide_eq_true (by first | (with_reducible assumption) | assumption)
                have q137 : x9_1 < (l1.length : Int) := of_decide_eq_true (by first | (with_reducible assumption) | assumption)
                obtain ⟨ad137, e137, hx137_0⟩ := Kd.at_int HR1.out x9_1 p137 q137
                cases e137
                replace p137 := eq_true p137
                replace q137 := eq_true q137
                go_wp2
                go_roundg k1
                case measure => have := HK1.out; omega
                case rel => exact ⟨(wrap64 (x9_1 + 1)), (by first | rfl | (simp; done) | (simp [*]; done)), H', ⟨by have := HK1.out; omega⟩, by repeat (first | exact Drawn0.refl _ | apply Drawn0.step)⟩
          · rw [if_neg c5] at H
            exact absurd H (by simp)
        · rw [if_neg c4] at H
          exact absurd H (by simp)
      · rw [if_neg c3] at H
        have c3b0 : decide (x9_1 < (l1.length : Int)) = false := decide_eq_false c3
        clear c3
        obtain rfl := Option.some.inj H
        go_wp2
        go_ret
        exact ⟨by first | rfl | (simp; done) | (simp [*]; done), by repeat (first | exact Drawn0.refl _ | apply Drawn0.step)⟩

end Go.Proofs.Ytooipbjdpajmmaa.Hl
