/- The machine's side of laws of the seat Ytooipbjdpajmmaa, printed by a program of this session over the kit's printer: functions of the Go program as Lean functions, each with a proof that the call computes it. Conditions: none beyond each theorem's own. -/
import Derived.Test.YtooipbjdpajmmaaHnx0
import Derived.Test.YtooipbjdpajmmaaHnx2
import Derived.Test.YtooipbjdpajmmaaHnx5
import Derived.Test.YtooipbjdpajmmaaHnx6
import Derived.Test.YtooipbjdpajmmaaHnx20
import Derived.Test.YtooipbjdpajmmaaHnx21
import Derived.Test.YtooipbjdpajmmaaHnx22
import Derived.Test.YtooipbjdpajmmaaHnx23
namespace Go.Proofs.Ytooipbjdpajmmaa.Hn
open Go.RowKit Go.Proofs.YtooipbjdpajmmaaW.PrintWords Go.Proofs.YtooipbjdpajmmaaW.PrintLast Go.Proofs.YtooipbjdpajmmaaW.PrintMore
attribute [local go_sem] max2_int min2_int max_two min_two max_three min_three max_four min_four   -- for this text's walks alone
set_option linter.unusedVariables false
set_option linter.unusedSimpArgs false

/-! ### shawmlaw09_BlockKinds: function 10 -/
def shawmlaw09_BlockKinds.j0 : Nat → List Bool → List Bool → Bool → Option (Bool)
  | 0, _, _, _ => none
  | k + 1, x0, x1, x28 => if x28 = true then ((shawmlaw09_awake.f).bind fun t339 => (some t339)) else ((block_Either.f x0 x1).bind fun bt340 => ((shawmref09_Either.f k x0 x1).bind fun bt344 => ((block_Kinds.f x0).bind fun bt348 => ((shawmref09_Kinds.f k x0).bind fun bt352 => ((block_Layout.f x0).bind fun bt356 => ((shawmref09_Layout.f k x0).bind fun bt360 => ((block_Laps.f x0).bind fun bt364 => ((shawmref09_Laps.f k x0).bind fun bt368 => ((shawmref09_Bools.f k bt340.1 bt344.1).bind fun t372 => (if t372 = true then (if bt340.2 = bt344.2 then ((shawmref02_Ints.f k bt348.1 bt352.1).bind fun t373 => (if t373 = true then (if bt348.2 = bt352.2 then ((shawmref02_Ints.f k bt356.1 bt360.1).bind fun t374 => (if t374 = true then (if bt356.2 = bt360.2 then ((shawmref02_Ints.f k bt364.1 bt368.1).bind fun t375 => (if t375 = true then (if bt364.2 = bt368.2 then ((shawmlaw09_awake.f).bind fun t376 => (some t376)) else (none)) else (none))) else (none)) else (none))) else (none)) else (none))) else (none)) else (none)))))))))))
def shawmlaw09_BlockKinds.f (k : Nat) (l0 : List Bool) (l1 : List Bool) : Option (Bool) := if (l0.length : Int) > 100 then (shawmlaw09_BlockKinds.j0 k l0 l1 true) else (shawmlaw09_BlockKinds.j0 k l0 l1 (decide ((l1.length : Int) > 100)))
theorem shawmlaw09_BlockKinds.mono_l : ∀ k, (∀ y0 y1 y2, LeO (shawmlaw09_BlockKinds.j0 k y0 y1 y2) (shawmlaw09_BlockKinds.j0 (k + 1) y0 y1 y2))
  | 0 => fun _ _ _ r h => by simp [shawmlaw09_BlockKinds.j0] at h
  | k + 1 => by
    have ih0 := shawmlaw09_BlockKinds.mono_l k
    · intro y0 y1 y2
      unfold shawmlaw09_BlockKinds.j0
      repeat' first
      | (with_reducible exact ih0 _ _ _)
      | (with_reducible exact shawmref02_Ints.mono _ _ _)
      | (with_reducible exact shawmref09_Bools.mono _ _ _)
      | (with_reducible exact shawmref09_Either.mono _ _ _)
      | (with_reducible exact shawmref09_Kinds.mono _ _)
      | (with_reducible exact shawmref09_Laps.mono _ _)
      | (with_reducible exact shawmref09_Layout.mono _ _)
      | (with_reducible exact LeO.refl _)
      | (with_reducible exact LeO.none _)
      | (with_reducible refine LeO.ite ?_ ?_)
      | (with_reducible refine LeO.bind ?_ (fun _ => ?_))
      | exact ih0 _ _ _
      | exact shawmref02_Ints.mono _ _ _
      | exact shawmref09_Bools.mono _ _ _
      | exact shawmref09_Either.mono _ _ _
      | exact shawmref09_Kinds.mono _ _
      | exact shawmref09_Laps.mono _ _
      | exact shawmref09_Layout.mono _ _
      | exact LeO.none _
      | refine LeO.ite ?_ ?_
      | refine LeO.bind ?_ (fun _ => ?_)
theorem shawmlaw09_BlockKinds.mono : ∀ a0 a1 k, LeO (shawmlaw09_BlockKinds.f k a0 a1) (shawmlaw09_BlockKinds.f (k + 1) a0 a1) := by
  intro a0 a1 k
  have ih0 := shawmlaw09_BlockKinds.mono_l k
  unfold shawmlaw09_BlockKinds.f
  repeat' first
      | (with_reducible exact ih0 _ _ _)
      | (with_reducible exact shawmref02_Ints.mono _ _ _)
      | (with_reducible exact shawmref09_Bools.mono _ _ _)
      | (with_reducible exact shawmref09_Either.mono _ _ _)
      | (with_reducible exact shawmref09_Kinds.mono _ _)
      | (with_reducible exact shawmref09_Laps.mono _ _)
      | (with_reducible exact shawmref09_Layout.mono _ _)
      | (with_reducible exact LeO.refl _)
      | (with_reducible exact LeO.none _)
      | (with_reducible refine LeO.ite ?_ ?_)
      | (with_reducible refine LeO.bind ?_ (fun _ => ?_))
      | exact ih0 _ _ _
      | exact shawmref02_Ints.mono _ _ _
      | exact shawmref09_Bools.mono _ _ _
      | exact shawmref09_Either.mono _ _ _
      | exact shawmref09_Kinds.mono _ _
      | exact shawmref09_Laps.mono _ _
      | exact shawmref09_Layout.mono _ _
      | exact LeO.none _
      | refine LeO.ite ?_ ?_
      | refine LeO.bind ?_ (fun _ => ?_)
set_option maxHeartbeats 8000000 in
set_option maxRecDepth 100000 in
theorem shawmlaw09_BlockKinds.calls (k : Nat) (A0 : Option Addr) (c0 : Nat) (l0 : List Bool) (A1 : Option Addr) (c1 : Nat) (l1 : List Bool) (r : Bool) (w : World) (hr0 : Kd.C Kd.bool w A0 l0.length l0) (hc0 : l0.length ≤ c0) (hr1 : Kd.C Kd.bool w A1 l1.length l1) (hc1 : l1.length ≤ c1) (h : shawmlaw09_BlockKinds.f k l0 l1 = some r) :
    Calls Try.prog 10 #[.slice A0 l0.length c0, .slice A1 l1.length c1] w fun e w' => e = .returned (.bool r) ∧ Below w.heap.size w w' := by
  have HR0 := Aside0.mk hr0
  have HC0 := Aside0.mk hc0
  clear hr0 hc0
  have HR1 := Aside0.mk hr1
  have HC1 := Aside0.mk hc1
  clear hr1 hc1
  have HB := Aside0.mk (Below.refl w.heap.size w)
  have H : (if (l0.length : Int) > 100 then (shawmlaw09_BlockKinds.j0 k l0 l1 true) else (shawmlaw09_BlockKinds.j0 k l0 l1 (decide ((l1.length : Int) > 100)))) = some r := h
  clear h
  have HC3 := Aside0.mk H
  clear H
  go_enter Try.func10, Try.ntmps10
  go_upto_region 1 with (fail)
  go_cut [28] (fun v28 wc => ∃ (kq : Nat) (x28_2 : Bool), v28 = .bool x28_2 ∧ Aside0 (shawmlaw09_BlockKinds.j0 kq l0 l1 x28_2 = some r) ∧ Aside0 (kq ≤ k) ∧ Aside0 (Below w.heap.size w wc))
  case first =>
    have H := HC3.out
    clear HC3
    by_cases c4 : (l0.length : Int) > 100
    · rw [if_pos c4] at H
      have c4b0 : decide (100 < (l0.length : Int)) = true := decide_eq_true c4
      have c4b1 : decide (100 < l0.length) = true := decide_eq_true (by omega)
      clear c4
      (first | rw [c4b0] | (simp only [i64_w, i32_w]; rw [c4b0]) | skip)
      have H' := Aside0.mk H
      clear H
      go_wp2
      go_meet
      case rel => exact ⟨_, (true), (by first | rfl | (simp; done) | (simp [*]; done)), H', ⟨by first | omega | exact Nat.le_refl _⟩, ⟨by repeat (first | (with_reducible first | exact HB.out | apply below_alloc | apply pw_below_drewN | apply below_drew1) | exact HB.out)⟩⟩
    · rw [if_neg c4] at H
      have c4b0 : decide (100 < (l0.length : Int)) = false := decide_eq_false c4
      have c4b1 : decide (100 < l0.length) = false := decide_eq_false (by omega)
      clear c4
      (first | rw [c4b0] | (simp only [i64_w, i32_w]; rw [c4b0]) | skip)
      have H' := Aside0.mk H
      clear H
      go_wp2
      go_meet
      case rel => exact ⟨_, (decide ((l1.length : Int) > 100)), (by first | rfl | (simp; done) | (simp [*]; done)), H', ⟨by first | omega | exact Nat.le_refl _⟩, ⟨by repeat (first | (with_reducible first | exact HB.out | apply below_alloc | apply pw_below_drewN | apply below_drew1) | exact HB.out)⟩⟩
  case rest =>
    clear HC3
    try clear c1
    try clear p2
    try clear c4
    try clear c4b0
    try clear c4b1
    obtain ⟨kq, x28_2, rfl, HA, HJ2, HB⟩ := hcut
    cases kq with
    | zero => exact absurd HA.out (by simp [shawmlaw09_BlockKinds.j0])
    | succ kj2 =>
      have H := HA.out
      clear HA
      simp only [shawmlaw09_BlockKinds.j0] at H
      by_cases c5 : x28_2 = true
      · subst c5
        have H1 : ((shawmlaw09_awake.f).bind fun t339 => (some t339)) = some r := by rw [if_pos rfl] at H; exact H
        clear H
        have H := H1
        clear H1
        replace H := Option.bind_eq_some_iff.mp H
        obtain ⟨t339, A60, H⟩ := H
        replace H : (some t339) = some r := H
        have A6 := Aside0.mk A60
        clear A60
        obtain rfl := Option.some.inj H
        go_wp2_with (first | ((with_reducible refine gate_callee (f := 12) rfl ?_); refine goesL_ (some 29) rfl rfl Try.func12 (by kernel_rfl) rfl #[] rfl (by (try simp only [List.map_toArray, List.map_cons, List.map_nil]); first | done | rfl | (simp only [List.length_drop, List.length_take]; rfl)) ?_; (with_reducible refine (shawmlaw09_awake.calls  t339 _ A6.out).mono ?_); rintro e w7 ⟨rfl, hb⟩; refine ⟨_, rfl, ?_⟩; have n0_ := Aside0.mk (below_step (by repeat (first | (with_reducible first | exact HB.out | apply below_alloc | apply pw_below_drewN | apply below_drew1) | exact HB.out)) hb); clear HB; have HB := n0_; clear n0_; (try clear hb); (try clear hb2); (try clear hk); (try clear hi)))
        go_ret
        exact ⟨by first | rfl | (simp [errW_none, errW_some] <;> rfl) | (simp [*, errW_none, errW_some] <;> rfl), by repeat (first | (with_reducible first | exact HB.out | apply below_alloc | apply pw_below_drewN | apply below_drew1) | exact HB.out)⟩
      · replace c5 := Bool.eq_false_iff.mpr c5
        subst c5
        have H1 : ((block_Either.f l0 l1).bind fun bt340 => ((shawmref09_Either.f kj2 l0 l1).bind fun bt344 => ((block_Kinds.f l0).bind fun bt348 => ((shawmref09_Kinds.f kj2 l0).bind fun bt352 => ((block_Layout.f l0).bind fun bt356 => ((shawmref09_Layout.f kj2 l0).bind fun bt360 => ((block_Laps.f l0).bind fun bt364 => ((shawmref09_Laps.f kj2 l0).bind fun bt368 => ((shawmref09_Bools.f kj2 bt340.1 bt344.1).bind fun t372 => (if t372 = true then (if bt340.2 = bt344.2 then ((shawmref02_Ints.f kj2 bt348.1 bt352.1).bind fun t373 => (if t373 = true then (if bt348.2 = bt352.2 then ((shawmref02_Ints.f kj2 bt356.1 bt360.1).bind fun t374 => (if t374 = true then (if bt356.2 = bt360.2 then ((shawmref02_Ints.f kj2 bt364.1 bt368.1).bind fun t375 => (if t375 = true then (if bt364.2 = bt368.2 then ((shawmlaw09_awake.f).bind fun t376 => (some t376)) else (none)) else (none))) else (none)) else (none))) else (none)) else (none))) else (none)) else (none))))))))))) = some r := by rw [if_neg (show ¬ (false = true) by decide)] at H; exact H
        clear H
        have H := H1
        clear H1
        replace H := Option.bind_eq_some_iff.mp H
        obtain ⟨⟨t340, t341⟩, A80, H⟩ := H
        replace H : ((shawmref09_Either.f kj2 l0 l1).bind fun bt344 => ((block_Kinds.f l0).bind fun bt348 => ((shawmref09_Kinds.f kj2 l0).bind fun bt352 => ((block_Layout.f l0).bind fun bt356 => ((shawmref09_Layout.f kj2 l0).bind fun bt360 => ((block_Laps.f l0).bind fun bt364 => ((shawmref09_Laps.f kj2 l0).bind fun bt368 => ((shawmref09_Bools.f kj2 t340 bt344.1).bind fun t372 => (if t372 = true then (if t341 = bt344.2 then ((shawmref02_Ints.f kj2 bt348.1 bt352.1).bind fun t373 => (if t373 = true then (if bt348.2 = bt352.2 then ((shawmref02_Ints.f kj2 bt356.1 bt360.1).bind fun t374 => (if t374 = true then (if bt356.2 = bt360.2 then ((shawmref02_Ints.f kj2 bt364.1 bt368.1).bind fun t375 => (if t375 = true then (if bt364.2 = bt368.2 then ((shawmlaw09_awake.f).bind fun t376 => (some t376)) else (none)) else (none))) else (none)) else (none))) else (none)) else (none))) else (none)) else (none)))))))))) = some r := H
        have A8 := Aside0.mk A80
        clear A80
        replace H := Option.bind_eq_some_iff.mp H
        obtain ⟨⟨t344, t345⟩, A90, H⟩ := H
        replace H : ((block_Kinds.f l0).bind fun bt348 => ((shawmref09_Kinds.f kj2 l0).bind fun bt352 => ((block_Layout.f l0).bind fun bt356 => ((shawmref09_Layout.f kj2 l0).bind fun bt360 => ((block_Laps.f l0).bind fun bt364 => ((shawmref09_Laps.f kj2 l0).bind fun bt368 => ((shawmref09_Bools.f kj2 t340 t344).bind fun t372 => (if t372 = true then (if t341 = t345 then ((shawmref02_Ints.f kj2 bt348.1 bt352.1).bind fun t373 => (if t373 = true then (if bt348.2 = bt352.2 then ((shawmref02_Ints.f kj2 bt356.1 bt360.1).bind fun t374 => (if t374 = true then (if bt356.2 = bt360.2 then ((shawmref02_Ints.f kj2 bt364.1 bt368.1).bind fun t375 => (if t375 = true then (if bt364.2 = bt368.2 then ((shawmlaw09_awake.f).bind fun t376 => (some t376)) else (none)) else (none))) else (none)) else (none))) else (none)) else (none))) else (none)) else (none))))))))) = some r := H
        have A9 := Aside0.mk A90
        clear A90
        replace H := Option.bind_eq_some_iff.mp H
        obtain ⟨⟨t348, t349⟩, A100, H⟩ := H
        replace H : ((shawmref09_Kinds.f kj2 l0).bind fun bt352 => ((block_Layout.f l0).bind fun bt356 => ((shawmref09_Layout.f kj2 l0).bind fun bt360 => ((block_Laps.f l0).bind fun bt364 => ((shawmref09_Laps.f kj2 l0).bind fun bt368 => ((shawmref09_Bools.f kj2 t340 t344).bind fun t372 => (if t372 = true then (if t341 = t345 then ((shawmref02_Ints.f kj2 t348 bt352.1).bind fun t373 => (if t373 = true then (if t349 = bt352.2 then ((shawmref02_Ints.f kj2 bt356.1 bt360.1).bind fun t374 => (if t374 = true then (if bt356.2 = bt360.2 then ((shawmref02_Ints.f kj2 bt364.1 bt368.1).bind fun t375 => (if t375 = true then (if bt364.2 = bt368.2 then ((shawmlaw09_awake.f).bind fun t376 => (some t376)) else (none)) else (none))) else (none)) else (none))) else (none)) else (none))) else (none)) else (none)))))))) = some r := H
        have A10 := Aside0.mk A100
        clear A100
        replace H := Option.bind_eq_some_iff.mp H
        obtain ⟨⟨t352, t353⟩, A110, H⟩ := H
        replace H : ((block_Layout.f l0).bind fun bt356 => ((shawmref09_Layout.f kj2 l0).bind fun bt360 => ((block_Laps.f l0).bind fun bt364 => ((shawmref09_Laps.f kj2 l0).bind fun bt368 => ((shawmref09_Bools.f kj2 t340 t344).bind fun t372 => (if t372 = true then (if t341 = t345 then ((shawmref02_Ints.f kj2 t348 t352).bind fun t373 => (if t373 = true then (if t349 = t353 then ((shawmref02_Ints.f kj2 bt356.1 bt360.1).bind fun t374 => (if t374 = true then (if bt356.2 = bt360.2 then ((shawmref02_Ints.f kj2 bt364.1 bt368.1).bind fun t375 => (if t375 = true then (if bt364.2 = bt368.2 then ((shawmlaw09_awake.f).bind fun t376 => (some t376)) else (none)) else (none))) else (none)) else (none))) else (none)) else (none))) else (none)) else (none))))))) = some r := H
        have A11 := Aside0.mk A110
        clear A110
        replace H := Option.bind_eq_some_iff.mp H
        obtain ⟨⟨t356, t357⟩, A120, H⟩ := H
        replace H : ((shawmref09_Layout.f kj2 l0).bind fun bt360 => ((block_Laps.f l0).bind fun bt364 => ((shawmref09_Laps.f kj2 l0).bind fun bt368 => ((shawmref09_Bools.f kj2 t340 t344).bind fun t372 => (if t372 = true then (if t341 = t345 then ((shawmref02_Ints.f kj2 t348 t352).bind fun t373 => (if t373 = true then (if t349 = t353 then ((shawmref02_Ints.f kj2 t356 bt360.1).bind fun t374 => (if t374 = true then (if t357 = bt360.2 then ((shawmref02_Ints.f kj2 bt364.1 bt368.1).bind fun t375 => (if t375 = true then (if bt364.2 = bt368.2 then ((shawmlaw09_awake.f).bind fun t376 => (some t376)) else (none)) else (none))) else (none)) else (none))) else (none)) else (none))) else (none)) else (none)))))) = some r := H
        have A12 := Aside0.mk A120
        clear A120
        replace H := Option.bind_eq_some_iff.mp H
        obtain ⟨⟨t360, t361⟩, A130, H⟩ := H
        replace H : ((block_Laps.f l0).bind fun bt364 => ((shawmref09_Laps.f kj2 l0).bind fun bt368 => ((shawmref09_Bools.f kj2 t340 t344).bind fun t372 => (if t372 = true then (if t341 = t345 then ((shawmref02_Ints.f kj2 t348 t352).bind fun t373 => (if t373 = true then (if t349 = t353 then ((shawmref02_Ints.f kj2 t356 t360).bind fun t374 => (if t374 = true then (if t357 = t361 then ((shawmref02_Ints.f kj2 bt364.1 bt368.1).bind fun t375 => (if t375 = true then (if bt364.2 = bt368.2 then ((shawmlaw09_awake.f).bind fun t376 => (some t376)) else (none)) else (none))) else (none)) else (none))) else (none)) else (none))) else (none)) else (none))))) = some r := H
        have A13 := Aside0.mk A130
        clear A130
        replace H := Option.bind_eq_some_iff.mp H
        obtain ⟨⟨t364, t365⟩, A140, H⟩ := H
        replace H : ((shawmref09_Laps.f kj2 l0).bind fun bt368 => ((shawmref09_Bools.f kj2 t340 t344).bind fun t372 => (if t372 = true then (if t341 = t345 then ((shawmref02_Ints.f kj2 t348 t352).bind fun t373 => (if t373 = true then (if t349 = t353 then ((shawmref02_Ints.f kj2 t356 t360).bind fun t374 => (if t374 = true then (if t357 = t361 then ((shawmref02_Ints.f kj2 t364 bt368.1).bind fun t375 => (if t375 = true then (if t365 = bt368.2 then ((shawmlaw09_awake.f).bind fun t376 => (some t376)) else (none)) else (none))) else (none)) else (none))) else (none)) else (none))) else (none)) else (none)))) = some r := H
        have A14 := Aside0.mk A140
        clear A140
        replace H := Option.bind_eq_some_iff.mp H
        obtain ⟨⟨t368, t369⟩, A150, H⟩ := H
        replace H : ((shawmref09_Bools.f kj2 t340 t344).bind fun t372 => (if t372 = true then (if t341 = t345 then ((shawmref02_Ints.f kj2 t348 t352).bind fun t373 => (if t373 = true then (if t349 = t353 then ((shawmref02_Ints.f kj2 t356 t360).bind fun t374 => (if t374 = true then (if t357 = t361 then ((shawmref02_Ints.f kj2 t364 t368).bind fun t375 => (if t375 = true then (if t365 = t369 then ((shawmlaw09_awake.f).bind fun t376 => (some t376)) else (none)) else (none))) else (none)) else (none))) else (none)) else (none))) else (none)) else (none))) = some r := H
        have A15 := Aside0.mk A150
        clear A150
        replace H := Option.bind_eq_some_iff.mp H
        obtain ⟨t372, A160, H⟩ := H
        replace H : (if t372 = true then (if t341 = t345 then ((shawmref02_Ints.f kj2 t348 t352).bind fun t373 => (if t373 = true then (if t349 = t353 then ((shawmref02_Ints.f kj2 t356 t360).bind fun t374 => (if t374 = true then (if t357 = t361 then ((shawmref02_Ints.f kj2 t364 t368).bind fun t375 => (if t375 = true then (if t365 = t369 then ((shawmlaw09_awake.f).bind fun t376 => (some t376)) else (none)) else (none))) else (none)) else (none))) else (none)) else (none))) else (none)) else (none)) = some r := H
        have A16 := Aside0.mk A160
        clear A160
        by_cases c17 : t372 = true
        · subst c17
          have H1 : (if t341 = t345 then ((shawmref02_Ints.f kj2 t348 t352).bind fun t373 => (if t373 = true then (if t349 = t353 then ((shawmref02_Ints.f kj2 t356 t360).bind fun t374 => (if t374 = true then (if t357 = t361 then ((shawmref02_Ints.f kj2 t364 t368).bind fun t375 => (if t375 = true then (if t365 = t369 then ((shawmlaw09_awake.f).bind fun t376 => (some t376)) else (none)) else (none))) else (none)) else (none))) else (none)) else (none))) else (none)) = some r := by rw [if_pos rfl] at H; exact H
          clear H
          have H := H1
          clear H1
          by_cases c18 : t341 = t345
          · rw [if_pos c18] at H
            have c18b0 : (t341 == t345) = true := beq_iff_eq.mpr c18
            have c18b1 : (t341 != t345) = false := bne_eq_false_iff_eq.mpr c18
            clear c18
            replace H := Option.bind_eq_some_iff.mp H
            obtain ⟨t373, A190, H⟩ := H
            replace H : (if t373 = true then (if t349 = t353 then ((shawmref02_Ints.f kj2 t356 t360).bind fun t374 => (if t374 = true then (if t357 = t361 then ((shawmref02_Ints.f kj2 t364 t368).bind fun t375 => (if t375 = true then (if t365 = t369 then ((shawmlaw09_awake.f).bind fun t376 => (some t376)) else (none)) else (none))) else (none)) else (none))) else (none)) else (none)) = some r := H
            have A19 := Aside0.mk A190
            clear A190
            by_cases c20 : t373 = true
            · subst c20
              have H1 : (if t349 = t353 then ((shawmref02_Ints.f kj2 t356 t360).bind fun t374 => (if t374 = true then (if t357 = t361 then ((shawmref02_Ints.f kj2 t364 t368).bind fun t375 => (if t375 = true then (if t365 = t369 then ((shawmlaw09_awake.f).bind fun t376 => (some t376)) else (none)) else (none))) else (none)) else (none))) else (none)) = some r := by rw [if_pos rfl] at H; exact H
              clear H
              have H := H1
              clear H1
              by_cases c21 : t349 = t353
              · rw [if_pos c21] at H
                have c21b0 : (t349 == t353) = true := beq_iff_eq.mpr c21
                have c21b1 : (t349 != t353) = false := bne_eq_false_iff_eq.mpr c21
                clear c21
                replace H := Option.bind_eq_some_iff.mp H
                obtain ⟨t374, A220, H⟩ := H
                replace H : (if t374 = true then (if t357 = t361 then ((shawmref02_Ints.f kj2 t364 t368).bind fun t375 => (if t375 = true then (if t365 = t369 then ((shawmlaw09_awake.f).bind fun t376 => (some t376)) else (none)) else (none))) else (none)) else (none)) = some r := H
                have A22 := Aside0.mk A220
                clear A220
                by_cases c23 : t374 = true
                · subst c23
                  have H1 : (if t357 = t361 then ((shawmref02_Ints.f kj2 t364 t368).bind fun t375 => (if t375 = true then (if t365 = t369 then ((shawmlaw09_awake.f).bind fun t376 => (some t376)) else (none)) else (none))) else (none)) = some r := by rw [if_pos rfl] at H; exact H
                  clear H
                  have H := H1
                  clear H1
                  by_cases c24 : t357 = t361
                  · rw [if_pos c24] at H
                    have c24b0 : (t357 == t361) = true := beq_iff_eq.mpr c24
                    have c24b1 : (t357 != t361) = false := bne_eq_false_iff_eq.mpr c24
                    clear c24
                    replace H := Option.bind_eq_some_iff.mp H
                    obtain ⟨t375, A250, H⟩ := H
                    replace H : (if t375 = true then (if t365 = t369 then ((shawmlaw09_awake.f).bind fun t376 => (some t376)) else (none)) else (none)) = some r := H
                    have A25 := Aside0.mk A250
                    clear A250
                    by_cases c26 : t375 = true
                    · subst c26
                      have H1 : (if t365 = t369 then ((shawmlaw09_awake.f).bind fun t376 => (some t376)) else (none)) = some r := by rw [if_pos rfl] at H; exact H
                      clear H
                      have H := H1
                      clear H1
                      by_cases c27 : t365 = t369
                      · rw [if_pos c27] at H
                        have c27b0 : (t365 == t369) = true := beq_iff_eq.mpr c27
                        have c27b1 : (t365 != t369) = false := bne_eq_false_iff_eq.mpr c27
                        clear c27
                        replace H := Option.bind_eq_some_iff.mp H
                        obtain ⟨t376, A280, H⟩ := H
                        replace H : (some t376) = some r := H
                        have A28 := Aside0.mk A280
                        clear A280
                        obtain rfl := Option.some.inj H
                        go_wp2_with (first | ((with_reducible refine gate_callee (f := 32) rfl ?_); refine goesL_ (some 33) rfl rfl Try.func32 (by kernel_rfl) rfl #[.slice A0 l0.length c0, .slice A1 l1.length c1] rfl (by (try simp only [List.map_toArray, List.map_cons, List.map_nil]); first | done | rfl | (simp only [List.length_drop, List.length_take]; rfl)) ?_; (with_reducible refine (block_Either.calls _ _ l0 _ _ l1 t340 t341 _ ?side1 ?side2 ?side3 ?side4 A8.out).mono ?_); (case side1 => repeat (first | exact (Kd.C_below HR0.out HB.out) | (with_reducible refine Kd.C_alloc ?_ _) | (with_reducible refine Kd.C_drewN ?_ _) | (with_reducible refine Kd.C_drew ?_))); (case side2 => exact HC0.out); (case side3 => repeat (first | exact (Kd.C_below HR1.out HB.out) | (with_reducible refine Kd.C_alloc ?_ _) | (with_reducible refine Kd.C_drewN ?_ _) | (with_reducible refine Kd.C_drew ?_))); (case side4 => exact HC1.out); rintro e w29 ⟨v342, rfl, ho0, hb⟩; refine ⟨_, rfl, ?_⟩; have n0_ := Aside0.mk (Kd.R_lower ho0 (below_size (by repeat (first | (with_reducible first | exact HB.out | apply below_alloc | apply pw_below_drewN | apply below_drew1) | exact HB.out)))); have n1_ := Aside0.mk (below_step (by repeat (first | (with_reducible first | exact HB.out | apply below_alloc | apply pw_below_drewN | apply below_drew1) | exact HB.out)) hb); clear HB; have HO343 := n0_; have HB := n1_; clear n0_ n1_; (try clear hb); (try clear hb2); (try clear hk); (try clear hi); (try clear ho0)) | ((with_reducible refine gate_callee (f := 33) rfl ?_); refine goesL_ (some 39) rfl rfl Try.func33 (by kernel_rfl) rfl #[.slice A0 l0.length c0, .slice A1 l1.length c1] rfl (by (try simp only [List.map_toArray, List.map_cons, List.map_nil]); first | done | rfl | (simp only [List.length_drop, List.length_take]; rfl)) ?_; (with_reducible refine (shawmref09_Either.calls kj2 _ _ l0 _ _ l1 t344 t345 _ ?side1 ?side2 ?side3 ?side4 A9.out).mono ?_); (case side1 => repeat (first | exact (Kd.C_below HR0.out HB.out) | (with_reducible refine Kd.C_alloc ?_ _) | (with_reducible refine Kd.C_drewN ?_ _) | (with_reducible refine Kd.C_drew ?_))); (case side2 => exact HC0.out); (case side3 => repeat (first | exact (Kd.C_below HR1.out HB.out) | (with_reducible refine Kd.C_alloc ?_ _) | (with_reducible refine Kd.C_drewN ?_ _) | (with_reducible refine Kd.C_drew ?_))); (case side4 => exact HC1.out); rintro e w30 ⟨v346, rfl, ho0, hb⟩; refine ⟨_, rfl, ?_⟩; have n0_ := Aside0.mk (Kd.R_elder' (by (with_reducible repeat (first | apply Kd.R_alloc | apply Kd.R_drewN | apply Kd.R_drew)); exact HO343.out) (Kd.R_base ho0) hb); have n1_ := Aside0.mk (Kd.R_lower (Kd.R_new' ho0 (Kd.R_lt (by (with_reducible repeat (first | apply Kd.R_alloc | apply Kd.R_drewN | apply Kd.R_drew)); exact HO343.out))) (below_size (by repeat (first | (with_reducible first | exact HB.out | apply below_alloc | apply pw_below_drewN | apply below_drew1) | exact HB.out)))); have n2_ := Aside0.mk (below_step (by repeat (first | (with_reducible first | exact HB.out | apply below_alloc | apply pw_below_drewN | apply below_drew1) | exact HB.out)) hb); clear HO343; clear HB; have HO343 := n0_; have HO347 := n1_; have HB := n2_; clear n0_ n1_ n2_; (try clear hb); (try clear hb2); (try clear hk); (try clear hi); (try clear ho0)) | ((with_reducible refine gate_callee (f := 34) rfl ?_); refine goesL_ (some 44) rfl rfl Try.func34 (by kernel_rfl) rfl #[.slice A0 l0.length c0] rfl (by (try simp only [List.map_toArray, List.map_cons, List.map_nil]); first | done | rfl | (simp only [List.length_drop, List.length_take]; rfl)) ?_; (with_reducible refine (block_Kinds.calls _ _ l0 t348 t349 _ ?side1 ?side2 A10.out).mono ?_); (case side1 => repeat (first | exact (Kd.C_below HR0.out HB.out) | (with_reducible refine Kd.C_alloc ?_ _) | (with_reducible refine Kd.C_drewN ?_ _) | (with_reducible refine Kd.C_drew ?_))); (case side2 => exact HC0.out); rintro e w31 ⟨v350, rfl, ho0, hb⟩; refine ⟨_, rfl, ?_⟩; have n0_ := Aside0.mk (Kd.R_below (by (with_reducible repeat (first | apply Kd.R_alloc | apply Kd.R_drewN | apply Kd.R_drew)); exact HO343.out) hb); have n1_ := Aside0.mk (Kd.R_below (by (with_reducible repeat (first | apply Kd.R_alloc | apply Kd.R_drewN | apply Kd.R_drew)); exact HO347.out) hb); have n2_ := Aside0.mk (Kd.R_lower ho0 (below_size (by repeat (first | (with_reducible first | exact HB.out | apply below_alloc | apply pw_below_drewN | apply below_drew1) | exact HB.out)))); have n3_ := Aside0.mk (below_step (by repeat (first | (with_reducible first | exact HB.out | apply below_alloc | apply pw_below_drewN | apply below_drew1) | exact HB.out)) hb); clear HO343; clear HO347; clear HB; have HO343 := n0_; have HO347 := n1_; have HO351 := n2_; have HB := n3_; clear n0_ n1_ n2_ n3_; (try clear hb); (try clear hb2); (try clear hk); (try clear hi); (try clear ho0)) | ((with_reducible refine gate_callee (f := 35) rfl ?_); refine goesL_ (some 49) rfl rfl Try.func35 (by kernel_rfl) rfl #[.slice A0 l0.length c0] rfl (by (try simp only [List.map_toArray, List.map_cons, List.map_nil]); first | done | rfl | (simp only [List.length_drop, List.length_take]; rfl)) ?_; (with_reducible refine (shawmref09_Kinds.calls kj2 _ _ l0 t352 t353 _ ?side1 ?side2 A11.out).mono ?_); (case side1 => repeat (first | exact (Kd.C_below HR0.out HB.out) | (with_reducible refine Kd.C_alloc ?_ _) | (with_reducible refine Kd.C_drewN ?_ _) | (with_reducible refine Kd.C_drew ?_))); (case side2 => exact HC0.out); rintro e w32 ⟨v354, rfl, ho0, hb⟩; refine ⟨_, rfl, ?_⟩; have n0_ := Aside0.mk (Kd.R_below (by (with_reducible repeat (first | apply Kd.R_alloc | apply Kd.R_drewN | apply Kd.R_drew)); exact HO343.out) hb); have n1_ := Aside0.mk (Kd.R_below (by (with_reducible repeat (first | apply Kd.R_alloc | apply Kd.R_drewN | apply Kd.R_drew)); exact HO347.out) hb); have n2_ := Aside0.mk (Kd.R_elder' (by (with_reducible repeat (first | apply Kd.R_alloc | apply Kd.R_drewN | apply Kd.R_drew)); exact HO351.out) (Kd.R_base ho0) hb); have n3_ := Aside0.mk (Kd.R_lower (Kd.R_new' ho0 (Kd.R_lt (by (with_reducible repeat (first | apply Kd.R_alloc | apply Kd.R_drewN | apply Kd.R_drew)); exact HO351.out))) (below_size (by repeat (first | (with_reducible first | exact HB.out | apply below_alloc | apply pw_below_drewN | apply below_drew1) | exact HB.out)))); have n4_ := Aside0.mk (below_step (by repeat (first | (with_reducible first | exact HB.out | apply below_alloc | apply pw_below_drewN | apply below_drew1) | exact HB.out)) hb); clear HO343; clear HO347; clear HO351; clear HB; have HO343 := n0_; have HO347 := n1_; have HO351 := n2_; have HO355 := n3_; have HB := n4_; clear n0_ n1_ n2_ n3_ n4_; (try clear hb); (try clear hb2); (try clear hk); (try clear hi); (try clear ho0)) | ((with_reducible refine gate_callee (f := 30) rfl ?_); refine goesL_ (some 54) rfl rfl Try.func30 (by kernel_rfl) rfl #[.slice A0 l0.length c0] rfl (by (try simp only [List.map_toArray, List.map_cons, List.map_nil]); first | done | rfl | (simp only [List.length_drop, List.length_take]; rfl)) ?_; (with_reducible refine (block_Layout.calls _ _ l0 t356 t357 _ ?side1 ?side2 A12.out).mono ?_); (case side1 => repeat (first | exact (Kd.C_below HR0.out HB.out) | (with_reducible refine Kd.C_alloc ?_ _) | (with_reducible refine Kd.C_drewN ?_ _) | (with_reducible refine Kd.C_drew ?_))); (case side2 => exact HC0.out); rintro e w33 ⟨v358, rfl, ho0, hb⟩; refine ⟨_, rfl, ?_⟩; have n0_ := Aside0.mk (Kd.R_below (by (with_reducible repeat (first | apply Kd.R_alloc | apply Kd.R_drewN | apply Kd.R_drew)); exact HO343.out) hb); have n1_ := Aside0.mk (Kd.R_below (by (with_reducible repeat (first | apply Kd.R_alloc | apply Kd.R_drewN | apply Kd.R_drew)); exact HO347.out) hb); have n2_ := Aside0.mk (Kd.R_elder' (by (with_reducible repeat (first | apply Kd.R_alloc | apply Kd.R_drewN | apply Kd.R_drew)); exact HO351.out) (Kd.R_base ho0) hb); have n3_ := Aside0.mk (Kd.R_elder' (by (with_reducible repeat (first | apply Kd.R_alloc | apply Kd.R_drewN | apply Kd.R_drew)); exact HO355.out) (Kd.R_base ho0) hb); have n4_ := Aside0.mk (Kd.R_lower (Kd.R_new' (Kd.R_new' ho0 (Kd.R_lt (by (with_reducible repeat (first | apply Kd.R_alloc | apply Kd.R_drewN | apply Kd.R_drew)); exact HO351.out))) (Kd.R_lt (by (with_reducible repeat (first | apply Kd.R_alloc | apply Kd.R_drewN | apply Kd.R_drew)); exact HO355.out))) (below_size (by repeat (first | (with_reducible first | exact HB.out | apply below_alloc | apply pw_below_drewN | apply below_drew1) | exact HB.out)))); have n5_ := Aside0.mk (below_step (by repeat (first | (with_reducible first | exact HB.out | apply below_alloc | apply pw_below_drewN | apply below_drew1) | exact HB.out)) hb); clear HO343; clear HO347; clear HO351; clear HO355; clear HB; have HO343 := n0_; have HO347 := n1_; have HO351 := n2_; have HO355 := n3_; have HO359 := n4_; have HB := n5_; clear n0_ n1_ n2_ n3_ n4_ n5_; (try clear hb); (try clear hb2); (try clear hk); (try clear hi); (try clear ho0)) | ((with_reducible refine gate_callee (f := 36) rfl ?_); refine goesL_ (some 59) rfl rfl Try.func36 (by kernel_rfl) rfl #[.slice A0 l0.length c0] rfl (by (try simp only [List.map_toArray, List.map_cons, List.map_nil]); first | done | rfl | (simp only [List.length_drop, List.length_take]; rfl)) ?_; (with_reducible refine (shawmref09_Layout.calls kj2 _ _ l0 t360 t361 _ ?side1 ?side2 A13.out).mono ?_); (case side1 => repeat (first | exact (Kd.C_below HR0.out HB.out) | (with_reducible refine Kd.C_alloc ?_ _) | (with_reducible refine Kd.C_drewN ?_ _) | (with_reducible refine Kd.C_drew ?_))); (case side2 => exact HC0.out); rintro e w34 ⟨v362, rfl, ho0, hb⟩; refine ⟨_, rfl, ?_⟩; have n0_ := Aside0.mk (Kd.R_below (by (with_reducible repeat (first | apply Kd.R_alloc | apply Kd.R_drewN | apply Kd.R_drew)); exact HO343.out) hb); have n1_ := Aside0.mk (Kd.R_below (by (with_reducible repeat (first | apply Kd.R_alloc | apply Kd.R_drewN | apply Kd.R_drew)); exact HO347.out) hb); have n2_ := Aside0.mk (Kd.R_elder' (by (with_reducible repeat (first | apply Kd.R_alloc | apply Kd.R_drewN | apply Kd.R_drew)); exact HO351.out) (Kd.R_base ho0) hb); have n3_ := Aside0.mk (Kd.R_elder' (by (with_reducible repeat (first | apply Kd.R_alloc | apply Kd.R_drewN | apply Kd.R_drew)); exact HO355.out) (Kd.R_base ho0) hb); have n4_ := Aside0.mk (Kd.R_elder' (by (with_reducible repeat (first | apply Kd.R_alloc | apply Kd.R_drewN | apply Kd.R_drew)); exact HO359.out) (Kd.R_base ho0) hb); have n5_ := Aside0.mk (Kd.R_lower (Kd.R_new' (Kd.R_new' (Kd.R_new' ho0 (Kd.R_lt (by (with_reducible repeat (first | apply Kd.R_alloc | apply Kd.R_drewN | apply Kd.R_drew)); exact HO351.out))) (Kd.R_lt (by (with_reducible repeat (first | apply Kd.R_alloc | apply Kd.R_drewN | apply Kd.R_drew)); exact HO355.out))) (Kd.R_lt (by (with_reducible repeat (first | apply Kd.R_alloc | apply Kd.R_drewN | apply Kd.R_drew)); exact HO359.out))) (below_size (by repeat (first | (with_reducible first | exact HB.out | apply below_alloc | apply pw_below_drewN | apply below_drew1) | exact HB.out)))); have n6_ := Aside0.mk (below_step (by repeat (first | (with_reducible first | exact HB.out | apply below_alloc | apply pw_below_drewN | apply below_drew1) | exact HB.out)) hb); clear HO343; clear HO347; clear HO351; clear HO355; clear HO359; clear HB; have HO343 := n0_; have HO347 := n1_; have HO351 := n2_; have HO355 := n3_; have HO359 := n4_; have HO363 := n5_; have HB := n6_; clear n0_ n1_ n2_ n3_ n4_ n5_ n6_; (try clear hb); (try clear hb2); (try clear hk); (try clear hi); (try clear ho0)) | ((with_reducible refine gate_callee (f := 37) rfl ?_); refine goesL_ (some 64) rfl rfl Try.func37 (by kernel_rfl) rfl #[.slice A0 l0.length c0] rfl (by (try simp only [List.map_toArray, List.map_cons, List.map_nil]); first | done | rfl | (simp only [List.length_drop, List.length_take]; rfl)) ?_; (with_reducible refine (block_Laps.calls _ _ l0 t364 t365 _ ?side1 ?side2 A14.out).mono ?_); (case side1 => repeat (first | exact (Kd.C_below HR0.out HB.out) | (with_reducible refine Kd.C_alloc ?_ _) | (with_reducible refine Kd.C_drewN ?_ _) | (with_reducible refine Kd.C_drew ?_))); (case side2 => exact HC0.out); rintro e w35 ⟨v366, rfl, ho0, hb⟩; refine ⟨_, rfl, ?_⟩; have n0_ := Aside0.mk (Kd.R_below (by (with_reducible repeat (first | apply Kd.R_alloc | apply Kd.R_drewN | apply Kd.R_drew)); exact HO343.out) hb); have n1_ := Aside0.mk (Kd.R_below (by (with_reducible repeat (first | apply Kd.R_alloc | apply Kd.R_drewN | apply Kd.R_drew)); exact HO347.out) hb); have n2_ := Aside0.mk (Kd.R_elder' (by (with_reducible repeat (first | apply Kd.R_alloc | apply Kd.R_drewN | apply Kd.R_drew)); exact HO351.out) (Kd.R_base ho0) hb); have n3_ := Aside0.mk (Kd.R_elder' (by (with_reducible repeat (first | apply Kd.R_alloc | apply Kd.R_drewN | apply Kd.R_drew)); exact HO355.out) (Kd.R_base ho0) hb); have n4_ := Aside0.mk (Kd.R_elder' (by (with_reducible repeat (first | apply Kd.R_alloc | apply Kd.R_drewN | apply Kd.R_drew)); exact HO359.out) (Kd.R_base ho0) hb); have n5_ := Aside0.mk (Kd.R_elder' (by (with_reducible repeat (first | apply Kd.R_alloc | apply Kd.R_drewN | apply Kd.R_drew)); exact HO363.out) (Kd.R_base ho0) hb); have n6_ := Aside0.mk (Kd.R_lower (Kd.R_new' (Kd.R_new' (Kd.R_new' (Kd.R_new' ho0 (Kd.R_lt (by (with_reducible repeat (first | apply Kd.R_alloc | apply Kd.R_drewN | apply Kd.R_drew)); exact HO351.out))) (Kd.R_lt (by (with_reducible repeat (first | apply Kd.R_alloc | apply Kd.R_drewN | apply Kd.R_drew)); exact HO355.out))) (Kd.R_lt (by (with_reducible repeat (first | apply Kd.R_alloc | apply Kd.R_drewN | apply Kd.R_drew)); exact HO359.out))) (Kd.R_lt (by (with_reducible repeat (first | apply Kd.R_alloc | apply Kd.R_drewN | apply Kd.R_drew)); exact HO363.out))) (below_size (by repeat (first | (with_reducible first | exact HB.out | apply below_alloc | apply pw_below_drewN | apply below_drew1) | exact HB.out)))); have n7_ := Aside0.mk (below_step (by repeat (first | (with_reducible first | exact HB.out | apply below_alloc | apply pw_below_drewN | apply below_drew1) | exact HB.out)) hb); clear HO343; clear HO347; clear HO351; clear HO355; clear HO359; clear HO363; clear HB; have HO343 := n0_; have HO347 := n1_; have HO351 := n2_; have HO355 := n3_; have HO359 := n4_; have HO363 := n5_; have HO367 := n6_; have HB := n7_; clear n0_ n1_ n2_ n3_ n4_ n5_ n6_ n7_; (try clear hb); (try clear hb2); (try clear hk); (try clear hi); (try clear ho0)) | ((with_reducible refine gate_callee (f := 38) rfl ?_); refine goesL_ (some 69) rfl rfl Try.func38 (by kernel_rfl) rfl #[.slice A0 l0.length c0] rfl (by (try simp only [List.map_toArray, List.map_cons, List.map_nil]); first | done | rfl | (simp only [List.length_drop, List.length_take]; rfl)) ?_; (with_reducible refine (shawmref09_Laps.calls kj2 _ _ l0 t368 t369 _ ?side1 ?side2 A15.out).mono ?_); (case side1 => repeat (first | exact (Kd.C_below HR0.out HB.out) | (with_reducible refine Kd.C_alloc ?_ _) | (with_reducible refine Kd.C_drewN ?_ _) | (with_reducible refine Kd.C_drew ?_))); (case side2 => exact HC0.out); rintro e w36 ⟨v370, rfl, ho0, hb⟩; refine ⟨_, rfl, ?_⟩; have n0_ := Aside0.mk (Kd.R_below (by (with_reducible repeat (first | apply Kd.R_alloc | apply Kd.R_drewN | apply Kd.R_drew)); exact HO343.out) hb); have n1_ := Aside0.mk (Kd.R_below (by (with_reducible repeat (first | apply Kd.R_alloc | apply Kd.R_drewN | apply Kd.R_drew)); exact HO347.out) hb); have n2_ := Aside0.mk (Kd.R_elder' (by (with_reducible repeat (first | apply Kd.R_alloc | apply Kd.R_drewN | apply Kd.R_drew)); exact HO351.out) (Kd.R_base ho0) hb); have n3_ := Aside0.mk (Kd.R_elder' (by (with_reducible repeat (first | apply Kd.R_alloc | apply Kd.R_drewN | apply Kd.R_drew)); exact HO355.out) (Kd.R_base ho0) hb); have n4_ := Aside0.mk (Kd.R_elder' (by (with_reducible repeat (first | apply Kd.R_alloc | apply Kd.R_drewN | apply Kd.R_drew)); exact HO359.out) (Kd.R_base ho0) hb); have n5_ := Aside0.mk (Kd.R_elder' (by (with_reducible repeat (first | apply Kd.R_alloc | apply Kd.R_drewN | apply Kd.R_drew)); exact HO363.out) (Kd.R_base ho0) hb); have n6_ := Aside0.mk (Kd.R_elder' (by (with_reducible repeat (first | apply Kd.R_alloc | apply Kd.R_drewN | apply Kd.R_drew)); exact HO367.out) (Kd.R_base ho0) hb); have n7_ := Aside0.mk (Kd.R_lower (Kd.R_new' (Kd.R_new' (Kd.R_new' (Kd.R_new' (Kd.R_new' ho0 (Kd.R_lt (by (with_reducible repeat (first | apply Kd.R_alloc | apply Kd.R_drewN | apply Kd.R_drew)); exact HO351.out))) (Kd.R_lt (by (with_reducible repeat (first | apply Kd.R_alloc | apply Kd.R_drewN | apply Kd.R_drew)); exact HO355.out))) (Kd.R_lt (by (with_reducible repeat (first | apply Kd.R_alloc | apply Kd.R_drewN | apply Kd.R_drew)); exact HO359.out))) (Kd.R_lt (by (with_reducible repeat (first | apply Kd.R_alloc | apply Kd.R_drewN | apply Kd.R_drew)); exact HO363.out))) (Kd.R_lt (by (with_reducible repeat (first | apply Kd.R_alloc | apply Kd.R_drewN | apply Kd.R_drew)); exact HO367.out))) (below_size (by repeat (first | (with_reducible first | exact HB.out | apply below_alloc | apply pw_below_drewN | apply below_drew1) | exact HB.out)))); have n8_ := Aside0.mk (below_step (by repeat (first | (with_reducible first | exact HB.out | apply below_alloc | apply pw_below_drewN | apply below_drew1) | exact HB.out)) hb); clear HO343; clear HO347; clear HO351; clear HO355; clear HO359; clear HO363; clear HO367; clear HB; have HO343 := n0_; have HO347 := n1_; have HO351 := n2_; have HO355 := n3_; have HO359 := n4_; have HO363 := n5_; have HO367 := n6_; have HO371 := n7_; have HB := n8_; clear n0_ n1_ n2_ n3_ n4_ n5_ n6_ n7_ n8_; (try clear hb); (try clear hb2); (try clear hk); (try clear hi); (try clear ho0); obtain ⟨Ao37, co37, eo37⟩ := Kd.R_slice HO343.out; subst eo37; obtain ⟨Ao38, co38, eo38⟩ := Kd.R_slice HO347.out; subst eo38) | ((with_reducible refine gate_callee (f := 22) rfl ?_); refine goesL_ (some 74) rfl rfl Try.func22 (by kernel_rfl) rfl #[.slice Ao37 t340.length co37, .slice Ao38 t344.length co38] rfl (by (try simp only [List.map_toArray, List.map_cons, List.map_nil]); first | done | rfl | (simp only [List.length_drop, List.length_take]; rfl)) ?_; (with_reducible refine (shawmref09_Bools.calls kj2 _ _ t340 _ _ t344 true _ ?side1 ?side2 ?side3 ?side4 A16.out).mono ?_); (case side1 => repeat (first | exact (Kd.R_reads' HO343.out).2.2 | (with_reducible refine Kd.C_alloc ?_ _) | (with_reducible refine Kd.C_drewN ?_ _) | (with_reducible refine Kd.C_drew ?_))); (case side2 => exact (Kd.R_reads' HO343.out).2.1); (case side3 => repeat (first | exact (Kd.R_reads' HO347.out).2.2 | (with_reducible refine Kd.C_alloc ?_ _) | (with_reducible refine Kd.C_drewN ?_ _) | (with_reducible refine Kd.C_drew ?_))); (case side4 => exact (Kd.R_reads' HO347.out).2.1); rintro e w' ⟨rfl, ⟨nd, rfl⟩⟩; refine ⟨_, rfl, ?_⟩; obtain ⟨Ao39, co39, eo39⟩ := Kd.R_slice HO351.out; subst eo39; obtain ⟨Ao40, co40, eo40⟩ := Kd.R_slice HO355.out; subst eo40) | (go_at_call 15; (with_reducible refine (shawmref02_Ints.calls kj2 _ _ t348 _ _ t352 true _ ?side1 ?side2 ?side3 ?side4 A19.out).mono ?_); (case side1 => repeat (first | exact (Kd.R_reads' HO351.out).2.2 | (with_reducible refine Kd.C_alloc ?_ _) | (with_reducible refine Kd.C_drewN ?_ _) | (with_reducible refine Kd.C_drew ?_))); (case side2 => exact (Kd.R_reads' HO351.out).2.1); (case side3 => repeat (first | exact (Kd.R_reads' HO355.out).2.2 | (with_reducible refine Kd.C_alloc ?_ _) | (with_reducible refine Kd.C_drewN ?_ _) | (with_reducible refine Kd.C_drew ?_))); (case side4 => exact (Kd.R_reads' HO355.out).2.1); rintro e w' ⟨rfl, ⟨nd, rfl⟩⟩; obtain ⟨Ao41, co41, eo41⟩ := Kd.R_slice HO359.out; subst eo41; obtain ⟨Ao42, co42, eo42⟩ := Kd.R_slice HO363.out; subst eo42) | (go_at_call 15; (with_reducible refine (shawmref02_Ints.calls kj2 _ _ t356 _ _ t360 true _ ?side1 ?side2 ?side3 ?side4 A22.out).mono ?_); (case side1 => repeat (first | exact (Kd.R_reads' HO359.out).2.2 | (with_reducible refine Kd.C_alloc ?_ _) | (with_reducible refine Kd.C_drewN ?_ _) | (with_reducible refine Kd.C_drew ?_))); (case side2 => exact (Kd.R_reads' HO359.out).2.1); (case side3 => repeat (first | exact (Kd.R_reads' HO363.out).2.2 | (with_reducible refine Kd.C_alloc ?_ _) | (with_reducible refine Kd.C_drewN ?_ _) | (with_reducible refine Kd.C_drew ?_))); (case side4 => exact (Kd.R_reads' HO363.out).2.1); rintro e w' ⟨rfl, ⟨nd, rfl⟩⟩; obtain ⟨Ao43, co43, eo43⟩ := Kd.R_slice HO367.out; subst eo43; obtain ⟨Ao44, co44, eo44⟩ := Kd.R_slice HO371.out; subst eo44) | (go_at_call 15; (with_reducible refine (shawmref02_Ints.calls kj2 _ _ t364 _ _ t368 true _ ?side1 ?side2 ?side3 ?side4 A25.out).mono ?_); (case side1 => repeat (first | exact (Kd.R_reads' HO367.out).2.2 | (with_reducible refine Kd.C_alloc ?_ _) | (with_reducible refine Kd.C_drewN ?_ _) | (with_reducible refine Kd.C_drew ?_))); (case side2 => exact (Kd.R_reads' HO367.out).2.1); (case side3 => repeat (first | exact (Kd.R_reads' HO371.out).2.2 | (with_reducible refine Kd.C_alloc ?_ _) | (with_reducible refine Kd.C_drewN ?_ _) | (with_reducible refine Kd.C_drew ?_))); (case side4 => exact (Kd.R_reads' HO371.out).2.1); rintro e w' ⟨rfl, ⟨nd, rfl⟩⟩) | (go_at_call 12; (with_reducible refine (shawmlaw09_awake.calls  t376 _ A28.out).mono ?_); rintro e w45 ⟨rfl, hb⟩; have n0_ := Aside0.mk (Kd.R_below (by (with_reducible repeat (first | apply Kd.R_alloc | apply Kd.R_drewN | apply Kd.R_drew)); exact HO343.out) hb); have n1_ := Aside0.mk (Kd.R_below (by (with_reducible repeat (first | apply Kd.R_alloc | apply Kd.R_drewN | apply Kd.R_drew)); exact HO347.out) hb); have n2_ := Aside0.mk (Kd.R_below (by (with_reducible repeat (first | apply Kd.R_alloc | apply Kd.R_drewN | apply Kd.R_drew)); exact HO351.out) hb); have n3_ := Aside0.mk (Kd.R_below (by (with_reducible repeat (first | apply Kd.R_alloc | apply Kd.R_drewN | apply Kd.R_drew)); exact HO355.out) hb); have n4_ := Aside0.mk (Kd.R_below (by (with_reducible repeat (first | apply Kd.R_alloc | apply Kd.R_drewN | apply Kd.R_drew)); exact HO359.out) hb); have n5_ := Aside0.mk (Kd.R_below (by (with_reducible repeat (first | apply Kd.R_alloc | apply Kd.R_drewN | apply Kd.R_drew)); exact HO363.out) hb); have n6_ := Aside0.mk (Kd.R_below (by (with_reducible repeat (first | apply Kd.R_alloc | apply Kd.R_drewN | apply Kd.R_drew)); exact HO367.out) hb); have n7_ := Aside0.mk (Kd.R_below (by (with_reducible repeat (first | apply Kd.R_alloc | apply Kd.R_drewN | apply Kd.R_drew)); exact HO371.out) hb); have n8_ := Aside0.mk (below_step (by repeat (first | (with_reducible first | exact HB.out | apply below_alloc | apply pw_below_drewN | apply below_drew1) | exact HB.out)) hb); clear HO343; clear HO347; clear HO351; clear HO355; clear HO359; clear HO363; clear HO367; clear HO371; clear HB; have HO343 := n0_; have HO347 := n1_; have HO351 := n2_; have HO355 := n3_; have HO359 := n4_; have HO363 := n5_; have HO367 := n6_; have HO371 := n7_; have HB := n8_; clear n0_ n1_ n2_ n3_ n4_ n5_ n6_ n7_ n8_; (try clear hb); (try clear hb2); (try clear hk); (try clear hi)))
                        go_ret
                        exact ⟨by first | rfl | (simp [errW_none, errW_some] <;> rfl) | (simp [*, errW_none, errW_some] <;> rfl), by repeat (first | (with_reducible first | exact HB.out | apply below_alloc | apply pw_below_drewN | apply below_drew1) | exact HB.out)⟩
                      · rw [if_neg c27] at H
                        exact absurd H (by simp)
                    · replace c26 := Bool.eq_false_iff.mpr c26
                      subst c26
                      have H1 : (none) = some r := by rw [if_neg (show ¬ (false = true) by decide)] at H; exact H
                      clear H
                      have H := H1
                      clear H1
                      exact absurd H (by simp)
                  · rw [if_neg c24] at H
                    exact absurd H (by simp)
                · replace c23 := Bool.eq_false_iff.mpr c23
                  subst c23
                  have H1 : (none) = some r := by rw [if_neg (show ¬ (false = true) by decide)] at H; exact H
                  clear H
                  have H := H1
                  clear H1
                  exact absurd H (by simp)
              · rw [if_neg c21] at H
                exact absurd H (by simp)
            · replace c20 := Bool.eq_false_iff.mpr c20
              subst c20
              have H1 : (none) = some r := by rw [if_neg (show ¬ (false = true) by decide)] at H; exact H
              clear H
              have H := H1
              clear H1
              exact absurd H (by simp)
          · rw [if_neg c18] at H
            exact absurd H (by simp)
        · replace c17 := Bool.eq_false_iff.mpr c17
          subst c17
          have H1 : (none) = some r := by rw [if_neg (show ¬ (false = true) by decide)] at H; exact H
          clear H
          have H := H1
          clear H1
          exact absurd H (by simp)

end Go.Proofs.Ytooipbjdpajmmaa.Hn
