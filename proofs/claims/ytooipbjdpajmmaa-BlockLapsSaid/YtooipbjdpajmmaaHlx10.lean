/- Functions of the Go program as Lean functions, each with a proof that the call computes it. Conditions: none beyond each theorem's own. -/
import Derived.Test.YtooipbjdpajmmaaHlx0
import Derived.Test.YtooipbjdpajmmaaHlx9
namespace Go.Proofs.Ytooipbjdpajmmaa.Hl
open Go.RowKit Go.Proofs.YtooipbjdpajmmaaW.PrintWords Go.Proofs.YtooipbjdpajmmaaW.PrintLast Go.Proofs.YtooipbjdpajmmaaW.PrintMore
attribute [local go_sem] max2_int min2_int max_two min_two max_three min_three max_four min_four   -- for this text's walks alone
set_option linter.unusedVariables false
set_option linter.unusedSimpArgs false

/-! ### shawmref03_power: function 78 -/
def shawmref03_power.l0 : Nat → Int → Int → Int → Option (Bool)
  | 0, _, _, _ => none
  | k + 1, x0, x1, x5 => if x5 ≤ x1 then (if x0 = x5 then (some true) else (shawmref03_power.l0 k x0 x1 (wrap64 (x5 * 2)))) else (some false)
def shawmref03_power.f (k : Nat) (a0 : Int) (a1 : Int) : Option (Bool) := shawmref03_power.l0 k a0 a1 1
theorem shawmref03_power.mono_l : ∀ k, (∀ y0 y1 y2, LeO (shawmref03_power.l0 k y0 y1 y2) (shawmref03_power.l0 (k + 1) y0 y1 y2))
  | 0 => fun _ _ _ r h => by simp [shawmref03_power.l0] at h
  | k + 1 => by
    have ih0 := shawmref03_power.mono_l k
    · intro y0 y1 y2
      unfold shawmref03_power.l0
      repeat' first
      | (with_reducible exact ih0 _ _ _)
      | (with_reducible exact LeO.refl _)
      | (with_reducible exact LeO.none _)
      | (with_reducible refine LeO.ite ?_ ?_)
      | (with_reducible refine LeO.bind ?_ (fun _ => ?_))
      | exact ih0 _ _ _
      | exact LeO.none _
      | refine LeO.ite ?_ ?_
      | refine LeO.bind ?_ (fun _ => ?_)
theorem shawmref03_power.mono : ∀ a0 a1 k, LeO (shawmref03_power.f k a0 a1) (shawmref03_power.f (k + 1) a0 a1) := by
  intro a0 a1 k
  have ih0 := shawmref03_power.mono_l k
  unfold shawmref03_power.f
  repeat' first
      | (with_reducible exact ih0 _ _ _)
      | (with_reducible exact LeO.refl _)
      | (with_reducible exact LeO.none _)
      | (with_reducible refine LeO.ite ?_ ?_)
      | (with_reducible refine LeO.bind ?_ (fun _ => ?_))
      | exact ih0 _ _ _
      | exact LeO.none _
      | refine LeO.ite ?_ ?_
      | refine LeO.bind ?_ (fun _ => ?_)
set_option maxHeartbeats 8000000 in
set_option maxRecDepth 100000 in
theorem shawmref03_power.calls (k : Nat) (a0 : Int) (a1 : Int) (r : Bool) (w : World) (h : shawmref03_power.f k a0 a1 = some r) :
    Calls Try.prog 78 #[.int .i64 a0, .int .i64 a1] w fun e w' => e = .returned (.bool r) ∧ Drawn0 w w' := by
  have H : (shawmref03_power.l0 k a0 a1 1) = some r := h
  clear h
  have H' := Aside0.mk H
  clear H
  go_enter Try.func78, Try.ntmps78
  go_wp2
  go_loopg [5] k (fun kq v5 w' => ∃ (x5_1 : Int), v5 = .int .i64 x5_1 ∧ Aside0 (shawmref03_power.l0 kq a0 a1 x5_1 = some r) ∧ Aside0 (kq ≤ k) ∧ Drawn0 w w')
  case atStart => exact ⟨(1), (by first | rfl | (simp; done) | (simp [*]; done)), H', ⟨Nat.le_refl _⟩, by repeat (first | exact Drawn0.refl _ | apply Drawn0.step)⟩
  case round =>
    clear H'
    try clear p2
    obtain ⟨x5_1, rfl, HA, HK1, ⟨m1, rfl⟩⟩ := hrel
    cases gk with
    | zero => exact absurd HA.out (by simp [shawmref03_power.l0])
    | succ k1 =>
      have H := HA.out
      clear HA
      simp only [shawmref03_power.l0] at H
      by_cases c3 : x5_1 ≤ a1
      · rw [if_pos c3] at H
        have c3b0 : decide (x5_1 ≤ a1) = true := decide_eq_true c3
        clear c3
        by_cases c4 : a0 = x5_1
        · rw [if_pos c4] at H
          have c4b0 : (a0 == x5_1) = true := beq_iff_eq.mpr c4
          have c4b1 : (a0 != x5_1) = false := bne_eq_false_iff_eq.mpr c4
          clear c4
          obtain rfl := Option.some.inj H
          go_wp2
          go_ret
          exact ⟨by first | rfl | (simp; done) | (simp [*]; done), by repeat (first | exact Drawn0.refl _ | apply Drawn0.step)⟩
        · rw [if_neg c4] at H
          have c4b0 : (a0 == x5_1) = false := beq_eq_false_iff_ne.mpr c4
          have c4b1 : (a0 != x5_1) = true := bne_iff_ne.mpr c4
          have H' := Aside0.mk H
          clear H
          go_wp2
          go_roundg k1
          case measure => have := HK1.out; omega
          case rel => exact ⟨(wrap64 (x5_1 * 2)), (by first | rfl | (simp; done) | (simp [*]; done)), H', ⟨by have := HK1.out; omega⟩, by repeat (first | exact Drawn0.refl _ | apply Drawn0.step)⟩
      · rw [if_neg c3] at H
        have c3b0 : decide (x5_1 ≤ a1) = false := decide_eq_false c3
        clear c3
        obtain rfl := Option.some.inj H
        go_wp2
        go_ret
        exact ⟨by first | rfl | (simp; done) | (simp [*]; done), by repeat (first | exact Drawn0.refl _ | apply Drawn0.step)⟩

/-! ### shawmref03_angle: function 75 -/
def shawmref03_angle.f (k : Nat) (a0 : Int) (a1 : Int) : Option (Int) := (shawmref03_power.f k a1 16384).bind fun t143 => (if t143 = true then (if a0 < (-1099511627776) then (some 6) else (if a0 > 1099511627776 then (some 6) else (some 0))) else (some 1))
theorem shawmref03_angle.mono : ∀ a0 a1 k, LeO (shawmref03_angle.f k a0 a1) (shawmref03_angle.f (k + 1) a0 a1) := by
  intro a0 a1 k
  unfold shawmref03_angle.f
  repeat' first
      | (with_reducible exact shawmref03_power.mono _ _ _)
      | (with_reducible exact LeO.refl _)
      | (with_reducible exact LeO.none _)
      | (with_reducible refine LeO.ite ?_ ?_)
      | (with_reducible refine LeO.bind ?_ (fun _ => ?_))
      | exact shawmref03_power.mono _ _ _
      | exact LeO.none _
      | refine LeO.ite ?_ ?_
      | refine LeO.bind ?_ (fun _ => ?_)
set_option maxHeartbeats 8000000 in
set_option maxRecDepth 100000 in
theorem shawmref03_angle.calls (k : Nat) (a0 : Int) (a1 : Int) (r : Int) (w : World) (h : shawmref03_angle.f k a0 a1 = some r) :
    Calls Try.prog 75 #[.int .i64 a0, .int .i64 a1] w fun e w' => e = .returned (.int .i64 r) ∧ Drawn0 w w' := by
  have H : ((shawmref03_power.f k a1 16384).bind fun t143 => (if t143 = true then (if a0 < (-1099511627776) then (some 6) else (if a0 > 1099511627776 then (some 6) else (some 0))) else (some 1))) = some r := h
  clear h
  replace H := Option.bind_eq_some_iff.mp H
  obtain ⟨t143, A30, H⟩ := H
  replace H : (if t143 = true then (if a0 < (-1099511627776) then (some 6) else (if a0 > 1099511627776 then (some 6) else (some 0))) else (some 1)) = some r := H
  have A3 := Aside0.mk A30
  clear A30
  by_cases c4 : t143 = true
  · subst c4
    have H1 : (if a0 < (-1099511627776) then (some 6) else (if a0 > 1099511627776 then (some 6) else (some 0))) = some r := by rw [if_pos rfl] at H; exact H
    clear H
    have H := H1
    clear H1
    by_cases c5 : a0 < (-1099511627776)
    · rw [if_pos c5] at H
      have c5b0 : decide (a0 < (-1099511627776)) = true := decide_eq_true c5
      clear c5
      obtain rfl := Option.some.inj H
      go_enter Try.func75, Try.ntmps75
      go_wp2_with (first | ((with_reducible refine gate_callee (f := 78) rfl ?_); refine goesL_ (some 6) rfl rfl Try.func78 (by kernel_rfl) rfl #[.int .i64 a1, .int .i64 16384] rfl (by (try simp only [List.map_toArray, List.map_cons, List.map_nil]); first | done | rfl | (simp only [List.length_drop, List.length_take]; rfl)) ?_; (with_reducible refine (shawmref03_power.calls k a1 16384 true _ A3.out).mono ?_); rintro e w' ⟨rfl, ⟨nd, rfl⟩⟩; refine ⟨_, rfl, ?_⟩))
      go_ret
      exact ⟨by first | rfl | (simp; done) | (simp [*]; done), by repeat (first | exact Drawn0.refl _ | apply Drawn0.step)⟩
    · rw [if_neg c5] at H
      have c5b0 : decide (a0 < (-1099511627776)) = false := decide_eq_false c5
      clear c5
      by_cases c6 : a0 > 1099511627776
      · rw [if_pos c6] at H
        have c6b0 : decide (1099511627776 < a0) = true := decide_eq_true c6
        clear c6
        obtain rfl := Option.some.inj H
        go_enter Try.func75, Try.ntmps75
        go_wp2_with (first | ((with_reducible refine gate_callee (f := 78) rfl ?_); refine goesL_ (some 6) rfl rfl Try.func78 (by kernel_rfl) rfl #[.int .i64 a1, .int .i64 16384] rfl (by (try simp only [List.map_toArray, List.map_cons, List.map_nil]); first | done | rfl | (simp only [List.length_drop, List.length_take]; rfl)) ?_; (with_reducible refine (shawmref03_power.calls k a1 16384 true _ A3.out).mono ?_); rintro e w' ⟨rfl, ⟨nd, rfl⟩⟩; refine ⟨_, rfl, ?_⟩))
        go_ret
        exact ⟨by first | rfl | (simp; done) | (simp [*]; done), by repeat (first | exact Drawn0.refl _ | apply Drawn0.step)⟩
      · rw [if_neg c6] at H
        have c6b0 : decide (1099511627776 < a0) = false := decide_eq_false c6
        clear c6
        obtain rfl := Option.some.inj H
        go_enter Try.func75, Try.ntmps75
        go_wp2_with (first | ((with_reducible refine gate_callee (f := 78) rfl ?_); refine goesL_ (some 6) rfl rfl Try.func78 (by kernel_rfl) rfl #[.int .i64 a1, .int .i64 16384] rfl (by (try simp only [List.map_toArray, List.map_cons, List.map_nil]); first | done | rfl | (simp only [List.length_drop, List.length_take]; rfl)) ?_; (with_reducible refine (shawmref03_power.calls k a1 16384 true _ A3.out).mono ?_); rintro e w' ⟨rfl, ⟨nd, rfl⟩⟩; refine ⟨_, rfl, ?_⟩))
        go_ret
        exact ⟨by first | rfl | (simp; done) | (simp [*]; done), by repeat (first | exact Drawn0.refl _ | apply Drawn0.step)⟩
  · replace c4 := Bool.eq_false_iff.mpr c4
    subst c4
    have H1 : (some 1) = some r := by rw [if_neg (show ¬ (false = true) by decide)] at H; exact H
    clear H
    have H := H1
    clear H1
    obtain rfl := Option.some.inj H
    go_enter Try.func75, Try.ntmps75
    go_wp2_with (first | ((with_reducible refine gate_callee (f := 78) rfl ?_); refine goesL_ (some 6) rfl rfl Try.func78 (by kernel_rfl) rfl #[.int .i64 a1, .int .i64 16384] rfl (by (try simp only [List.map_toArray, List.map_cons, List.map_nil]); first | done | rfl | (simp only [List.length_drop, List.length_take]; rfl)) ?_; (with_reducible refine (shawmref03_power.calls k a1 16384 false _ A3.out).mono ?_); rintro e w' ⟨rfl, ⟨nd, rfl⟩⟩; refine ⟨_, rfl, ?_⟩))
    go_ret
    exact ⟨by first | rfl | (simp; done) | (simp [*]; done), by repeat (first | exact Drawn0.refl _ | apply Drawn0.step)⟩

/-! ### shawmref03_product: function 80 -/
def shawmref03_product.f (a0 : Int) (a1 : Int) : Option (Int) := some (wrap64 ((wrap64 ((wrap64 (Int.tdiv a0 1073741824)) * (wrap64 (Int.tdiv a1 1073741824)))) + (wrap64 (Int.tdiv (wrap64 ((wrap64 ((wrap64 ((wrap64 (Int.tdiv a0 1073741824)) * (Int.tmod a1 1073741824))) + (wrap64 ((Int.tmod a0 1073741824) * (wrap64 (Int.tdiv a1 1073741824)))))) + (wrap64 (Int.tdiv (wrap64 ((Int.tmod a0 1073741824) * (Int.tmod a1 1073741824))) 1073741824)))) 1073741824))))
set_option maxHeartbeats 8000000 in
set_option maxRecDepth 100000 in
theorem shawmref03_product.calls (a0 : Int) (a1 : Int) (r : Int) (w : World) (h : shawmref03_product.f a0 a1 = some r) :
    Calls Try.prog 80 #[.int .i64 a0, .int .i64 a1] w fun e w' => e = .returned (.int .i64 r) ∧ Drawn0 w w' := by
  have H : (some (wrap64 ((wrap64 ((wrap64 (Int.tdiv a0 1073741824)) * (wrap64 (Int.tdiv a1 1073741824)))) + (wrap64 (Int.tdiv (wrap64 ((wrap64 ((wrap64 ((wrap64 (Int.tdiv a0 1073741824)) * (Int.tmod a1 1073741824))) + (wrap64 ((Int.tmod a0 1073741824) * (wrap64 (Int.tdiv a1 1073741824)))))) + (wrap64 (Int.tdiv (wrap64 ((Int.tmod a0 1073741824) * (Int.tmod a1 1073741824))) 1073741824)))) 1073741824))))) = some r := h
  clear h
  obtain rfl := Option.some.inj H
  go_enter Try.func80, Try.ntmps80
  go_wp2
  go_ret
  exact ⟨by first | rfl | (simp; done) | (simp [*]; done), by repeat (first | exact Drawn0.refl _ | apply Drawn0.step)⟩

/-! ### shawmref03_series: function 79 -/
def shawmref03_series.l0 : Nat → Int → Int → Int → Int → Int → Option (Int)
  | 0, _, _, _, _, _ => none
  | k + 1, x1, x2, x7, x8, x9 => if x9 > 0 then ((shawmref03_product.f x9 x2).bind fun t144 => ((shawmref03_product.f t144 x2).bind fun t145 => (if (wrap64 ((wrap64 (x1 + 1)) * (wrap64 (x1 + 2)))) = 0 then (none) else (shawmref03_series.l0 k (wrap64 (x1 + 2)) x2 (wrap64 (x7 + (wrap64 (x8 * x9)))) (wrap64 (-x8)) (wrap64 (Int.tdiv t145 (wrap64 ((wrap64 (x1 + 1)) * (wrap64 (x1 + 2)))))))))) else (some x7)
def shawmref03_series.f (k : Nat) (a0 : Int) (a1 : Int) (a2 : Int) : Option (Int) := shawmref03_series.l0 k a1 a2 0 1 a0
theorem shawmref03_series.mono_l : ∀ k, (∀ y0 y1 y2 y3 y4, LeO (shawmref03_series.l0 k y0 y1 y2 y3 y4) (shawmref03_series.l0 (k + 1) y0 y1 y2 y3 y4))
  | 0 => fun _ _ _ _ _ r h => by simp [shawmref03_series.l0] at h
  | k + 1 => by
    have ih0 := shawmref03_series.mono_l k
    · intro y0 y1 y2 y3 y4
      unfold shawmref03_series.l0
      repeat' first
      | (with_reducible exact ih0 _ _ _ _ _)
      | (with_reducible exact LeO.refl _)
      | (with_reducible exact LeO.none _)
      | (with_reducible refine LeO.ite ?_ ?_)
      | (with_reducible refine LeO.bind ?_ (fun _ => ?_))
      | exact ih0 _ _ _ _ _
      | exact LeO.none _
      | refine LeO.ite ?_ ?_
      | refine LeO.bind ?_ (fun _ => ?_)
theorem shawmref03_series.mono : ∀ a0 a1 a2 k, LeO (shawmref03_series.f k a0 a1 a2) (shawmref03_series.f (k + 1) a0 a1 a2) := by
  intro a0 a1 a2 k
  have ih0 := shawmref03_series.mono_l k
  unfold shawmref03_series.f
  repeat' first
      | (with_reducible exact ih0 _ _ _ _ _)
      | (with_reducible exact LeO.refl _)
      | (with_reducible exact LeO.none _)
      | (with_reducible refine LeO.ite ?_ ?_)
      | (with_reducible refine LeO.bind ?_ (fun _ => ?_))
      | exact ih0 _ _ _ _ _
      | exact LeO.none _
      | refine LeO.ite ?_ ?_
      | refine LeO.bind ?_ (fun _ => ?_)
set_option maxHeartbeats 8000000 in
set_option maxRecDepth 100000 in
theorem shawmref03_series.calls (k : Nat) (a0 : Int) (a1 : Int) (a2 : Int) (r : Int) (w : World) (h : shawmref03_series.f k a0 a1 a2 = some r) :
    Calls Try.prog 79 #[.int .i64 a0, .int .i64 a1, .int .i64 a2] w fun e w' => e = .returned (.int .i64 r) ∧ Drawn0 w w' := by
  have H : (shawmref03_series.l0 k a1 a2 0 1 a0) = some r := h
  clear h
  have H' := Aside0.mk H
  clear H
  go_enter Try.func79, Try.ntmps79
  go_wp2
  go_loopg [1, 7, 8, 9] k (fun kq v1 v7 v8 v9 w' => ∃ (x1_1 : Int) (x7_1 : Int) (x8_1 : Int) (x9_1 : Int), v1 = .int .i64 x1_1 ∧ v7 = .int .i64 x7_1 ∧ v8 = .int .i64 x8_1 ∧ v9 = .int .i64 x9_1 ∧ Aside0 (shawmref03_series.l0 kq x1_1 a2 x7_1 x8_1 x9_1 = some r) ∧ Aside0 (kq ≤ k) ∧ Drawn0 w w')
  case atStart => exact ⟨(a1), (0), (1), (a0), (by first | rfl | (simp; done) | (simp [*]; done)), (by first | rfl | (simp; done) | (simp [*]; done)), (by first | rfl | (simp; done) | (simp [*]; done)), (by first | rfl | (simp; done) | (simp [*]; done)), H', ⟨Nat.le_refl _⟩, by repeat (first | exact Drawn0.refl _ | apply Drawn0.step)⟩
  case round =>
    clear H'
    try clear p2
    obtain ⟨x1_1, x7_1, x8_1, x9_1, rfl, rfl, rfl, rfl, HA, HK1, ⟨m1, rfl⟩⟩ := hrel
    cases gk with
    | zero => exact absurd HA.out (by simp [shawmref03_series.l0])
    | succ k1 =>
      have H := HA.out
      clear HA
      simp only [shawmref03_series.l0] at H
      by_cases c4 : x9_1 > 0
      · rw [if_pos c4] at H
        have c4b0 : decide (0 < x9_1) = true := decide_eq_true c4
        clear c4
        replace H := Option.bind_eq_some_iff.mp H
        obtain ⟨t144, A50, H⟩ := H
        replace H : ((shawmref03_product.f t144 a2).bind fun t145 => (if (wrap64 ((wrap64 (x1_1 + 1)) * (wrap64 (x1_1 + 2)))) = 0 then (none) else (shawmref03_series.l0 k1 (wrap64 (x1_1 + 2)) a2 (wrap64 (x7_1 + (wrap64 (x8_1 * x9_1)))) (wrap64 (-x8_1)) (wrap64 (Int.tdiv t145 (wrap64 ((wrap64 (x1_1 + 1)) * (wrap64 (x1_1 + 2))))))))) = some r := H
        have A5 := Aside0.mk A50
        clear A50
        replace H := Option.bind_eq_some_iff.mp H
        obtain ⟨t145, A60, H⟩ := H
        replace H : (if (wrap64 ((wrap64 (x1_1 + 1)) * (wrap64 (x1_1 + 2)))) = 0 then (none) else (shawmref03_series.l0 k1 (wrap64 (x1_1 + 2)) a2 (wrap64 (x7_1 + (wrap64 (x8_1 * x9_1)))) (wrap64 (-x8_1)) (wrap64 (Int.tdiv t145 (wrap64 ((wrap64 (x1_1 + 1)) * (wrap64 (x1_1 + 2)))))))) = some r := H
        have A6 := Aside0.mk A60
        clear A60
        by_cases c7 : (wrap64 ((wrap64 (x1_1 + 1)) * (wrap64 (x1_1 + 2)))) = 0
        · rw [if_pos c7] at H
          exact absurd H (by simp)
        · rw [if_neg c7] at H
          have c7b0 : ((wrap64 ((wrap64 (x1_1 + 1)) * (wrap64 (x1_1 + 2)))) == 0) = false := beq_eq_false_iff_ne.mpr c7
          have c7b1 : ((wrap64 ((wrap64 (x1_1 + 1)) * (wrap64 (x1_1 + 2)))) != 0) = true := bne_iff_ne.mpr c7
          have H' := Aside0.mk H
          clear H
          go_wp2_with (first | ((with_reducible refine gate_callee (f := 80) rfl ?_); refine goesL_ (some 24) rfl rfl Try.func80 (by kernel_rfl) rfl #[.int .i64 x9_1, .int .i64 a2] rfl (by (try simp only [List.map_toArray, List.map_cons, List.map_nil]); first | done | rfl | (simp only [List.length_drop, List.length_take]; rfl)) ?_; (with_reducible refine (shawmref03_product.calls x9_1 a2 t144 _ A5.out).mono ?_); rintro e w' ⟨rfl, ⟨nd, rfl⟩⟩; refine ⟨_, rfl, ?_⟩) | ((with_reducible refine gate_callee (f := 80) rfl ?_); refine goesL_ (some 26) rfl rfl Try.func80 (by kernel_rfl) rfl #[.int .i64 t144, .int .i64 a2] rfl (by (try simp only [List.map_toArray, List.map_cons, List.map_nil]); first | done | rfl | (simp only [List.length_drop, List.length_take]; rfl)) ?_; (with_reducible refine (shawmref03_product.calls t144 a2 t145 _ A6.out).mono ?_); rintro e w' ⟨rfl, ⟨nd, rfl⟩⟩; refine ⟨_, rfl, ?_⟩))
          go_roundg k1
          case measure => have := HK1.out; omega
          case rel => exact ⟨(wrap64 (x1_1 + 2)), (wrap64 (x7_1 + (wrap64 (x8_1 * x9_1)))), (wrap64 (-x8_1)), (wrap64 (Int.tdiv t145 (wrap64 ((wrap64 (x1_1 + 1)) * (wrap64 (x1_1 + 2)))))), (by first | rfl | (simp; done) | (simp [*]; done)), (by first | rfl | (simp; done) | (simp [*]; done)), (by first | rfl | (simp; done) | (simp [*]; done)), (by first | rfl | (simp; done) | (simp [*]; done)), H', ⟨by have := HK1.out; omega⟩, by repeat (first | exact Drawn0.refl _ | apply Drawn0.step)⟩
      · rw [if_neg c4] at H
        have c4b0 : decide (0 < x9_1) = false := decide_eq_false c4
        clear c4
        obtain rfl := Option.some.inj H
        go_wp2
        go_ret
        exact ⟨by first | rfl | (simp; done) | (simp [*]; done), by repeat (first | exact Drawn0.refl _ | apply Drawn0.step)⟩

/-! ### shawmref03_circle: function 76 (by hand) -/
/-- The number of the eighth. -/
def shawmref03_circle.o (d t : Int) : Int := 8 * t / d
/-- What is left within the eighth, from its lower or its upper end. -/
def shawmref03_circle.r (d t : Int) : Int := if 8 * t / d % 2 = 1 then d - 8 * t % d else 8 * t % d
/-- The angle. -/
def shawmref03_circle.x (d r : Int) : Int := 905502432259640355 / d * r + 905502432259640355 % d * r / d
/-- Sine and cosine of the eighth o. -/
def shawmref03_circle.q (o s c : Int) : Int × Int :=
  if o = 0 then (s, c) else if o = 1 then (c, s) else if o = 2 then (c, wrap64 (-s)) else if o = 3 then (s, wrap64 (-c)) else
  if o = 4 then (wrap64 (-s), wrap64 (-c)) else if o = 5 then (wrap64 (-c), wrap64 (-s)) else if o = 6 then (wrap64 (-c), s) else (wrap64 (-s), c)
def shawmref03_circle.c (k : Nat) (d t : Int) : Option (Int × Int) := (shawmref03_series.f k (shawmref03_circle.x d (shawmref03_circle.r d t)) 1 (shawmref03_circle.x d (shawmref03_circle.r d t))).bind fun s => (shawmref03_series.f k 1152921504606846976 0 (shawmref03_circle.x d (shawmref03_circle.r d t))).bind fun c => some (shawmref03_circle.q (shawmref03_circle.o d t) s c)
def shawmref03_circle.f (k : Nat) (a0 : Int) (a1 : Int) : Option (Int × Int) := (shawmref03_Down.f a0 a1).bind fun g =>
  if (1 ≤ a1 ∧ a1 ≤ 1048576) ∧ (0 ≤ a0 - g * a1 ∧ a0 - g * a1 < a1) ∧ (-1099511627776 ≤ a0 ∧ a0 ≤ 1099511627776) then shawmref03_circle.c k a1 (a0 - g * a1) else none
theorem shawmref03_circle.mono : ∀ a0 a1 k, LeO (shawmref03_circle.f k a0 a1) (shawmref03_circle.f (k + 1) a0 a1) := by
  intro a0 a1 k
  unfold shawmref03_circle.f shawmref03_circle.c
  repeat' first
      | (with_reducible exact shawmref03_series.mono _ _ _ _)
      | (with_reducible exact LeO.refl _)
      | (with_reducible exact LeO.none _)
      | (with_reducible refine LeO.ite ?_ ?_)
      | (with_reducible refine LeO.bind ?_ (fun _ => ?_))
      | exact shawmref03_series.mono _ _ _ _
      | exact LeO.none _
      | refine LeO.ite ?_ ?_
      | refine LeO.bind ?_ (fun _ => ?_)
theorem shawmref03_circle.x_in {d r : Int} (hd : 1 ≤ d ∧ d ≤ 1048576) (hr : 0 ≤ r ∧ r ≤ d) : (0 ≤ 905502432259640355 / d * r ∧ 905502432259640355 / d * r ≤ 905502432259640355) ∧ (0 ≤ 905502432259640355 % d * r ∧ 905502432259640355 % d * r ≤ 1099511627776) ∧ (0 ≤ 905502432259640355 % d * r / d ∧ 905502432259640355 % d * r / d ≤ 1099511627776) := by
  have h1 : 0 ≤ 905502432259640355 / d := Int.ediv_nonneg (by omega) (by omega)
  have h2 : 905502432259640355 / d * d ≤ 905502432259640355 := Int.ediv_mul_le _ (by omega)
  have h3 : 905502432259640355 / d * r ≤ 905502432259640355 / d * d := Int.mul_le_mul_of_nonneg_left hr.2 h1
  have h4 := Int.emod_nonneg 905502432259640355 (show d ≠ 0 by omega)
  have h5 := Int.emod_lt_of_pos 905502432259640355 (show 0 < d by omega)
  generalize 905502432259640355 % d = e at *
  have h6 : e * r ≤ 1048576 * 1048576 := Int.mul_le_mul (by omega) (by omega) hr.1 (by omega)
  have h7 : 0 ≤ e * r := Int.mul_nonneg h4 hr.1
  have h8 : 0 ≤ e * r / d := Int.ediv_nonneg h7 (by omega)
  have h9 : e * r / d ≤ e * r := Int.ediv_le_self _ h7
  exact ⟨⟨Int.mul_nonneg h1 hr.1, by omega⟩, ⟨h7, by omega⟩, ⟨h8, by omega⟩⟩
set_option maxHeartbeats 8000000 in
set_option maxRecDepth 100000 in
theorem shawmref03_circle.calls (k : Nat) (a0 : Int) (a1 : Int) (r1 : Int) (r2 : Int) (w : World) (h : shawmref03_circle.f k a0 a1 = some (r1, r2)) :
    Calls Try.prog 76 #[.int .i64 a0, .int .i64 a1] w fun e w' => e = .returned (.tuple #[.int .i64 r1, .int .i64 r2]) ∧ Drawn0 w w' := by
  unfold shawmref03_circle.f at h
  obtain ⟨g, hg, h⟩ := Option.bind_eq_some_iff.mp h
  have HG := Aside0.mk hg
  clear hg
  split at h
  case isFalse => cases h
  rename_i hc
  obtain ⟨⟨d1, d2⟩, ⟨t1, t2⟩, ⟨n1, n2⟩⟩ := hc
  obtain ⟨G, hG⟩ : ∃ G, G = g * a1 := ⟨_, rfl⟩
  rw [← hG] at t1 t2 h
  obtain ⟨t, ht⟩ : ∃ t, t = a0 - G := ⟨_, rfl⟩
  rw [← ht] at t1 t2 h
  unfold shawmref03_circle.c at h
  obtain ⟨s, hs, h⟩ := Option.bind_eq_some_iff.mp h
  obtain ⟨c, hcc, h⟩ := Option.bind_eq_some_iff.mp h
  have ho0 : 0 ≤ 8 * t / a1 := Int.ediv_nonneg (by omega) (by omega)
  have ho1 : 8 * t / a1 < 8 := Int.ediv_lt_of_lt_mul (by omega) (by omega)
  have hr0 : 0 ≤ 8 * t % a1 := Int.emod_nonneg _ (by omega)
  have hr1 : 8 * t % a1 < a1 := Int.emod_lt_of_pos _ (by omega)
  have hq : (8 * t).tdiv a1 = 8 * t / a1 := Int.tdiv_eq_ediv_of_nonneg (by omega)
  have hm : (8 * t).tmod a1 = 8 * t % a1 := Int.tmod_eq_emod_of_nonneg (by omega)
  have hwG : IntKind.i64.wrap (g * a1) = G := by rw [← hG]; exact IntWalk.i64_in _ (by omega)
  have hwt : IntKind.i64.wrap (a0 - G) = t := by rw [← ht]; exact IntWalk.i64_in _ (by omega)
  obtain ⟨e, he⟩ : ∃ e, e = 8 * t := ⟨_, rfl⟩
  have hwe : IntKind.i64.wrap (8 * t) = e := by rw [← he]; exact IntWalk.i64_in _ (by omega)
  have hR : 0 ≤ shawmref03_circle.r a1 t ∧ shawmref03_circle.r a1 t ≤ a1 := by unfold shawmref03_circle.r; split <;> omega
  have hX := shawmref03_circle.x_in ⟨d1, d2⟩ hR
  obtain ⟨hX1, hX2, hX3⟩ := hX
  have hz : a1 ≠ 0 := by omega
  have hz0 : (a1 == 0) = false := beq_eq_false_iff_ne.mpr hz
  have hz1 : (a1 != 0) = true := bne_iff_ne.mpr hz
  obtain ⟨R, hRe⟩ : ∃ R, R = shawmref03_circle.r a1 t := ⟨_, rfl⟩
  rw [← hRe] at hR hX1 hX2 hX3 hs hcc
  obtain ⟨Q, hQ0⟩ : ∃ Q, 905502432259640355 / a1 = Q := ⟨_, rfl⟩
  obtain ⟨E, hE0⟩ : ∃ E, 905502432259640355 % a1 = E := ⟨_, rfl⟩
  have hQ9 : 0 ≤ Q ∧ Q ≤ 905502432259640355 := by rw [← hQ0]; exact ⟨Int.ediv_nonneg (by omega) (by omega), Int.ediv_le_self _ (by omega)⟩
  have hQ1 : Int.tdiv 905502432259640355 a1 = Q := by rw [← hQ0]; exact Int.tdiv_eq_ediv_of_nonneg (by omega)
  have hE1 : Int.tmod 905502432259640355 a1 = E := by rw [← hE0]; exact Int.tmod_eq_emod_of_nonneg (by omega)
  unfold shawmref03_circle.x at hs hcc
  rw [hQ0] at hX1 hs hcc
  rw [hE0] at hX2 hX3 hs hcc
  obtain ⟨U, hU⟩ : ∃ U, Q * R = U := ⟨_, rfl⟩
  obtain ⟨V, hV⟩ : ∃ V, E * R = V := ⟨_, rfl⟩
  rw [hU] at hX1 hs hcc
  rw [hV] at hX2 hX3 hs hcc
  obtain ⟨Z, hZ⟩ : ∃ Z, V / a1 = Z := ⟨_, rfl⟩
  rw [hZ] at hX3 hs hcc
  have hZ1 : Int.tdiv V a1 = Z := by rw [← hZ]; exact Int.tdiv_eq_ediv_of_nonneg hX2.1
  obtain ⟨X, hXe⟩ : ∃ X, U + Z = X := ⟨_, rfl⟩
  rw [hXe] at hs hcc
  have wQ : IntKind.i64.wrap Q = Q := IntWalk.i64_in _ (by omega)
  have wU : IntKind.i64.wrap (Q * R) = U := by rw [hU]; exact IntWalk.i64_in _ (by omega)
  have wV : IntKind.i64.wrap (E * R) = V := by rw [hV]; exact IntWalk.i64_in _ (by omega)
  have wZ : IntKind.i64.wrap Z = Z := IntWalk.i64_in _ (by omega)
  have wX : IntKind.i64.wrap (U + Z) = X := by rw [hXe]; exact IntWalk.i64_in _ (by omega)
  have HS := Aside0.mk hs
  have HCC := Aside0.mk hcc
  unfold shawmref03_circle.r at hRe
  unfold shawmref03_circle.o at h
  obtain ⟨m, hm0⟩ : ∃ m, m = 8 * t % a1 := ⟨_, rfl⟩
  rw [← hm0] at hRe hm hr0 hr1
  have wR : IntKind.i64.wrap (a1 - m) = a1 - m := IntWalk.i64_in _ (by omega)
  obtain ⟨o, hoe⟩ : ∃ o, o = 8 * t / a1 := ⟨_, rfl⟩
  rw [← hoe] at hRe hq ho0 ho1 h
  rw [← he] at hq hm
  clear hs hcc hm0 hoe hX1 hX2 hX3 hU hV hZ hXe hG ht he hR hr0 hr1 hQ9 t1 t2 n1 n2 d1 d2
  have h8 : o = 0 ∨ o = 1 ∨ o = 2 ∨ o = 3 ∨ o = 4 ∨ o = 5 ∨ o = 6 ∨ o = 7 := by omega
  have wo : IntKind.i64.wrap o = o := IntWalk.i64_in _ (by omega)
  clear ho0 ho1
  rcases h8 with rfl | rfl | rfl | rfl | rfl | rfl | rfl | rfl
  all_goals
    simp only [shawmref03_circle.q, Option.some.injEq, Prod.mk.injEq, if_true, if_false, reduceIte, Int.reduceEq, Int.reduceMod] at h hRe
    obtain ⟨rfl, rfl⟩ := h
    subst hRe
    go_enter Try.func76, Try.ntmps76
    go_wp2_with (go_at_call 70; with_reducible refine (shawmref03_Down.calls a0 a1 g _ HG.out).mono ?_; rintro e w' ⟨rfl, ⟨nd, rfl⟩⟩)
    go_quiet ((skip))
    go_wp2
    go_quiet ((skip))
    clear wQ wU wV wZ hQ0 hQ1 hE0 hE1 hZ1
    go_wp2_with (first
      | (go_at_call 79; with_reducible refine (shawmref03_series.calls k X 1 X s _ HS.out).mono ?_; rintro e w' ⟨rfl, ⟨nd, rfl⟩⟩)
      | (go_at_call 79; with_reducible refine (shawmref03_series.calls k 1152921504606846976 0 X c _ HCC.out).mono ?_; rintro e w' ⟨rfl, ⟨nd, rfl⟩⟩))
    go_ret2
    exact ⟨rfl, by repeat (first | exact Drawn0.refl _ | apply Drawn0.step)⟩

end Go.Proofs.Ytooipbjdpajmmaa.Hl
