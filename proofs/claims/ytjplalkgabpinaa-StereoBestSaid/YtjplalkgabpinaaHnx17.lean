/- The machine's side of laws of the seat Ytjplalkgabpinaa, printed by a program of this session over the kit's printer: functions of the Go program as Lean functions, each with a proof that the call computes it. Conditions: none beyond each theorem's own. -/
import Derived.Test.YtjplalkgabpinaaHnx0
import Derived.Test.YtjplalkgabpinaaHnx5
import Derived.Test.YtjplalkgabpinaaHnx6
import Derived.Test.YtjplalkgabpinaaHnx8
import Derived.Test.YtjplalkgabpinaaHnx9
import Derived.Test.YtjplalkgabpinaaHnx11
import Derived.Test.YtjplalkgabpinaaHnx16
namespace Go.Proofs.Ytjplalkgabpinaa.Hn
open Go.RowKit Go.Proofs.YtjplalkgabpinaaW.PrintWords Go.Proofs.YtjplalkgabpinaaW.PrintLast Go.Proofs.YtjplalkgabpinaaW.PrintMore
attribute [local go_sem] max2_int min2_int max_two min_two max_three min_three max_four min_four   -- for this text's walks alone
set_option linter.unusedVariables false
set_option linter.unusedSimpArgs false

/-! ### shawmlaw13_StereoSame: function 8 -/
mutual
def shawmlaw13_StereoSame.j0 : Nat → List Int → List Int → Bool → Option (Bool)
  | 0, _, _, _ => none
  | k + 1, x0, x1, x29 => if x29 = true then ((shawmlaw13_awake.f).bind fun t212 => (some t212)) else ((stereo_Choose.f k x0 x0 x1).bind fun bt213 => ((stereo_Cross.f x0 x0 x1).bind fun bt217 => ((stereo_Couple.f x0 x0 x1 bt213.1).bind fun bt221 => (if bt213.2 = 0 then (if bt217.2 = 0 then (if bt221.2.2 = 0 then (if (bt213.1.length : Int) = (x1.length : Int) then (if (bt217.1.length : Int) = (x1.length : Int) then (shawmlaw13_StereoSame.j1 k x0 x1 bt213.1 bt217.1 bt221.1 bt221.2.1 ((bt221.2.1.length : Int) != 128)) else (shawmlaw13_StereoSame.j1 k x0 x1 bt213.1 bt217.1 bt221.1 bt221.2.1 true)) else (shawmlaw13_StereoSame.j1 k x0 x1 bt213.1 bt217.1 bt221.1 bt221.2.1 true)) else (shawmlaw13_StereoSame.j1 k x0 x1 bt213.1 bt217.1 bt221.1 bt221.2.1 true)) else (shawmlaw13_StereoSame.j1 k x0 x1 bt213.1 bt217.1 bt221.1 bt221.2.1 true)) else (shawmlaw13_StereoSame.j1 k x0 x1 bt213.1 bt217.1 bt221.1 bt221.2.1 true)))))
def shawmlaw13_StereoSame.j1 : Nat → List Int → List Int → List Bool → List Int → List Int → List Int → Bool → Option (Bool)
  | 0, _, _, _, _, _, _, _ => none
  | k + 1, x0, x1, x5, x7, x9, x10, x82 => if x82 = true then (none) else (shawmlaw13_StereoSame.l0 k x0 x5 x7 x9 x10 0 x1 (x1.length : Int) 0)
def shawmlaw13_StereoSame.l0 : Nat → List Int → List Bool → List Int → List Int → List Int → Int → List Int → Int → Int → Option (Bool)
  | 0, _, _, _, _, _, _, _, _, _ => none
  | k + 1, x0, x5, x7, x9, x10, x12, x83, x84, x85 => if x85 < x84 then (if 0 ≤ x85 then (if x85 < (x83.length : Int) then (shawmlaw13_StereoSame.l1 k x0 x5 x7 x9 x10 x12 x85 (rd x83 x85) false x12 x83 x84 x85) else (none)) else (none)) else ((shawmref02_Ints.f k x9 x0).bind fun t228 => (if t228 = true then ((shawmlaw13_awake.f).bind fun t229 => (some t229)) else (none)))
def shawmlaw13_StereoSame.l1 : Nat → List Int → List Bool → List Int → List Int → List Int → Int → Int → Int → Bool → Int → List Int → Int → Int → Option (Bool)
  | 0, _, _, _, _, _, _, _, _, _, _, _, _, _ => none
  | k + 1, x0, x5, x7, x9, x10, x12, x13, x14, x15, x16, x83, x84, x85 => if x16 < (wrap64 (x12 + x14)) then (if x15 = true then (if 0 ≤ x13 then (if x13 < (x5.length : Int) then (if rdOf false x5 x13 = true then (if 0 ≤ x16 then (if x16 < (x10.length : Int) then (if (rd x10 x16) = 0 then (shawmlaw13_StereoSame.l1 k x0 x5 x7 x9 x10 x12 x13 x14 true (wrap64 (x16 + 1)) x83 x84 x85) else (none)) else (none)) else (none)) else (shawmlaw13_StereoSame.l1 k x0 x5 x7 x9 x10 x12 x13 x14 true (wrap64 (x16 + 1)) x83 x84 x85)) else (none)) else (none)) else (if 0 ≤ x16 then (if x16 < (x0.length : Int) then (if 0 ≤ x13 then (if x13 < (x5.length : Int) then (if rdOf false x5 x13 = true then (if x16 < (x10.length : Int) then (if (rd x10 x16) = 0 then (shawmlaw13_StereoSame.l1 k x0 x5 x7 x9 x10 x12 x13 x14 ((rd x0 x16) != 0) (wrap64 (x16 + 1)) x83 x84 x85) else (none)) else (none)) else (shawmlaw13_StereoSame.l1 k x0 x5 x7 x9 x10 x12 x13 x14 ((rd x0 x16) != 0) (wrap64 (x16 + 1)) x83 x84 x85)) else (none)) else (none)) else (none)) else (none))) else (if 0 ≤ x13 then (if x13 < (x5.length : Int) then (if ((rdOf false x5 x13) != x15) = true then (none) else (if x15 = true then (if x13 < (x7.length : Int) then (if (rd x7 x13) = 256 then (shawmlaw13_StereoSame.l0 k x0 x5 x7 x9 x10 (wrap64 (x12 + x14)) x83 x84 (wrap64 (x85 + 1))) else (none)) else (none)) else (if x13 < (x7.length : Int) then (if (rd x7 x13) = 0 then (shawmlaw13_StereoSame.l0 k x0 x5 x7 x9 x10 (wrap64 (x12 + x14)) x83 x84 (wrap64 (x85 + 1))) else (none)) else (none)))) else (none)) else (none))
end
def shawmlaw13_StereoSame.f (k : Nat) (l0 : List Int) (l1 : List Int) : Option (Bool) := if (l0.length : Int) = 128 then ((shawmref06_Within.f k 2097152 l0).bind fun t210 => (if t210 = true then ((shawmref13_Widths.f k l1).bind fun t211 => (shawmlaw13_StereoSame.j0 k l0 l1 (!t211))) else (shawmlaw13_StereoSame.j0 k l0 l1 true))) else (shawmlaw13_StereoSame.j0 k l0 l1 true)
theorem shawmlaw13_StereoSame.mono_l : ∀ k, (∀ y0 y1 y2, LeO (shawmlaw13_StereoSame.j0 k y0 y1 y2) (shawmlaw13_StereoSame.j0 (k + 1) y0 y1 y2)) ∧ (∀ y0 y1 y2 y3 y4 y5 y6, LeO (shawmlaw13_StereoSame.j1 k y0 y1 y2 y3 y4 y5 y6) (shawmlaw13_StereoSame.j1 (k + 1) y0 y1 y2 y3 y4 y5 y6)) ∧ (∀ y0 y1 y2 y3 y4 y5 y6 y7 y8, LeO (shawmlaw13_StereoSame.l0 k y0 y1 y2 y3 y4 y5 y6 y7 y8) (shawmlaw13_StereoSame.l0 (k + 1) y0 y1 y2 y3 y4 y5 y6 y7 y8)) ∧ (∀ y0 y1 y2 y3 y4 y5 y6 y7 y8 y9 y10 y11 y12, LeO (shawmlaw13_StereoSame.l1 k y0 y1 y2 y3 y4 y5 y6 y7 y8 y9 y10 y11 y12) (shawmlaw13_StereoSame.l1 (k + 1) y0 y1 y2 y3 y4 y5 y6 y7 y8 y9 y10 y11 y12))
  | 0 => ⟨fun _ _ _ r h => by simp [shawmlaw13_StereoSame.j0] at h, fun _ _ _ _ _ _ _ r h => by simp [shawmlaw13_StereoSame.j1] at h, fun _ _ _ _ _ _ _ _ _ r h => by simp [shawmlaw13_StereoSame.l0] at h, fun _ _ _ _ _ _ _ _ _ _ _ _ _ r h => by simp [shawmlaw13_StereoSame.l1] at h⟩
  | k + 1 => by
    obtain ⟨ih0, ih1, ih2, ih3⟩ := shawmlaw13_StereoSame.mono_l k
    refine ⟨?_, ?_, ?_, ?_⟩
    · intro y0 y1 y2
      unfold shawmlaw13_StereoSame.j0
      repeat' first
      | (with_reducible exact ih0 _ _ _)
      | (with_reducible exact ih1 _ _ _ _ _ _ _)
      | (with_reducible exact ih2 _ _ _ _ _ _ _ _ _)
      | (with_reducible exact ih3 _ _ _ _ _ _ _ _ _ _ _ _ _)
      | (with_reducible exact shawmref02_Ints.mono _ _ _)
      | (with_reducible exact shawmref06_Within.mono _ _ _)
      | (with_reducible exact shawmref13_Widths.mono _ _)
      | (with_reducible exact stereo_Choose.mono _ _ _ _)
      | (with_reducible exact LeO.refl _)
      | (with_reducible exact LeO.none _)
      | (with_reducible refine LeO.ite ?_ ?_)
      | (with_reducible refine LeO.bind ?_ (fun _ => ?_))
      | exact ih0 _ _ _
      | exact ih1 _ _ _ _ _ _ _
      | exact ih2 _ _ _ _ _ _ _ _ _
      | exact ih3 _ _ _ _ _ _ _ _ _ _ _ _ _
      | exact shawmref02_Ints.mono _ _ _
      | exact shawmref06_Within.mono _ _ _
      | exact shawmref13_Widths.mono _ _
      | exact stereo_Choose.mono _ _ _ _
      | exact LeO.none _
      | refine LeO.ite ?_ ?_
      | refine LeO.bind ?_ (fun _ => ?_)
    · intro y0 y1 y2 y3 y4 y5 y6
      unfold shawmlaw13_StereoSame.j1
      repeat' first
      | (with_reducible exact ih0 _ _ _)
      | (with_reducible exact ih1 _ _ _ _ _ _ _)
      | (with_reducible exact ih2 _ _ _ _ _ _ _ _ _)
      | (with_reducible exact ih3 _ _ _ _ _ _ _ _ _ _ _ _ _)
      | (with_reducible exact shawmref02_Ints.mono _ _ _)
      | (with_reducible exact shawmref06_Within.mono _ _ _)
      | (with_reducible exact shawmref13_Widths.mono _ _)
      | (with_reducible exact stereo_Choose.mono _ _ _ _)
      | (with_reducible exact LeO.refl _)
      | (with_reducible exact LeO.none _)
      | (with_reducible refine LeO.ite ?_ ?_)
      | (with_reducible refine LeO.bind ?_ (fun _ => ?_))
      | exact ih0 _ _ _
      | exact ih1 _ _ _ _ _ _ _
      | exact ih2 _ _ _ _ _ _ _ _ _
      | exact ih3 _ _ _ _ _ _ _ _ _ _ _ _ _
      | exact shawmref02_Ints.mono _ _ _
      | exact shawmref06_Within.mono _ _ _
      | exact shawmref13_Widths.mono _ _
      | exact stereo_Choose.mono _ _ _ _
      | exact LeO.none _
      | refine LeO.ite ?_ ?_
      | refine LeO.bind ?_ (fun _ => ?_)
    · intro y0 y1 y2 y3 y4 y5 y6 y7 y8
      unfold shawmlaw13_StereoSame.l0
      repeat' first
      | (with_reducible exact ih0 _ _ _)
      | (with_reducible exact ih1 _ _ _ _ _ _ _)
      | (with_reducible exact ih2 _ _ _ _ _ _ _ _ _)
      | (with_reducible exact ih3 _ _ _ _ _ _ _ _ _ _ _ _ _)
      | (with_reducible exact shawmref02_Ints.mono _ _ _)
      | (with_reducible exact shawmref06_Within.mono _ _ _)
      | (with_reducible exact shawmref13_Widths.mono _ _)
      | (with_reducible exact stereo_Choose.mono _ _ _ _)
      | (with_reducible exact LeO.refl _)
      | (with_reducible exact LeO.none _)
      | (with_reducible refine LeO.ite ?_ ?_)
      | (with_reducible refine LeO.bind ?_ (fun _ => ?_))
      | exact ih0 _ _ _
      | exact ih1 _ _ _ _ _ _ _
      | exact ih2 _ _ _ _ _ _ _ _ _
      | exact ih3 _ _ _ _ _ _ _ _ _ _ _ _ _
      | exact shawmref02_Ints.mono _ _ _
      | exact shawmref06_Within.mono _ _ _
      | exact shawmref13_Widths.mono _ _
      | exact stereo_Choose.mono _ _ _ _
      | exact LeO.none _
      | refine LeO.ite ?_ ?_
      | refine LeO.bind ?_ (fun _ => ?_)
    · intro y0 y1 y2 y3 y4 y5 y6 y7 y8 y9 y10 y11 y12
      unfold shawmlaw13_StereoSame.l1
      repeat' first
      | (with_reducible exact ih0 _ _ _)
      | (with_reducible exact ih1 _ _ _ _ _ _ _)
      | (with_reducible exact ih2 _ _ _ _ _ _ _ _ _)
      | (with_reducible exact ih3 _ _ _ _ _ _ _ _ _ _ _ _ _)
      | (with_reducible exact shawmref02_Ints.mono _ _ _)
      | (with_reducible exact shawmref06_Within.mono _ _ _)
      | (with_reducible exact shawmref13_Widths.mono _ _)
      | (with_reducible exact stereo_Choose.mono _ _ _ _)
      | (with_reducible exact LeO.refl _)
      | (with_reducible exact LeO.none _)
      | (with_reducible refine LeO.ite ?_ ?_)
      | (with_reducible refine LeO.bind ?_ (fun _ => ?_))
      | exact ih0 _ _ _
      | exact ih1 _ _ _ _ _ _ _
      | exact ih2 _ _ _ _ _ _ _ _ _
      | exact ih3 _ _ _ _ _ _ _ _ _ _ _ _ _
      | exact shawmref02_Ints.mono _ _ _
      | exact shawmref06_Within.mono _ _ _
      | exact shawmref13_Widths.mono _ _
      | exact stereo_Choose.mono _ _ _ _
      | exact LeO.none _
      | refine LeO.ite ?_ ?_
      | refine LeO.bind ?_ (fun _ => ?_)
theorem shawmlaw13_StereoSame.mono : ∀ a0 a1 k, LeO (shawmlaw13_StereoSame.f k a0 a1) (shawmlaw13_StereoSame.f (k + 1) a0 a1) := by
  intro a0 a1 k
  obtain ⟨ih0, ih1, ih2, ih3⟩ := shawmlaw13_StereoSame.mono_l k
  unfold shawmlaw13_StereoSame.f
  repeat' first
      | (with_reducible exact ih0 _ _ _)
      | (with_reducible exact ih1 _ _ _ _ _ _ _)
      | (with_reducible exact ih2 _ _ _ _ _ _ _ _ _)
      | (with_reducible exact ih3 _ _ _ _ _ _ _ _ _ _ _ _ _)
      | (with_reducible exact shawmref02_Ints.mono _ _ _)
      | (with_reducible exact shawmref06_Within.mono _ _ _)
      | (with_reducible exact shawmref13_Widths.mono _ _)
      | (with_reducible exact stereo_Choose.mono _ _ _ _)
      | (with_reducible exact LeO.refl _)
      | (with_reducible exact LeO.none _)
      | (with_reducible refine LeO.ite ?_ ?_)
      | (with_reducible refine LeO.bind ?_ (fun _ => ?_))
      | exact ih0 _ _ _
      | exact ih1 _ _ _ _ _ _ _
      | exact ih2 _ _ _ _ _ _ _ _ _
      | exact ih3 _ _ _ _ _ _ _ _ _ _ _ _ _
      | exact shawmref02_Ints.mono _ _ _
      | exact shawmref06_Within.mono _ _ _
      | exact shawmref13_Widths.mono _ _
      | exact stereo_Choose.mono _ _ _ _
      | exact LeO.none _
      | refine LeO.ite ?_ ?_
      | refine LeO.bind ?_ (fun _ => ?_)
set_option maxHeartbeats 8000000 in
set_option maxRecDepth 100000 in
theorem shawmlaw13_StereoSame.calls (k : Nat) (A0 : Option Addr) (c0 : Nat) (l0 : List Int) (A1 : Option Addr) (c1 : Nat) (l1 : List Int) (r : Bool) (w : World) (hr0 : Kd.C (Kd.int .i64) w A0 l0.length l0) (hc0 : l0.length ≤ c0) (hr1 : Kd.C (Kd.int .i64) w A1 l1.length l1) (hc1 : l1.length ≤ c1) (h : shawmlaw13_StereoSame.f k l0 l1 = some r) :
    Calls Try.prog 8 #[.slice A0 l0.length c0, .slice A1 l1.length c1] w fun e w' => e = .returned (.bool r) ∧ Below w.heap.size w w' := by
  have HR0 := Aside0.mk hr0
  have HC0 := Aside0.mk hc0
  clear hr0 hc0
  have HR1 := Aside0.mk hr1
  have HC1 := Aside0.mk hc1
  clear hr1 hc1
  have HB := Aside0.mk (Below.refl w.heap.size w)
  have H : (if (l0.length : Int) = 128 then ((shawmref06_Within.f k 2097152 l0).bind fun t210 => (if t210 = true then ((shawmref13_Widths.f k l1).bind fun t211 => (shawmlaw13_StereoSame.j0 k l0 l1 (!t211))) else (shawmlaw13_StereoSame.j0 k l0 l1 true))) else (shawmlaw13_StereoSame.j0 k l0 l1 true)) = some r := h
  clear h
  have HC3 := Aside0.mk H
  clear H
  go_enter Try.func8, Try.ntmps8
  go_upto_region 1 with (fail)
  go_cut [29] (fun v29 wc => ∃ (kq : Nat) (x29_2 : Bool), v29 = .bool x29_2 ∧ Aside0 (shawmlaw13_StereoSame.j0 kq l0 l1 x29_2 = some r) ∧ Aside0 (kq ≤ k) ∧ Aside0 (Below w.heap.size w wc))
  case first =>
    have H := HC3.out
    clear HC3
    by_cases c4 : (l0.length : Int) = 128
    · rw [if_pos c4] at H
      have c4b0 : ((l0.length : Int) == 128) = true := beq_iff_eq.mpr c4
      have c4b1 : ((l0.length : Int) != 128) = false := bne_eq_false_iff_eq.mpr c4
      clear c4
      (first | rw [c4b0] | (simp only [i64_w, i32_w]; rw [c4b0]) | skip)
      replace H := Option.bind_eq_some_iff.mp H
      obtain ⟨t210, A50, H⟩ := H
      replace H : (if t210 = true then ((shawmref13_Widths.f k l1).bind fun t211 => (shawmlaw13_StereoSame.j0 k l0 l1 (!t211))) else (shawmlaw13_StereoSame.j0 k l0 l1 true)) = some r := H
      have A5 := Aside0.mk A50
      clear A50
      by_cases c6 : t210 = true
      · subst c6
        have H1 : ((shawmref13_Widths.f k l1).bind fun t211 => (shawmlaw13_StereoSame.j0 k l0 l1 (!t211))) = some r := by rw [if_pos rfl] at H; exact H
        clear H
        have H := H1
        clear H1
        replace H := Option.bind_eq_some_iff.mp H
        obtain ⟨t211, A70, H⟩ := H
        replace H : (shawmlaw13_StereoSame.j0 k l0 l1 (!t211)) = some r := H
        have A7 := Aside0.mk A70
        clear A70
        have H' := Aside0.mk H
        clear H
        go_wp2_with (first | (go_at_call 14; (with_reducible refine (shawmref06_Within.calls k 2097152 _ _ l0 true _ ?side1 ?side2 A5.out).mono ?_); (case side1 => repeat (first | exact (Kd.C_below HR0.out HB.out) | (with_reducible refine Kd.C_alloc ?_ _) | (with_reducible refine Kd.C_drewN ?_ _) | (with_reducible refine Kd.C_drew ?_))); (case side2 => exact HC0.out); rintro e w' ⟨rfl, ⟨nd, rfl⟩⟩) | (go_at_call 25; (with_reducible refine (shawmref13_Widths.calls k _ _ l1 t211 _ ?side1 ?side2 A7.out).mono ?_); (case side1 => repeat (first | exact (Kd.C_below HR1.out (by repeat (first | (with_reducible first | exact HB.out | apply below_alloc | apply pw_below_drewN | apply below_drew1) | exact HB.out))) | (with_reducible refine Kd.C_alloc ?_ _) | (with_reducible refine Kd.C_drewN ?_ _) | (with_reducible refine Kd.C_drew ?_))); (case side2 => exact HC1.out); rintro e w' ⟨rfl, ⟨nd, rfl⟩⟩))
        go_meet
        case rel => exact ⟨_, (!t211), (by first | rfl | (simp; done) | (simp [*]; done)), H', ⟨by first | omega | exact Nat.le_refl _⟩, ⟨by repeat (first | (with_reducible first | exact HB.out | apply below_alloc | apply pw_below_drewN | apply below_drew1) | exact HB.out)⟩⟩
      · replace c6 := Bool.eq_false_iff.mpr c6
        subst c6
        have H1 : (shawmlaw13_StereoSame.j0 k l0 l1 true) = some r := by rw [if_neg (show ¬ (false = true) by decide)] at H; exact H
        clear H
        have H := H1
        clear H1
        have H' := Aside0.mk H
        clear H
        go_wp2_with (first | (go_at_call 14; (with_reducible refine (shawmref06_Within.calls k 2097152 _ _ l0 false _ ?side1 ?side2 A5.out).mono ?_); (case side1 => repeat (first | exact (Kd.C_below HR0.out HB.out) | (with_reducible refine Kd.C_alloc ?_ _) | (with_reducible refine Kd.C_drewN ?_ _) | (with_reducible refine Kd.C_drew ?_))); (case side2 => exact HC0.out); rintro e w' ⟨rfl, ⟨nd, rfl⟩⟩))
        go_meet
        case rel => exact ⟨_, (true), (by first | rfl | (simp; done) | (simp [*]; done)), H', ⟨by first | omega | exact Nat.le_refl _⟩, ⟨by repeat (first | (with_reducible first | exact HB.out | apply below_alloc | apply pw_below_drewN | apply below_drew1) | exact HB.out)⟩⟩
    · rw [if_neg c4] at H
      have c4b0 : ((l0.length : Int) == 128) = false := beq_eq_false_iff_ne.mpr c4
      have c4b1 : ((l0.length : Int) != 128) = true := bne_iff_ne.mpr c4
      (first | rw [c4b0] | (simp only [i64_w, i32_w]; rw [c4b0]) | skip)
      have H' := Aside0.mk H
      clear H
      go_wp2
      go_meet
      case rel => exact ⟨_, (true), (by first | rfl | (simp; done) | (simp [*]; done)), H', ⟨by first | omega | exact Nat.le_refl _⟩, ⟨by repeat (first | (with_reducible first | exact HB.out | apply below_alloc | apply pw_below_drewN | apply below_drew1) | exact HB.out)⟩⟩
  case rest =>
    clear HC3
    try clear c1
    try clear p2
    try clear c4
    try clear c4b0
    try clear c4b1
    try clear c6
    obtain ⟨kq, x29_2, rfl, HA, HJ2, HB⟩ := hcut
    cases kq with
    | zero => exact absurd HA.out (by simp [shawmlaw13_StereoSame.j0])
    | succ kj2 =>
      have H := HA.out
      clear HA
      simp only [shawmlaw13_StereoSame.j0] at H
      by_cases c8 : x29_2 = true
      · subst c8
        have H1 : ((shawmlaw13_awake.f).bind fun t212 => (some t212)) = some r := by rw [if_pos rfl] at H; exact H
        clear H
        have H := H1
        clear H1
        replace H := Option.bind_eq_some_iff.mp H
        obtain ⟨t212, A90, H⟩ := H
        replace H : (some t212) = some r := H
        have A9 := Aside0.mk A90
        clear A90
        obtain rfl := Option.some.inj H
        go_wp2_with (first | ((with_reducible refine gate_callee (f := 10) rfl ?_); refine goesL_ (some 30) rfl rfl Try.func10 (by kernel_rfl) rfl #[] rfl (by (try simp only [List.map_toArray, List.map_cons, List.map_nil]); first | done | rfl | (simp only [List.length_drop, List.length_take]; rfl)) ?_; (with_reducible refine (shawmlaw13_awake.calls  t212 _ A9.out).mono ?_); rintro e w10 ⟨rfl, hb⟩; refine ⟨_, rfl, ?_⟩; have n0_ := Aside0.mk (below_step (by repeat (first | (with_reducible first | exact HB.out | apply below_alloc | apply pw_below_drewN | apply below_drew1) | exact HB.out)) hb); clear HB; have HB := n0_; clear n0_; (try clear hb); (try clear hb2); (try clear hk); (try clear hi)))
        go_ret
        exact ⟨by first | rfl | (simp [errW_none, errW_some] <;> rfl) | (simp [*, errW_none, errW_some] <;> rfl), by repeat (first | (with_reducible first | exact HB.out | apply below_alloc | apply pw_below_drewN | apply below_drew1) | exact HB.out)⟩
      · replace c8 := Bool.eq_false_iff.mpr c8
        subst c8
        have H1 : ((stereo_Choose.f kj2 l0 l0 l1).bind fun bt213 => ((stereo_Cross.f l0 l0 l1).bind fun bt217 => ((stereo_Couple.f l0 l0 l1 bt213.1).bind fun bt221 => (if bt213.2 = 0 then (if bt217.2 = 0 then (if bt221.2.2 = 0 then (if (bt213.1.length : Int) = (l1.length : Int) then (if (bt217.1.length : Int) = (l1.length : Int) then (shawmlaw13_StereoSame.j1 kj2 l0 l1 bt213.1 bt217.1 bt221.1 bt221.2.1 ((bt221.2.1.length : Int) != 128)) else (shawmlaw13_StereoSame.j1 kj2 l0 l1 bt213.1 bt217.1 bt221.1 bt221.2.1 true)) else (shawmlaw13_StereoSame.j1 kj2 l0 l1 bt213.1 bt217.1 bt221.1 bt221.2.1 true)) else (shawmlaw13_StereoSame.j1 kj2 l0 l1 bt213.1 bt217.1 bt221.1 bt221.2.1 true)) else (shawmlaw13_StereoSame.j1 kj2 l0 l1 bt213.1 bt217.1 bt221.1 bt221.2.1 true)) else (shawmlaw13_StereoSame.j1 kj2 l0 l1 bt213.1 bt217.1 bt221.1 bt221.2.1 true))))) = some r := by rw [if_neg (show ¬ (false = true) by decide)] at H; exact H
        clear H
        have H := H1
        clear H1
        replace H := Option.bind_eq_some_iff.mp H
        obtain ⟨⟨t213, t214⟩, A110, H⟩ := H
        replace H : ((stereo_Cross.f l0 l0 l1).bind fun bt217 => ((stereo_Couple.f l0 l0 l1 t213).bind fun bt221 => (if t214 = 0 then (if bt217.2 = 0 then (if bt221.2.2 = 0 then (if (t213.length : Int) = (l1.length : Int) then (if (bt217.1.length : Int) = (l1.length : Int) then (shawmlaw13_StereoSame.j1 kj2 l0 l1 t213 bt217.1 bt221.1 bt221.2.1 ((bt221.2.1.length : Int) != 128)) else (shawmlaw13_StereoSame.j1 kj2 l0 l1 t213 bt217.1 bt221.1 bt221.2.1 true)) else (shawmlaw13_StereoSame.j1 kj2 l0 l1 t213 bt217.1 bt221.1 bt221.2.1 true)) else (shawmlaw13_StereoSame.j1 kj2 l0 l1 t213 bt217.1 bt221.1 bt221.2.1 true)) else (shawmlaw13_StereoSame.j1 kj2 l0 l1 t213 bt217.1 bt221.1 bt221.2.1 true)) else (shawmlaw13_StereoSame.j1 kj2 l0 l1 t213 bt217.1 bt221.1 bt221.2.1 true)))) = some r := H
        have A11 := Aside0.mk A110
        clear A110
        replace H := Option.bind_eq_some_iff.mp H
        obtain ⟨⟨t217, t218⟩, A120, H⟩ := H
        replace H : ((stereo_Couple.f l0 l0 l1 t213).bind fun bt221 => (if t214 = 0 then (if t218 = 0 then (if bt221.2.2 = 0 then (if (t213.length : Int) = (l1.length : Int) then (if (t217.length : Int) = (l1.length : Int) then (shawmlaw13_StereoSame.j1 kj2 l0 l1 t213 t217 bt221.1 bt221.2.1 ((bt221.2.1.length : Int) != 128)) else (shawmlaw13_StereoSame.j1 kj2 l0 l1 t213 t217 bt221.1 bt221.2.1 true)) else (shawmlaw13_StereoSame.j1 kj2 l0 l1 t213 t217 bt221.1 bt221.2.1 true)) else (shawmlaw13_StereoSame.j1 kj2 l0 l1 t213 t217 bt221.1 bt221.2.1 true)) else (shawmlaw13_StereoSame.j1 kj2 l0 l1 t213 t217 bt221.1 bt221.2.1 true)) else (shawmlaw13_StereoSame.j1 kj2 l0 l1 t213 t217 bt221.1 bt221.2.1 true))) = some r := H
        have A12 := Aside0.mk A120
        clear A120
        replace H := Option.bind_eq_some_iff.mp H
        obtain ⟨⟨t221, t222, t223⟩, A130, H⟩ := H
        replace H : (if t214 = 0 then (if t218 = 0 then (if t223 = 0 then (if (t213.length : Int) = (l1.length : Int) then (if (t217.length : Int) = (l1.length : Int) then (shawmlaw13_StereoSame.j1 kj2 l0 l1 t213 t217 t221 t222 ((t222.length : Int) != 128)) else (shawmlaw13_StereoSame.j1 kj2 l0 l1 t213 t217 t221 t222 true)) else (shawmlaw13_StereoSame.j1 kj2 l0 l1 t213 t217 t221 t222 true)) else (shawmlaw13_StereoSame.j1 kj2 l0 l1 t213 t217 t221 t222 true)) else (shawmlaw13_StereoSame.j1 kj2 l0 l1 t213 t217 t221 t222 true)) else (shawmlaw13_StereoSame.j1 kj2 l0 l1 t213 t217 t221 t222 true)) = some r := H
        have A13 := Aside0.mk A130
        clear A130
        have HC14 := Aside0.mk H
        clear H
        go_upto_region 6 with (first | ((with_reducible refine gate_callee (f := 11) rfl ?_); refine goesL_ (some 35) rfl rfl Try.func11 (by kernel_rfl) rfl #[.slice A0 l0.length c0, .slice A0 l0.length c0, .slice A1 l1.length c1] rfl (by (try simp only [List.map_toArray, List.map_cons, List.map_nil]); first | done | rfl | (simp only [List.length_drop, List.length_take]; rfl)) ?_; (with_reducible refine (stereo_Choose.calls kj2 _ _ l0 _ _ l0 _ _ l1 t213 t214 _ ?side1 ?side2 ?side3 ?side4 ?side5 ?side6 A11.out).mono ?_); (case side1 => repeat (first | exact (Kd.C_below HR0.out HB.out) | (with_reducible refine Kd.C_alloc ?_ _) | (with_reducible refine Kd.C_drewN ?_ _) | (with_reducible refine Kd.C_drew ?_))); (case side2 => exact HC0.out); (case side3 => repeat (first | exact (Kd.C_below HR0.out HB.out) | (with_reducible refine Kd.C_alloc ?_ _) | (with_reducible refine Kd.C_drewN ?_ _) | (with_reducible refine Kd.C_drew ?_))); (case side4 => exact HC0.out); (case side5 => repeat (first | exact (Kd.C_below HR1.out HB.out) | (with_reducible refine Kd.C_alloc ?_ _) | (with_reducible refine Kd.C_drewN ?_ _) | (with_reducible refine Kd.C_drew ?_))); (case side6 => exact HC1.out); rintro e w15 ⟨v215, rfl, ho0, hb⟩; refine ⟨_, rfl, ?_⟩; have n0_ := Aside0.mk (Kd.R_lower ho0 (below_size (by repeat (first | (with_reducible first | exact HB.out | apply below_alloc | apply pw_below_drewN | apply below_drew1) | exact HB.out)))); have n1_ := Aside0.mk (below_step (by repeat (first | (with_reducible first | exact HB.out | apply below_alloc | apply pw_below_drewN | apply below_drew1) | exact HB.out)) hb); clear HB; have HO216 := n0_; have HB := n1_; clear n0_ n1_; (try clear hb); (try clear hb2); (try clear hk); (try clear hi); (try clear ho0)) | ((with_reducible refine gate_callee (f := 16) rfl ?_); refine goesL_ (some 42) rfl rfl Try.func16 (by kernel_rfl) rfl #[.slice A0 l0.length c0, .slice A0 l0.length c0, .slice A1 l1.length c1] rfl (by (try simp only [List.map_toArray, List.map_cons, List.map_nil]); first | done | rfl | (simp only [List.length_drop, List.length_take]; rfl)) ?_; (with_reducible refine (stereo_Cross.calls _ _ l0 _ _ l0 _ _ l1 t217 t218 _ ?side1 ?side2 ?side3 ?side4 ?side5 ?side6 A12.out).mono ?_); (case side1 => repeat (first | exact (Kd.C_below HR0.out HB.out) | (with_reducible refine Kd.C_alloc ?_ _) | (with_reducible refine Kd.C_drewN ?_ _) | (with_reducible refine Kd.C_drew ?_))); (case side2 => exact HC0.out); (case side3 => repeat (first | exact (Kd.C_below HR0.out HB.out) | (with_reducible refine Kd.C_alloc ?_ _) | (with_reducible refine Kd.C_drewN ?_ _) | (with_reducible refine Kd.C_drew ?_))); (case side4 => exact HC0.out); (case side5 => repeat (first | exact (Kd.C_below HR1.out HB.out) | (with_reducible refine Kd.C_alloc ?_ _) | (with_reducible refine Kd.C_drewN ?_ _) | (with_reducible refine Kd.C_drew ?_))); (case side6 => exact HC1.out); rintro e w16 ⟨v219, rfl, ho0, hb⟩; refine ⟨_, rfl, ?_⟩; have n0_ := Aside0.mk (Kd.R_below (by (with_reducible repeat (first | apply Kd.R_alloc | apply Kd.R_drewN | apply Kd.R_drew)); exact HO216.out) hb); have n1_ := Aside0.mk (Kd.R_lower ho0 (below_size (by repeat (first | (with_reducible first | exact HB.out | apply below_alloc | apply pw_below_drewN | apply below_drew1) | exact HB.out)))); have n2_ := Aside0.mk (below_step (by repeat (first | (with_reducible first | exact HB.out | apply below_alloc | apply pw_below_drewN | apply below_drew1) | exact HB.out)) hb); clear HO216; clear HB; have HO216 := n0_; have HO220 := n1_; have HB := n2_; clear n0_ n1_ n2_; (try clear hb); (try clear hb2); (try clear hk); (try clear hi); (try clear ho0); obtain ⟨Ao17, co17, eo17⟩ := Kd.R_slice HO216.out; subst eo17) | ((with_reducible refine gate_callee (f := 13) rfl ?_); refine goesL_ (some 50) rfl rfl Try.func13 (by kernel_rfl) rfl #[.slice A0 l0.length c0, .slice A0 l0.length c0, .slice A1 l1.length c1, .slice Ao17 t213.length co17] rfl (by (try simp only [List.map_toArray, List.map_cons, List.map_nil]); first | done | rfl | (simp only [List.length_drop, List.length_take]; rfl)) ?_; (with_reducible refine (stereo_Couple.calls _ _ l0 _ _ l0 _ _ l1 _ _ t213 t221 t222 t223 _ ?side1 ?side2 ?side3 ?side4 ?side5 ?side6 ?side7 ?side8 A13.out).mono ?_); (case side1 => repeat (first | exact (Kd.C_below HR0.out HB.out) | (with_reducible refine Kd.C_alloc ?_ _) | (with_reducible refine Kd.C_drewN ?_ _) | (with_reducible refine Kd.C_drew ?_))); (case side2 => exact HC0.out); (case side3 => repeat (first | exact (Kd.C_below HR0.out HB.out) | (with_reducible refine Kd.C_alloc ?_ _) | (with_reducible refine Kd.C_drewN ?_ _) | (with_reducible refine Kd.C_drew ?_))); (case side4 => exact HC0.out); (case side5 => repeat (first | exact (Kd.C_below HR1.out HB.out) | (with_reducible refine Kd.C_alloc ?_ _) | (with_reducible refine Kd.C_drewN ?_ _) | (with_reducible refine Kd.C_drew ?_))); (case side6 => exact HC1.out); (case side7 => repeat (first | exact (Kd.R_reads' HO216.out).2.2 | (with_reducible refine Kd.C_alloc ?_ _) | (with_reducible refine Kd.C_drewN ?_ _) | (with_reducible refine Kd.C_drew ?_))); (case side8 => exact (Kd.R_reads' HO216.out).2.1); rintro e w18 ⟨v224, v226, rfl, ho0, ho1, hb⟩; refine ⟨_, rfl, ?_⟩; have n0_ := Aside0.mk (Kd.R_below (by (with_reducible repeat (first | apply Kd.R_alloc | apply Kd.R_drewN | apply Kd.R_drew)); exact HO216.out) hb); have n1_ := Aside0.mk (Kd.R_mono (Kd.R_told (Kd.R_told (Kd.R_old (by (with_reducible repeat (first | apply Kd.R_alloc | apply Kd.R_drewN | apply Kd.R_drew)); exact HO220.out) hb) (Kd.R_base ho0)) (Kd.R_base ho1)) (fun _ h_ => h_.1)); have n2_ := Aside0.mk (Kd.R_lower (Kd.R_new' ho0 (Kd.R_lt (by (with_reducible repeat (first | apply Kd.R_alloc | apply Kd.R_drewN | apply Kd.R_drew)); exact HO220.out))) (below_size (by repeat (first | (with_reducible first | exact HB.out | apply below_alloc | apply pw_below_drewN | apply below_drew1) | exact HB.out)))); have n3_ := Aside0.mk (Kd.R_lower (Kd.R_new' ho1 (Kd.R_lt (by (with_reducible repeat (first | apply Kd.R_alloc | apply Kd.R_drewN | apply Kd.R_drew)); exact HO220.out))) (below_size (by repeat (first | (with_reducible first | exact HB.out | apply below_alloc | apply pw_below_drewN | apply below_drew1) | exact HB.out)))); have n4_ := Aside0.mk (below_step (by repeat (first | (with_reducible first | exact HB.out | apply below_alloc | apply pw_below_drewN | apply below_drew1) | exact HB.out)) hb); clear HO216; clear HO220; clear HB; have HO216 := n0_; have HO220 := n1_; have HO225 := n2_; have HO227 := n3_; have HB := n4_; clear n0_ n1_ n2_ n3_ n4_; (try clear hb); (try clear hb2); (try clear hk); (try clear hi); (try clear ho0); (try clear ho1)))
        (try simp only [Act.put, List.setIfInBounds_toArray, List.set_cons_zero, List.set_cons_succ])
        go_cut [82] (fun v82 wc => ∃ (kq : Nat) (x82_13 : Bool), v82 = .bool x82_13 ∧ Aside0 (shawmlaw13_StereoSame.j1 kq l0 l1 t213 t217 t221 t222 x82_13 = some r) ∧ Aside0 (kq ≤ kj2) ∧ Aside0 (Kd.R Kd.bool 4 wc w.heap.size (fun _ => True) (.slice Ao17 t213.length co17) t213) ∧ Aside0 (Kd.R (Kd.int .i64) 3 wc w.heap.size (fun k_ => some k_ ≠ (v224 : Value).ownBlock ∧ some k_ ≠ (v226 : Value).ownBlock) v219 t217) ∧ Aside0 (Kd.R (Kd.int .i64) 3 wc w.heap.size (fun k_ => some k_ ≠ (v219 : Value).ownBlock ∧ some k_ ≠ (v226 : Value).ownBlock) v224 t221) ∧ Aside0 (Kd.R (Kd.int .i64) 3 wc w.heap.size (fun k_ => some k_ ≠ (v219 : Value).ownBlock ∧ some k_ ≠ (v224 : Value).ownBlock) v226 t222) ∧ Aside0 (Below w.heap.size w wc))
        case first =>
          have H := HC14.out
          clear HC14
          by_cases c19 : t214 = 0
          · rw [if_pos c19] at H
            have c19b0 : (t214 == 0) = true := beq_iff_eq.mpr c19
            have c19b1 : (t214 != 0) = false := bne_eq_false_iff_eq.mpr c19
            clear c19
            (first | rw [c19b0] | (simp only [i64_w, i32_w]; rw [c19b0]) | skip)
            by_cases c20 : t218 = 0
            · rw [if_pos c20] at H
              have c20b0 : (t218 == 0) = true := beq_iff_eq.mpr c20
              have c20b1 : (t218 != 0) = false := bne_eq_false_iff_eq.mpr c20
              clear c20
              by_cases c21 : t223 = 0
              · rw [if_pos c21] at H
                have c21b0 : (t223 == 0) = true := beq_iff_eq.mpr c21
                have c21b1 : (t223 != 0) = false := bne_eq_false_iff_eq.mpr c21
                clear c21
                by_cases c22 : (t213.length : Int) = (l1.length : Int)
                · rw [if_pos c22] at H
                  have c22b0 : ((t213.length : Int) == (l1.length : Int)) = true := beq_iff_eq.mpr c22
                  have c22b1 : ((t213.length : Int) != (l1.length : Int)) = false := bne_eq_false_iff_eq.mpr c22
                  have c22b2 : (t213.length == l1.length) = true := by first | simpa using c22 | (simp at c22 ⊢; omega)
                  clear c22
                  by_cases c23 : (t217.length : Int) = (l1.length : Int)
                  · rw [if_pos c23] at H
                    have c23b0 : ((t217.length : Int) == (l1.length : Int)) = true := beq_iff_eq.mpr c23
                    have c23b1 : ((t217.length : Int) != (l1.length : Int)) = false := bne_eq_false_iff_eq.mpr c23
                    have c23b2 : (t217.length == l1.length) = true := by first | simpa using c23 | (simp at c23 ⊢; omega)
                    clear c23
                    have H' := Aside0.mk H
                    clear H
                    obtain ⟨Ao24, co24, eo24⟩ := Kd.R_slice HO220.out
                    subst eo24
                    obtain ⟨Ao25, co25, eo25⟩ := Kd.R_slice HO227.out
                    subst eo25
                    go_wp2
                    go_meet
                    case rel => exact ⟨_, (((t222.length : Int) != 128)), (by first | rfl | (simp; done) | (simp [*]; done)), H', ⟨by have := HJ2.out; first | omega | exact Nat.le_refl _⟩, ⟨by (with_reducible repeat (first | apply Kd.R_alloc | apply Kd.R_drewN | apply Kd.R_drew)); exact HO216.out⟩, ⟨by (with_reducible repeat (first | apply Kd.R_alloc | apply Kd.R_drewN | apply Kd.R_drew)); exact Kd.R_mono HO220.out (fun _ hk => ⟨hk.1.2, hk.2⟩)⟩, ⟨by (with_reducible repeat (first | apply Kd.R_alloc | apply Kd.R_drewN | apply Kd.R_drew)); exact Kd.R_mono HO225.out (fun _ hk => ⟨hk.2, hk.1⟩)⟩, ⟨by (with_reducible repeat (first | apply Kd.R_alloc | apply Kd.R_drewN | apply Kd.R_drew)); exact Kd.R_mono HO227.out (fun _ hk => ⟨hk.2, hk.1⟩)⟩, ⟨by repeat (first | (with_reducible first | exact HB.out | apply below_alloc | apply pw_below_drewN | apply below_drew1) | exact HB.out)⟩⟩
                  · rw [if_neg c23] at H
                    have c23b0 : ((t217.length : Int) == (l1.length : Int)) = false := beq_eq_false_iff_ne.mpr c23
                    have c23b1 : ((t217.length : Int) != (l1.length : Int)) = true := bne_iff_ne.mpr c23
                    have c23b2 : (t217.length == l1.length) = false := by first | simpa using c23 | (simp at c23 ⊢; omega)
                    have H' := Aside0.mk H
                    clear H
                    obtain ⟨Ao26, co26, eo26⟩ := Kd.R_slice HO220.out
                    subst eo26
                    go_wp2
                    go_meet
                    case rel => exact ⟨_, (true), (by first | rfl | (simp; done) | (simp [*]; done)), H', ⟨by have := HJ2.out; first | omega | exact Nat.le_refl _⟩, ⟨by (with_reducible repeat (first | apply Kd.R_alloc | apply Kd.R_drewN | apply Kd.R_drew)); exact HO216.out⟩, ⟨by (with_reducible repeat (first | apply Kd.R_alloc | apply Kd.R_drewN | apply Kd.R_drew)); exact Kd.R_mono HO220.out (fun _ hk => ⟨hk.1.2, hk.2⟩)⟩, ⟨by (with_reducible repeat (first | apply Kd.R_alloc | apply Kd.R_drewN | apply Kd.R_drew)); exact Kd.R_mono HO225.out (fun _ hk => ⟨hk.2, hk.1⟩)⟩, ⟨by (with_reducible repeat (first | apply Kd.R_alloc | apply Kd.R_drewN | apply Kd.R_drew)); exact Kd.R_mono HO227.out (fun _ hk => ⟨hk.2, hk.1⟩)⟩, ⟨by repeat (first | (with_reducible first | exact HB.out | apply below_alloc | apply pw_below_drewN | apply below_drew1) | exact HB.out)⟩⟩
                · rw [if_neg c22] at H
                  have c22b0 : ((t213.length : Int) == (l1.length : Int)) = false := beq_eq_false_iff_ne.mpr c22
                  have c22b1 : ((t213.length : Int) != (l1.length : Int)) = true := bne_iff_ne.mpr c22
                  have c22b2 : (t213.length == l1.length) = false := by first | simpa using c22 | (simp at c22 ⊢; omega)
                  have H' := Aside0.mk H
                  clear H
                  go_wp2
                  go_meet
                  case rel => exact ⟨_, (true), (by first | rfl | (simp; done) | (simp [*]; done)), H', ⟨by have := HJ2.out; first | omega | exact Nat.le_refl _⟩, ⟨by (with_reducible repeat (first | apply Kd.R_alloc | apply Kd.R_drewN | apply Kd.R_drew)); exact HO216.out⟩, ⟨by (with_reducible repeat (first | apply Kd.R_alloc | apply Kd.R_drewN | apply Kd.R_drew)); exact Kd.R_mono HO220.out (fun _ hk => ⟨hk.1.2, hk.2⟩)⟩, ⟨by (with_reducible repeat (first | apply Kd.R_alloc | apply Kd.R_drewN | apply Kd.R_drew)); exact Kd.R_mono HO225.out (fun _ hk => ⟨hk.2, hk.1⟩)⟩, ⟨by (with_reducible repeat (first | apply Kd.R_alloc | apply Kd.R_drewN | apply Kd.R_drew)); exact Kd.R_mono HO227.out (fun _ hk => ⟨hk.2, hk.1⟩)⟩, ⟨by repeat (first | (with_reducible first | exact HB.out | apply below_alloc | apply pw_below_drewN | apply below_drew1) | exact HB.out)⟩⟩
              · rw [if_neg c21] at H
                have c21b0 : (t223 == 0) = false := beq_eq_false_iff_ne.mpr c21
                have c21b1 : (t223 != 0) = true := bne_iff_ne.mpr c21
                have H' := Aside0.mk H
                clear H
                go_wp2
                go_meet
                case rel => exact ⟨_, (true), (by first | rfl | (simp; done) | (simp [*]; done)), H', ⟨by have := HJ2.out; first | omega | exact Nat.le_refl _⟩, ⟨by (with_reducible repeat (first | apply Kd.R_alloc | apply Kd.R_drewN | apply Kd.R_drew)); exact HO216.out⟩, ⟨by (with_reducible repeat (first | apply Kd.R_alloc | apply Kd.R_drewN | apply Kd.R_drew)); exact Kd.R_mono HO220.out (fun _ hk => ⟨hk.1.2, hk.2⟩)⟩, ⟨by (with_reducible repeat (first | apply Kd.R_alloc | apply Kd.R_drewN | apply Kd.R_drew)); exact Kd.R_mono HO225.out (fun _ hk => ⟨hk.2, hk.1⟩)⟩, ⟨by (with_reducible repeat (first | apply Kd.R_alloc | apply Kd.R_drewN | apply Kd.R_drew)); exact Kd.R_mono HO227.out (fun _ hk => ⟨hk.2, hk.1⟩)⟩, ⟨by repeat (first | (with_reducible first | exact HB.out | apply below_alloc | apply pw_below_drewN | apply below_drew1) | exact HB.out)⟩⟩
            · rw [if_neg c20] at H
              have c20b0 : (t218 == 0) = false := beq_eq_false_iff_ne.mpr c20
              have c20b1 : (t218 != 0) = true := bne_iff_ne.mpr c20
              have H' := Aside0.mk H
              clear H
              go_wp2
              go_meet
              case rel => exact ⟨_, (true), (by first | rfl | (simp; done) | (simp [*]; done)), H', ⟨by have := HJ2.out; first | omega | exact Nat.le_refl _⟩, ⟨by (with_reducible repeat (first | apply Kd.R_alloc | apply Kd.R_drewN | apply Kd.R_drew)); exact HO216.out⟩, ⟨by (with_reducible repeat (first | apply Kd.R_alloc | apply Kd.R_drewN | apply Kd.R_drew)); exact Kd.R_mono HO220.out (fun _ hk => ⟨hk.1.2, hk.2⟩)⟩, ⟨by (with_reducible repeat (first | apply Kd.R_alloc | apply Kd.R_drewN | apply Kd.R_drew)); exact Kd.R_mono HO225.out (fun _ hk => ⟨hk.2, hk.1⟩)⟩, ⟨by (with_reducible repeat (first | apply Kd.R_alloc | apply Kd.R_drewN | apply Kd.R_drew)); exact Kd.R_mono HO227.out (fun _ hk => ⟨hk.2, hk.1⟩)⟩, ⟨by repeat (first | (with_reducible first | exact HB.out | apply below_alloc | apply pw_below_drewN | apply below_drew1) | exact HB.out)⟩⟩
          · rw [if_neg c19] at H
            have c19b0 : (t214 == 0) = false := beq_eq_false_iff_ne.mpr c19
            have c19b1 : (t214 != 0) = true := bne_iff_ne.mpr c19
            (first | rw [c19b0] | (simp only [i64_w, i32_w]; rw [c19b0]) | skip)
            have H' := Aside0.mk H
            clear H
            go_wp2
            go_meet
            case rel => exact ⟨_, (true), (by first | rfl | (simp; done) | (simp [*]; done)), H', ⟨by have := HJ2.out; first | omega | exact Nat.le_refl _⟩, ⟨by (with_reducible repeat (first | apply Kd.R_alloc | apply Kd.R_drewN | apply Kd.R_drew)); exact HO216.out⟩, ⟨by (with_reducible repeat (first | apply Kd.R_alloc | apply Kd.R_drewN | apply Kd.R_drew)); exact Kd.R_mono HO220.out (fun _ hk => ⟨hk.1.2, hk.2⟩)⟩, ⟨by (with_reducible repeat (first | apply Kd.R_alloc | apply Kd.R_drewN | apply Kd.R_drew)); exact Kd.R_mono HO225.out (fun _ hk => ⟨hk.2, hk.1⟩)⟩, ⟨by (with_reducible repeat (first | apply Kd.R_alloc | apply Kd.R_drewN | apply Kd.R_drew)); exact Kd.R_mono HO227.out (fun _ hk => ⟨hk.2, hk.1⟩)⟩, ⟨by repeat (first | (with_reducible first | exact HB.out | apply below_alloc | apply pw_below_drewN | apply below_drew1) | exact HB.out)⟩⟩
        case rest =>
          clear HC14
          try clear c1
          try clear c2
          try clear p2
          try clear c4
          try clear c4b0
          try clear c4b1
          try clear c6
          try clear c8
          try clear c10
          try clear c11
          try clear c13
          try clear c16
          try clear c19
          try clear c19b0
          try clear c19b1
          try clear c20
          try clear c20b0
          try clear c20b1
          try clear c21
          try clear c21b0
          try clear c21b1
          try clear c22
          try clear c22b0
          try clear c22b1
          try clear c22b2
          try clear c23
          try clear c23b0
          try clear c23b1
          try clear c23b2
          try clear p2
          obtain ⟨kq, x82_13, rfl, HA, HJ13, HO_5, HO_7, HO_9, HO_10, HB⟩ := hcut
          cases kq with
          | zero => exact absurd HA.out (by simp [shawmlaw13_StereoSame.j1])
          | succ kj13 =>
            have H := HA.out
            clear HA
            simp only [shawmlaw13_StereoSame.j1] at H
            by_cases c27 : x82_13 = true
            · subst c27
              have H1 : (none) = some r := by rw [if_pos rfl] at H; exact H
              clear H
              have H := H1
              clear H1
              exact absurd H (by simp)
            · replace c27 := Bool.eq_false_iff.mpr c27
              subst c27
              have H1 : (shawmlaw13_StereoSame.l0 kj13 l0 t213 t217 t221 t222 0 l1 (l1.length : Int) 0) = some r := by rw [if_neg (show ¬ (false = true) by decide)] at H; exact H
              clear H
              have H := H1
              clear H1
              have H' := Aside0.mk H
              clear H
              go_wp2
              go_loopg [12, 85] kj13 (fun kq v12 v85 w' => ∃ (x12_3 : Int) (x85_3 : Int), v12 = .int .i64 x12_3 ∧ v85 = .int .i64 x85_3 ∧ Aside0 (shawmlaw13_StereoSame.l0 kq l0 t213 t217 t221 t222 x12_3 l1 (l1.length : Int) x85_3 = some r) ∧ Aside0 (kq ≤ kj13) ∧ Aside0 (Kd.R Kd.bool 4 w' w.heap.size (fun _ => True) (.slice Ao17 t213.length co17) t213) ∧ Aside0 (Kd.R (Kd.int .i64) 3 w' w.heap.size (fun k_ => some k_ ≠ (v224 : Value).ownBlock ∧ some k_ ≠ (v226 : Value).ownBlock) v219 t217) ∧ Aside0 (Kd.R (Kd.int .i64) 3 w' w.heap.size (fun k_ => some k_ ≠ (v219 : Value).ownBlock ∧ some k_ ≠ (v226 : Value).ownBlock) v224 t221) ∧ Aside0 (Kd.R (Kd.int .i64) 3 w' w.heap.size (fun k_ => some k_ ≠ (v219 : Value).ownBlock ∧ some k_ ≠ (v224 : Value).ownBlock) v226 t222) ∧ Aside0 (Below w.heap.size w w'))
              case atStart => exact ⟨(0), (0), (by first | rfl | (simp; done) | (simp [*]; done)), (by first | rfl | (simp; done) | (simp [*]; done)), H', ⟨Nat.le_refl _⟩, ⟨by (with_reducible repeat (first | apply Kd.R_alloc | apply Kd.R_drewN | apply Kd.R_drew)); exact HO_5.out⟩, ⟨by (with_reducible repeat (first | apply Kd.R_alloc | apply Kd.R_drewN | apply Kd.R_drew)); exact HO_7.out⟩, ⟨by (with_reducible repeat (first | apply Kd.R_alloc | apply Kd.R_drewN | apply Kd.R_drew)); exact HO_9.out⟩, ⟨by (with_reducible repeat (first | apply Kd.R_alloc | apply Kd.R_drewN | apply Kd.R_drew)); exact HO_10.out⟩, ⟨by repeat (first | (with_reducible first | exact HB.out | apply below_alloc | apply pw_below_drewN | apply below_drew1) | exact HB.out)⟩⟩
              case round =>
                clear H'
                try clear c1
                try clear c2
                try clear p2
                try clear c4
                try clear c4b0
                try clear c4b1
                try clear c6
                try clear c8
                try clear c10
                try clear c11
                try clear c13
                try clear c16
                try clear c19
                try clear c19b0
                try clear c19b1
                try clear c20
                try clear c20b0
                try clear c20b1
                try clear c21
                try clear c21b0
                try clear c21b1
                try clear c22
                try clear c22b0
                try clear c22b1
                try clear c22b2
                try clear c23
                try clear c23b0
                try clear c23b1
                try clear c23b2
                try clear c27
                try clear p2
                obtain ⟨x12_3, x85_3, rfl, rfl, HA, HK3, HO_5, HO_7, HO_9, HO_10, HB⟩ := hrel
                cases gk with
                | zero => exact absurd HA.out (by simp [shawmlaw13_StereoSame.l0])
                | succ k3 =>
                  have H := HA.out
                  clear HA
                  simp only [shawmlaw13_StereoSame.l0] at H
                  by_cases c28 : x85_3 < (l1.length : Int)
                  · rw [if_pos c28] at H
                    have c28b0 : decide (x85_3 < (l1.length : Int)) = true := decide_eq_true c28
                    clear c28
                    by_cases c29 : 0 ≤ x85_3
                    · rw [if_pos c29] at H
                      have c29b0 : decide (0 ≤ x85_3) = true := decide_eq_true c29
                      clear c29
                      by_cases c30 : x85_3 < (l1.length : Int)
                      · rw [if_pos c30] at H
                        have c30b0 : decide (x85_3 < (l1.length : Int)) = true := decide_eq_true c30
                        clear c30
                        have H' := Aside0.mk H
                        clear H
                        have p230 : 0 ≤ (x85_3 : Int) := of_decide_eq_true (by first | (with_reducible assumption) | assumption)
                        have q230 : x85_3 < (l1.length : Int) := of_decide_eq_true (by first | (with_reducible assumption) | assumption)
                        obtain ⟨ad230, e230, hx230_0⟩ := Kd.at_int HR1.out x85_3 p230 q230
                        cases e230
                        replace hx230_0 := (HB.out.cell (World.block_lt_of_cell? w _ hx230_0)).trans hx230_0
                        replace p230 := eq_true p230
                        replace q230 := eq_true q230
                        go_wp2
                        go_loopg [15, 16] k3 (fun kq v15 v16 w' => ∃ (x15_4 : Bool) (x16_4 : Int), v15 = .bool x15_4 ∧ v16 = .int .i64 x16_4 ∧ Aside0 (shawmlaw13_StereoSame.l1 kq l0 t213 t217 t221 t222 x12_3 x85_3 (rd l1 x85_3) x15_4 x16_4 l1 (l1.length : Int) x85_3 = some r) ∧ Aside0 (kq ≤ k3) ∧ Aside0 (Kd.R Kd.bool 4 w' w.heap.size (fun _ => True) (.slice Ao17 t213.length co17) t213) ∧ Aside0 (Kd.R (Kd.int .i64) 3 w' w.heap.size (fun k_ => some k_ ≠ (v224 : Value).ownBlock ∧ some k_ ≠ (v226 : Value).ownBlock) v219 t217) ∧ Aside0 (Kd.R (Kd.int .i64) 3 w' w.heap.size (fun k_ => some k_ ≠ (v219 : Value).ownBlock ∧ some k_ ≠ (v226 : Value).ownBlock) v224 t221) ∧ Aside0 (Kd.R (Kd.int .i64) 3 w' w.heap.size (fun k_ => some k_ ≠ (v219 : Value).ownBlock ∧ some k_ ≠ (v224 : Value).ownBlock) v226 t222) ∧ Aside0 (Below w.heap.size w w'))
                        case atStart => exact ⟨(false), (x12_3), (by first | rfl | (simp; done) | (simp [*]; done)), (by first | rfl | (simp; done) | (simp [*]; done)), H', ⟨Nat.le_refl _⟩, ⟨by (with_reducible repeat (first | apply Kd.R_alloc | apply Kd.R_drewN | apply Kd.R_drew)); exact HO_5.out⟩, ⟨by (with_reducible repeat (first | apply Kd.R_alloc | apply Kd.R_drewN | apply Kd.R_drew)); exact HO_7.out⟩, ⟨by (with_reducible repeat (first | apply Kd.R_alloc | apply Kd.R_drewN | apply Kd.R_drew)); exact HO_9.out⟩, ⟨by (with_reducible repeat (first | apply Kd.R_alloc | apply Kd.R_drewN | apply Kd.R_drew)); exact HO_10.out⟩, ⟨by repeat (first | (with_reducible first | exact HB.out | apply below_alloc | apply pw_below_drewN | apply below_drew1) | exact HB.out)⟩⟩
                        case round =>
                          clear H'
                          try clear c1
                          try clear c2
                          try clear p2
                          try clear q2
                          try clear hx2
                          try clear c3
                          try clear c4
                          try clear c4b0
                          try clear c4b1
                          try clear c6
                          try clear c8
                          try clear c10
                          try clear c11
                          try clear c13
                          try clear c16
                          try clear c19
                          try clear c19b0
                          try clear c19b1
                          try clear c20
                          try clear c20b0
                          try clear c20b1
                          try clear c21
                          try clear c21b0
                          try clear c21b1
                          try clear c22
                          try clear c22b0
                          try clear c22b1
                          try clear c22b2
                          try clear c23
                          try clear c23b0
                          try clear c23b1
                          try clear c23b2
                          try clear p23
                          try clear q23
                          try clear hx23
                          try clear c27
                          try clear c28
                          try clear c28b0
                          try clear c29
                          try clear c29b0
                          try clear c30
                          try clear c30b0
                          try clear hx230_0
                          try clear p2
                          try clear p230
                          try clear q230
                          obtain ⟨x15_4, x16_4, rfl, rfl, HA, HK4, HO_5, HO_7, HO_9, HO_10, HB⟩ := hrel
                          cases gk with
                          | zero => exact absurd HA.out (by simp [shawmlaw13_StereoSame.l1])
                          | succ k4 =>
                            have H := HA.out
                            clear HA
                            simp only [shawmlaw13_StereoSame.l1] at H
                            by_cases c31 : x16_4 < (wrap64 (x12_3 + (rd l1 x85_3)))
                            · rw [if_pos c31] at H
                              have c31b0 : decide (x16_4 < (wrap64 (x12_3 + (rd l1 x85_3)))) = true := decide_eq_true c31
                              clear c31
                              by_cases c32 : x15_4 = true
                              · subst c32
                                have H1 : (if 0 ≤ x85_3 then (if x85_3 < (t213.length : Int) then (if rdOf false t213 x85_3 = true then (if 0 ≤ x16_4 then (if x16_4 < (t222.length : Int) then (if (rd t222 x16_4) = 0 then (shawmlaw13_StereoSame.l1 k4 l0 t213 t217 t221 t222 x12_3 x85_3 (rd l1 x85_3) true (wrap64 (x16_4 + 1)) l1 (l1.length : Int) x85_3) else (none)) else (none)) else (none)) else (shawmlaw13_StereoSame.l1 k4 l0 t213 t217 t221 t222 x12_3 x85_3 (rd l1 x85_3) true (wrap64 (x16_4 + 1)) l1 (l1.length : Int) x85_3)) else (none)) else (none)) = some r := by rw [if_pos rfl] at H; exact H
                                clear H
                                have H := H1
                                clear H1
                                by_cases c33 : 0 ≤ x85_3
                                · rw [if_pos c33] at H
                                  have c33b0 : decide (0 ≤ x85_3) = true := decide_eq_true c33
                                  clear c33
                                  by_cases c34 : x85_3 < (t213.length : Int)
                                  · rw [if_pos c34] at H
                                    have c34b0 : decide (x85_3 < (t213.length : Int)) = true := decide_eq_true c34
                                    clear c34
                                    obtain ⟨bq35, hbq35⟩ : ∃ b_ : Bool, b_ = (rdOf false t213 x85_3) := ⟨_, rfl⟩
                                    replace H : (if bq35 = true then (if 0 ≤ x16_4 then (if x16_4 < (t222.length : Int) then (if (rd t222 x16_4) = 0 then (shawmlaw13_StereoSame.l1 k4 l0 t213 t217 t221 t222 x12_3 x85_3 (rd l1 x85_3) true (wrap64 (x16_4 + 1)) l1 (l1.length : Int) x85_3) else (none)) else (none)) else (none)) else (shawmlaw13_StereoSame.l1 k4 l0 t213 t217 t221 t222 x12_3 x85_3 (rd l1 x85_3) true (wrap64 (x16_4 + 1)) l1 (l1.length : Int) x85_3)) = some r := by rw [← hbq35] at H; exact H
                                    have Nbq35 := Aside0.mk hbq35
                                    clear hbq35
                                    by_cases c36 : bq35 = true
                                    · subst c36
                                      have H1 : (if 0 ≤ x16_4 then (if x16_4 < (t222.length : Int) then (if (rd t222 x16_4) = 0 then (shawmlaw13_StereoSame.l1 k4 l0 t213 t217 t221 t222 x12_3 x85_3 (rd l1 x85_3) true (wrap64 (x16_4 + 1)) l1 (l1.length : Int) x85_3) else (none)) else (none)) else (none)) = some r := by rw [if_pos rfl] at H; exact H
                                      clear H
                                      have H := H1
                                      clear H1
                                      by_cases c37 : 0 ≤ x16_4
                                      · rw [if_pos c37] at H
                                        have c37b0 : decide (0 ≤ x16_4) = true := decide_eq_true c37
                                        clear c37
                                        by_cases c38 : x16_4 < (t222.length : Int)
                                        · rw [if_pos c38] at H
                                          have c38b0 : decide (x16_4 < (t222.length : Int)) = true := decide_eq_true c38
                                          clear c38
                                          by_cases c39 : (rd t222 x16_4) = 0
                                          · rw [if_pos c39] at H
                                            have c39b0 : ((rd t222 x16_4) == 0) = true := beq_iff_eq.mpr c39
                                            have c39b1 : ((rd t222 x16_4) != 0) = false := bne_eq_false_iff_eq.mpr c39
                                            clear c39
                                            have H' := Aside0.mk H
                                            clear H
                                            have p231 : 0 ≤ (x85_3 : Int) := of_decide_eq_true (by first | (with_reducible assumption) | assumption)
                                            have q231 : x85_3 < (t213.length : Int) := of_decide_eq_true (by first | (with_reducible assumption) | assumption)
                                            obtain ⟨ad231, e231, hx231_0⟩ := Kd.at_bool (Kd.R_reads' HO_5.out).2.2 x85_3 p231 q231
                                            (try rw [← Nbq35.out] at hx231_0)
                                            cases e231
                                            replace p231 := eq_true p231
                                            replace q231 := eq_true q231
                                            obtain ⟨Ao40, co40, eo40⟩ := Kd.R_slice HO_10.out
                                            subst eo40
                                            have p232 : 0 ≤ (x16_4 : Int) := of_decide_eq_true (by first | (with_reducible assumption) | assumption)
                                            have q232 : x16_4 < (t222.length : Int) := of_decide_eq_true (by first | (with_reducible assumption) | assumption)
                                            obtain ⟨ad232, e232, hx232_0⟩ := Kd.at_int (Kd.R_reads' HO_10.out).2.2 x16_4 p232 q232
                                            cases e232
                                            replace p232 := eq_true p232
                                            replace q232 := eq_true q232
                                            go_wp2
                                            go_roundg k4
                                            case measure => have := HJ2.out; have := HJ13.out; have := HK3.out; have := HK4.out; omega
                                            case rel => exact ⟨(true), (wrap64 (x16_4 + 1)), (by first | rfl | (simp; done) | (simp [*]; done)), (by first | rfl | (simp; done) | (simp [*]; done)), H', ⟨by have := HJ2.out; have := HJ13.out; have := HK3.out; have := HK4.out; omega⟩, ⟨by (with_reducible repeat (first | apply Kd.R_alloc | apply Kd.R_drewN | apply Kd.R_drew)); exact HO_5.out⟩, ⟨by (with_reducible repeat (first | apply Kd.R_alloc | apply Kd.R_drewN | apply Kd.R_drew)); exact HO_7.out⟩, ⟨by (with_reducible repeat (first | apply Kd.R_alloc | apply Kd.R_drewN | apply Kd.R_drew)); exact HO_9.out⟩, ⟨by (with_reducible repeat (first | apply Kd.R_alloc | apply Kd.R_drewN | apply Kd.R_drew)); exact HO_10.out⟩, ⟨by repeat (first | (with_reducible first | exact HB.out | apply below_alloc | apply pw_below_drewN | apply below_drew1) | exact HB.out)⟩⟩
                                          · rw [if_neg c39] at H
                                            exact absurd H (by simp)
                                        · rw [if_neg c38] at H
                                          exact absurd H (by simp)
                                      · rw [if_neg c37] at H
                                        exact absurd H (by simp)
                                    · replace c36 := Bool.eq_false_iff.mpr c36
                                      subst c36
                                      have H1 : (shawmlaw13_StereoSame.l1 k4 l0 t213 t217 t221 t222 x12_3 x85_3 (rd l1 x85_3) true (wrap64 (x16_4 + 1)) l1 (l1.length : Int) x85_3) = some r := by rw [if_neg (show ¬ (false = true) by decide)] at H; exact H
                                      clear H
                                      have H := H1
                                      clear H1
                                      have H' := Aside0.mk H
                                      clear H
                                      have p231 : 0 ≤ (x85_3 : Int) := of_decide_eq_true (by first | (with_reducible assumption) | assumption)
                                      have q231 : x85_3 < (t213.length : Int) := of_decide_eq_true (by first | (with_reducible assumption) | assumption)
                                      obtain ⟨ad231, e231, hx231_0⟩ := Kd.at_bool (Kd.R_reads' HO_5.out).2.2 x85_3 p231 q231
                                      (try rw [← Nbq35.out] at hx231_0)
                                      cases e231
                                      replace p231 := eq_true p231
                                      replace q231 := eq_true q231
                                      go_wp2
                                      go_roundg k4
                                      case measure => have := HJ2.out; have := HJ13.out; have := HK3.out; have := HK4.out; omega
                                      case rel => exact ⟨(true), (wrap64 (x16_4 + 1)), (by first | rfl | (simp; done) | (simp [*]; done)), (by first | rfl | (simp; done) | (simp [*]; done)), H', ⟨by have := HJ2.out; have := HJ13.out; have := HK3.out; have := HK4.out; omega⟩, ⟨by (with_reducible repeat (first | apply Kd.R_alloc | apply Kd.R_drewN | apply Kd.R_drew)); exact HO_5.out⟩, ⟨by (with_reducible repeat (first | apply Kd.R_alloc | apply Kd.R_drewN | apply Kd.R_drew)); exact HO_7.out⟩, ⟨by (with_reducible repeat (first | apply Kd.R_alloc | apply Kd.R_drewN | apply Kd.R_drew)); exact HO_9.out⟩, ⟨by (with_reducible repeat (first | apply Kd.R_alloc | apply Kd.R_drewN | apply Kd.R_drew)); exact HO_10.out⟩, ⟨by repeat (first | (with_reducible first | exact HB.out | apply below_alloc | apply pw_below_drewN | apply below_drew1) | exact HB.out)⟩⟩
                                  · rw [if_neg c34] at H
                                    exact absurd H (by simp)
                                · rw [if_neg c33] at H
                                  exact absurd H (by simp)
                              · replace c32 := Bool.eq_false_iff.mpr c32
                                subst c32
                                have H1 : (if 0 ≤ x16_4 then (if x16_4 < (l0.length : Int) then (if 0 ≤ x85_3 then (if x85_3 < (t213.length : Int) then (if rdOf false t213 x85_3 = true then (if x16_4 < (t222.length : Int) then (if (rd t222 x16_4) = 0 then (shawmlaw13_StereoSame.l1 k4 l0 t213 t217 t221 t222 x12_3 x85_3 (rd l1 x85_3) ((rd l0 x16_4) != 0) (wrap64 (x16_4 + 1)) l1 (l1.length : Int) x85_3) else (none)) else (none)) else (shawmlaw13_StereoSame.l1 k4 l0 t213 t217 t221 t222 x12_3 x85_3 (rd l1 x85_3) ((rd l0 x16_4) != 0) (wrap64 (x16_4 + 1)) l1 (l1.length : Int) x85_3)) else (none)) else (none)) else (none)) else (none)) = some r := by rw [if_neg (show ¬ (false = true) by decide)] at H; exact H
                                clear H
                                have H := H1
                                clear H1
                                by_cases c41 : 0 ≤ x16_4
                                · rw [if_pos c41] at H
                                  have c41b0 : decide (0 ≤ x16_4) = true := decide_eq_true c41
                                  clear c41
                                  by_cases c42 : x16_4 < (l0.length : Int)
                                  · rw [if_pos c42] at H
                                    have c42b0 : decide (x16_4 < (l0.length : Int)) = true := decide_eq_true c42
                                    clear c42
                                    by_cases c43 : 0 ≤ x85_3
                                    · rw [if_pos c43] at H
                                      have c43b0 : decide (0 ≤ x85_3) = true := decide_eq_true c43
                                      clear c43
                                      by_cases c44 : x85_3 < (t213.length : Int)
                                      · rw [if_pos c44] at H
                                        have c44b0 : decide (x85_3 < (t213.length : Int)) = true := decide_eq_true c44
                                        clear c44
                                        obtain ⟨bq45, hbq45⟩ : ∃ b_ : Bool, b_ = (rdOf false t213 x85_3) := ⟨_, rfl⟩
                                        replace H : (if bq45 = true then (if x16_4 < (t222.length : Int) then (if (rd t222 x16_4) = 0 then (shawmlaw13_StereoSame.l1 k4 l0 t213 t217 t221 t222 x12_3 x85_3 (rd l1 x85_3) ((rd l0 x16_4) != 0) (wrap64 (x16_4 + 1)) l1 (l1.length : Int) x85_3) else (none)) else (none)) else (shawmlaw13_StereoSame.l1 k4 l0 t213 t217 t221 t222 x12_3 x85_3 (rd l1 x85_3) ((rd l0 x16_4) != 0) (wrap64 (x16_4 + 1)) l1 (l1.length : Int) x85_3)) = some r := by rw [← hbq45] at H; exact H
                                        have Nbq45 := Aside0.mk hbq45
                                        clear hbq45
                                        by_cases c46 : bq45 = true
                                        · subst c46
                                          have H1 : (if x16_4 < (t222.length : Int) then (if (rd t222 x16_4) = 0 then (shawmlaw13_StereoSame.l1 k4 l0 t213 t217 t221 t222 x12_3 x85_3 (rd l1 x85_3) ((rd l0 x16_4) != 0) (wrap64 (x16_4 + 1)) l1 (l1.length : Int) x85_3) else (none)) else (none)) = some r := by rw [if_pos rfl] at H; exact H
                                          clear H
                                          have H := H1
                                          clear H1
                                          by_cases c47 : x16_4 < (t222.length : Int)
                                          · rw [if_pos c47] at H
                                            have c47b0 : decide (x16_4 < (t222.length : Int)) = true := decide_eq_true c47
                                            clear c47
                                            by_cases c48 : (rd t222 x16_4) = 0
                                            · rw [if_pos c48] at H
                                              have c48b0 : ((rd t222 x16_4) == 0) = true := beq_iff_eq.mpr c48
                                              have c48b1 : ((rd t222 x16_4) != 0) = false := bne_eq_false_iff_eq.mpr c48
                                              clear c48
                                              have H' := Aside0.mk H
                                              clear H
                                              have p233 : 0 ≤ (x16_4 : Int) := of_decide_eq_true (by first | (with_reducible assumption) | assumption)
                                              have q233 : x16_4 < (l0.length : Int) := of_decide_eq_true (by first | (with_reducible assumption) | assumption)
                                              obtain ⟨ad233, e233, hx233_0⟩ := Kd.at_int HR0.out x16_4 p233 q233
                                              cases e233
                                              replace hx233_0 := (HB.out.cell (World.block_lt_of_cell? w _ hx233_0)).trans hx233_0
                                              replace p233 := eq_true p233
                                              replace q233 := eq_true q233
                                              have p234 : 0 ≤ (x85_3 : Int) := of_decide_eq_true (by first | (with_reducible assumption) | assumption)
                                              have q234 : x85_3 < (t213.length : Int) := of_decide_eq_true (by first | (with_reducible assumption) | assumption)
                                              obtain ⟨ad234, e234, hx234_0⟩ := Kd.at_bool (Kd.R_reads' HO_5.out).2.2 x85_3 p234 q234
                                              (try rw [← Nbq45.out] at hx234_0)
                                              cases e234
                                              replace p234 := eq_true p234
                                              replace q234 := eq_true q234
                                              obtain ⟨Ao49, co49, eo49⟩ := Kd.R_slice HO_10.out
                                              subst eo49
                                              have p235 : 0 ≤ (x16_4 : Int) := of_decide_eq_true (by first | (with_reducible assumption) | assumption)
                                              have q235 : x16_4 < (t222.length : Int) := of_decide_eq_true (by first | (with_reducible assumption) | assumption)
                                              obtain ⟨ad235, e235, hx235_0⟩ := Kd.at_int (Kd.R_reads' HO_10.out).2.2 x16_4 p235 q235
                                              cases e235
                                              replace p235 := eq_true p235
                                              replace q235 := eq_true q235
                                              go_wp2
                                              go_roundg k4
                                              case measure => have := HJ2.out; have := HJ13.out; have := HK3.out; have := HK4.out; omega
                                              case rel => exact ⟨(((rd l0 x16_4) != 0)), (wrap64 (x16_4 + 1)), (by first | rfl | (simp; done) | (simp [*]; done)), (by first | rfl | (simp; done) | (simp [*]; done)), H', ⟨by have := HJ2.out; have := HJ13.out; have := HK3.out; have := HK4.out; omega⟩, ⟨by (with_reducible repeat (first | apply Kd.R_alloc | apply Kd.R_drewN | apply Kd.R_drew)); exact HO_5.out⟩, ⟨by (with_reducible repeat (first | apply Kd.R_alloc | apply Kd.R_drewN | apply Kd.R_drew)); exact HO_7.out⟩, ⟨by (with_reducible repeat (first | apply Kd.R_alloc | apply Kd.R_drewN | apply Kd.R_drew)); exact HO_9.out⟩, ⟨by (with_reducible repeat (first | apply Kd.R_alloc | apply Kd.R_drewN | apply Kd.R_drew)); exact HO_10.out⟩, ⟨by repeat (first | (with_reducible first | exact HB.out | apply below_alloc | apply pw_below_drewN | apply below_drew1) | exact HB.out)⟩⟩
                                            · rw [if_neg c48] at H
                                              exact absurd H (by simp)
                                          · rw [if_neg c47] at H
                                            exact absurd H (by simp)
                                        · replace c46 := Bool.eq_false_iff.mpr c46
                                          subst c46
                                          have H1 : (shawmlaw13_StereoSame.l1 k4 l0 t213 t217 t221 t222 x12_3 x85_3 (rd l1 x85_3) ((rd l0 x16_4) != 0) (wrap64 (x16_4 + 1)) l1 (l1.length : Int) x85_3) = some r := by rw [if_neg (show ¬ (false = true) by decide)] at H; exact H
                                          clear H
                                          have H := H1
                                          clear H1
                                          have H' := Aside0.mk H
                                          clear H
                                          have p233 : 0 ≤ (x16_4 : Int) := of_decide_eq_true (by first | (with_reducible assumption) | assumption)
                                          have q233 : x16_4 < (l0.length : Int) := of_decide_eq_true (by first | (with_reducible assumption) | assumption)
                                          obtain ⟨ad233, e233, hx233_0⟩ := Kd.at_int HR0.out x16_4 p233 q233
                                          cases e233
                                          replace hx233_0 := (HB.out.cell (World.block_lt_of_cell? w _ hx233_0)).trans hx233_0
                                          replace p233 := eq_true p233
                                          replace q233 := eq_true q233
                                          have p234 : 0 ≤ (x85_3 : Int) := of_decide_eq_true (by first | (with_reducible assumption) | assumption)
                                          have q234 : x85_3 < (t213.length : Int) := of_decide_eq_true (by first | (with_reducible assumption) | assumption)
                                          obtain ⟨ad234, e234, hx234_0⟩ := Kd.at_bool (Kd.R_reads' HO_5.out).2.2 x85_3 p234 q234
                                          (try rw [← Nbq45.out] at hx234_0)
                                          cases e234
                                          replace p234 := eq_true p234
                                          replace q234 := eq_true q234
                                          go_wp2
                                          go_roundg k4
                                          case measure => have := HJ2.out; have := HJ13.out; have := HK3.out; have := HK4.out; omega
                                          case rel => exact ⟨(((rd l0 x16_4) != 0)), (wrap64 (x16_4 + 1)), (by first | rfl | (simp; done) | (simp [*]; done)), (by first | rfl | (simp; done) | (simp [*]; done)), H', ⟨by have := HJ2.out; have := HJ13.out; have := HK3.out; have := HK4.out; omega⟩, ⟨by (with_reducible repeat (first | apply Kd.R_alloc | apply Kd.R_drewN | apply Kd.R_drew)); exact HO_5.out⟩, ⟨by (with_reducible repeat (first | apply Kd.R_alloc | apply Kd.R_drewN | apply Kd.R_drew)); exact HO_7.out⟩, ⟨by (with_reducible repeat (first | apply Kd.R_alloc | apply Kd.R_drewN | apply Kd.R_drew)); exact HO_9.out⟩, ⟨by (with_reducible repeat (first | apply Kd.R_alloc | apply Kd.R_drewN | apply Kd.R_drew)); exact HO_10.out⟩, ⟨by repeat (first | (with_reducible first | exact HB.out | apply below_alloc | apply pw_below_drewN | apply below_drew1) | exact HB.out)⟩⟩
                                      · rw [if_neg c44] at H
                                        exact absurd H (by simp)
                                    · rw [if_neg c43] at H
                                      exact absurd H (by simp)
                                  · rw [if_neg c42] at H
                                    exact absurd H (by simp)
                                · rw [if_neg c41] at H
                                  exact absurd H (by simp)
                            · rw [if_neg c31] at H
                              have c31b0 : decide (x16_4 < (wrap64 (x12_3 + (rd l1 x85_3)))) = false := decide_eq_false c31
                              clear c31
                              by_cases c50 : 0 ≤ x85_3
                              · rw [if_pos c50] at H
                                have c50b0 : decide (0 ≤ x85_3) = true := decide_eq_true c50
                                clear c50
                                by_cases c51 : x85_3 < (t213.length : Int)
                                · rw [if_pos c51] at H
                                  have c51b0 : decide (x85_3 < (t213.length : Int)) = true := decide_eq_true c51
                                  clear c51
                                  by_cases c52 : ((rdOf false t213 x85_3) != x15_4) = true
                                  · rw [if_pos c52] at H
                                    exact absurd H (by simp)
                                  · rw [if_neg c52] at H
                                    have c52b0 : ((rdOf false t213 x85_3) != x15_4) = false := by simpa using c52
                                    (try (have c52b1 : decide ((rdOf false t213 x85_3) = x15_4) = true := by simpa using c52))
                                    (try (have c52b2 : ((rdOf false t213 x85_3) == x15_4) = true := by simpa using c52))
                                    clear c52
                                    by_cases c53 : x15_4 = true
                                    · subst c53
                                      have H1 : (if x85_3 < (t217.length : Int) then (if (rd t217 x85_3) = 256 then (shawmlaw13_StereoSame.l0 k4 l0 t213 t217 t221 t222 (wrap64 (x12_3 + (rd l1 x85_3))) l1 (l1.length : Int) (wrap64 (x85_3 + 1))) else (none)) else (none)) = some r := by rw [if_pos rfl] at H; exact H
                                      clear H
                                      have H := H1
                                      clear H1
                                      by_cases c54 : x85_3 < (t217.length : Int)
                                      · rw [if_pos c54] at H
                                        have c54b0 : decide (x85_3 < (t217.length : Int)) = true := decide_eq_true c54
                                        clear c54
                                        by_cases c55 : (rd t217 x85_3) = 256
                                        · rw [if_pos c55] at H
                                          have c55b0 : ((rd t217 x85_3) == 256) = true := beq_iff_eq.mpr c55
                                          have c55b1 : ((rd t217 x85_3) != 256) = false := bne_eq_false_iff_eq.mpr c55
                                          clear c55
                                          have H' := Aside0.mk H
                                          clear H
                                          have p236 : 0 ≤ (x85_3 : Int) := of_decide_eq_true (by first | (with_reducible assumption) | assumption)
                                          have q236 : x85_3 < (t213.length : Int) := of_decide_eq_true (by first | (with_reducible assumption) | assumption)
                                          obtain ⟨ad236, e236, hx236_0⟩ := Kd.at_bool (Kd.R_reads' HO_5.out).2.2 x85_3 p236 q236
                                          cases e236
                                          replace p236 := eq_true p236
                                          replace q236 := eq_true q236
                                          obtain ⟨Ao56, co56, eo56⟩ := Kd.R_slice HO_7.out
                                          subst eo56
                                          have p237 : 0 ≤ (x85_3 : Int) := of_decide_eq_true (by first | (with_reducible assumption) | assumption)
                                          have q237 : x85_3 < (t217.length : Int) := of_decide_eq_true (by first | (with_reducible assumption) | assumption)
                                          obtain ⟨ad237, e237, hx237_0⟩ := Kd.at_int (Kd.R_reads' HO_7.out).2.2 x85_3 p237 q237
                                          cases e237
                                          replace p237 := eq_true p237
                                          replace q237 := eq_true q237
                                          go_wp2
                                          go_roundg k4
                                          case measure => have := HJ2.out; have := HJ13.out; have := HK3.out; have := HK4.out; omega
                                          case rel => exact ⟨(wrap64 (x12_3 + (rd l1 x85_3))), (wrap64 (x85_3 + 1)), (by first | rfl | (simp; done) | (simp [*]; done)), (by first | rfl | (simp; done) | (simp [*]; done)), H', ⟨by have := HJ2.out; have := HJ13.out; have := HK3.out; have := HK4.out; omega⟩, ⟨by (with_reducible repeat (first | apply Kd.R_alloc | apply Kd.R_drewN | apply Kd.R_drew)); exact HO_5.out⟩, ⟨by (with_reducible repeat (first | apply Kd.R_alloc | apply Kd.R_drewN | apply Kd.R_drew)); exact HO_7.out⟩, ⟨by (with_reducible repeat (first | apply Kd.R_alloc | apply Kd.R_drewN | apply Kd.R_drew)); exact HO_9.out⟩, ⟨by (with_reducible repeat (first | apply Kd.R_alloc | apply Kd.R_drewN | apply Kd.R_drew)); exact HO_10.out⟩, ⟨by repeat (first | (with_reducible first | exact HB.out | apply below_alloc | apply pw_below_drewN | apply below_drew1) | exact HB.out)⟩⟩
                                        · rw [if_neg c55] at H
                                          exact absurd H (by simp)
                                      · rw [if_neg c54] at H
                                        exact absurd H (by simp)
                                    · replace c53 := Bool.eq_false_iff.mpr c53
                                      subst c53
                                      have H1 : (if x85_3 < (t217.length : Int) then (if (rd t217 x85_3) = 0 then (shawmlaw13_StereoSame.l0 k4 l0 t213 t217 t221 t222 (wrap64 (x12_3 + (rd l1 x85_3))) l1 (l1.length : Int) (wrap64 (x85_3 + 1))) else (none)) else (none)) = some r := by rw [if_neg (show ¬ (false = true) by decide)] at H; exact H
                                      clear H
                                      have H := H1
                                      clear H1
                                      by_cases c57 : x85_3 < (t217.length : Int)
                                      · rw [if_pos c57] at H
                                        have c57b0 : decide (x85_3 < (t217.length : Int)) = true := decide_eq_true c57
                                        clear c57
                                        by_cases c58 : (rd t217 x85_3) = 0
                                        · rw [if_pos c58] at H
                                          have c58b0 : ((rd t217 x85_3) == 0) = true := beq_iff_eq.mpr c58
                                          have c58b1 : ((rd t217 x85_3) != 0) = false := bne_eq_false_iff_eq.mpr c58
                                          clear c58
                                          have H' := Aside0.mk H
                                          clear H
                                          have p236 : 0 ≤ (x85_3 : Int) := of_decide_eq_true (by first | (with_reducible assumption) | assumption)
                                          have q236 : x85_3 < (t213.length : Int) := of_decide_eq_true (by first | (with_reducible assumption) | assumption)
                                          obtain ⟨ad236, e236, hx236_0⟩ := Kd.at_bool (Kd.R_reads' HO_5.out).2.2 x85_3 p236 q236
                                          cases e236
                                          replace p236 := eq_true p236
                                          replace q236 := eq_true q236
                                          obtain ⟨Ao59, co59, eo59⟩ := Kd.R_slice HO_7.out
                                          subst eo59
                                          have p238 : 0 ≤ (x85_3 : Int) := of_decide_eq_true (by first | (with_reducible assumption) | assumption)
                                          have q238 : x85_3 < (t217.length : Int) := of_decide_eq_true (by first | (with_reducible assumption) | assumption)
                                          obtain ⟨ad238, e238, hx238_0⟩ := Kd.at_int (Kd.R_reads' HO_7.out).2.2 x85_3 p238 q238
                                          cases e238
                                          replace p238 := eq_true p238
                                          replace q238 := eq_true q238
                                          go_wp2
                                          go_roundg k4
                                          case measure => have := HJ2.out; have := HJ13.out; have := HK3.out; have := HK4.out; omega
                                          case rel => exact ⟨(wrap64 (x12_3 + (rd l1 x85_3))), (wrap64 (x85_3 + 1)), (by first | rfl | (simp; done) | (simp [*]; done)), (by first | rfl | (simp; done) | (simp [*]; done)), H', ⟨by have := HJ2.out; have := HJ13.out; have := HK3.out; have := HK4.out; omega⟩, ⟨by (with_reducible repeat (first | apply Kd.R_alloc | apply Kd.R_drewN | apply Kd.R_drew)); exact HO_5.out⟩, ⟨by (with_reducible repeat (first | apply Kd.R_alloc | apply Kd.R_drewN | apply Kd.R_drew)); exact HO_7.out⟩, ⟨by (with_reducible repeat (first | apply Kd.R_alloc | apply Kd.R_drewN | apply Kd.R_drew)); exact HO_9.out⟩, ⟨by (with_reducible repeat (first | apply Kd.R_alloc | apply Kd.R_drewN | apply Kd.R_drew)); exact HO_10.out⟩, ⟨by repeat (first | (with_reducible first | exact HB.out | apply below_alloc | apply pw_below_drewN | apply below_drew1) | exact HB.out)⟩⟩
                                        · rw [if_neg c58] at H
                                          exact absurd H (by simp)
                                      · rw [if_neg c57] at H
                                        exact absurd H (by simp)
                                · rw [if_neg c51] at H
                                  exact absurd H (by simp)
                              · rw [if_neg c50] at H
                                exact absurd H (by simp)
                      · rw [if_neg c30] at H
                        exact absurd H (by simp)
                    · rw [if_neg c29] at H
                      exact absurd H (by simp)
                  · rw [if_neg c28] at H
                    have c28b0 : decide (x85_3 < (l1.length : Int)) = false := decide_eq_false c28
                    clear c28
                    replace H := Option.bind_eq_some_iff.mp H
                    obtain ⟨t228, A600, H⟩ := H
                    replace H : (if t228 = true then ((shawmlaw13_awake.f).bind fun t229 => (some t229)) else (none)) = some r := H
                    have A60 := Aside0.mk A600
                    clear A600
                    by_cases c61 : t228 = true
                    · subst c61
                      have H1 : ((shawmlaw13_awake.f).bind fun t229 => (some t229)) = some r := by rw [if_pos rfl] at H; exact H
                      clear H
                      have H := H1
                      clear H1
                      replace H := Option.bind_eq_some_iff.mp H
                      obtain ⟨t229, A620, H⟩ := H
                      replace H : (some t229) = some r := H
                      have A62 := Aside0.mk A620
                      clear A620
                      obtain rfl := Option.some.inj H
                      obtain ⟨Ao63, co63, eo63⟩ := Kd.R_slice HO_9.out
                      subst eo63
                      go_wp2_with (first | ((with_reducible refine gate_callee (f := 17) rfl ?_); refine goesL_ (some 150) rfl rfl Try.func17 (by kernel_rfl) rfl #[.slice Ao63 t221.length co63, .slice A0 l0.length c0] rfl (by (try simp only [List.map_toArray, List.map_cons, List.map_nil]); first | done | rfl | (simp only [List.length_drop, List.length_take]; rfl)) ?_; (with_reducible refine (shawmref02_Ints.calls k3 _ _ t221 _ _ l0 true _ ?side1 ?side2 ?side3 ?side4 A60.out).mono ?_); (case side1 => repeat (first | exact (Kd.R_reads' HO_9.out).2.2 | (with_reducible refine Kd.C_alloc ?_ _) | (with_reducible refine Kd.C_drewN ?_ _) | (with_reducible refine Kd.C_drew ?_))); (case side2 => exact (Kd.R_reads' HO_9.out).2.1); (case side3 => repeat (first | exact (Kd.C_below HR0.out HB.out) | (with_reducible refine Kd.C_alloc ?_ _) | (with_reducible refine Kd.C_drewN ?_ _) | (with_reducible refine Kd.C_drew ?_))); (case side4 => exact HC0.out); rintro e w' ⟨rfl, ⟨nd, rfl⟩⟩; refine ⟨_, rfl, ?_⟩) | (go_at_call 10; (with_reducible refine (shawmlaw13_awake.calls  t229 _ A62.out).mono ?_); rintro e w64 ⟨rfl, hb⟩; have n0_ := Aside0.mk (Kd.R_below (by (with_reducible repeat (first | apply Kd.R_alloc | apply Kd.R_drewN | apply Kd.R_drew)); exact HO_5.out) hb); have n1_ := Aside0.mk (Kd.R_below (by (with_reducible repeat (first | apply Kd.R_alloc | apply Kd.R_drewN | apply Kd.R_drew)); exact HO_7.out) hb); have n2_ := Aside0.mk (Kd.R_below (by (with_reducible repeat (first | apply Kd.R_alloc | apply Kd.R_drewN | apply Kd.R_drew)); exact HO_9.out) hb); have n3_ := Aside0.mk (Kd.R_below (by (with_reducible repeat (first | apply Kd.R_alloc | apply Kd.R_drewN | apply Kd.R_drew)); exact HO_10.out) hb); have n4_ := Aside0.mk (below_step (by repeat (first | (with_reducible first | exact HB.out | apply below_alloc | apply pw_below_drewN | apply below_drew1) | exact HB.out)) hb); clear HO_5; clear HO_7; clear HO_9; clear HO_10; clear HB; have HO_5 := n0_; have HO_7 := n1_; have HO_9 := n2_; have HO_10 := n3_; have HB := n4_; clear n0_ n1_ n2_ n3_ n4_; (try clear hb); (try clear hb2); (try clear hk); (try clear hi)))
                      go_ret
                      exact ⟨by first | rfl | (simp [errW_none, errW_some] <;> rfl) | (simp [*, errW_none, errW_some] <;> rfl), by repeat (first | (with_reducible first | exact HB.out | apply below_alloc | apply pw_below_drewN | apply below_drew1) | exact HB.out)⟩
                    · replace c61 := Bool.eq_false_iff.mpr c61
                      subst c61
                      have H1 : (none) = some r := by rw [if_neg (show ¬ (false = true) by decide)] at H; exact H
                      clear H
                      have H := H1
                      clear H1
                      exact absurd H (by simp)

/-- THE ONE PURE STATEMENT of shawmlaw13_StereoSame: yours. -/
def shawmlaw13_StereoSame.Pure : Prop := ∀ (l0 : List Int) (l1 : List Int), l0.length ≤ maxLen → l0.length * 8 ≤ 140737488351232 → (∀ x ∈ l0, (Lit.int .i64 x).wf = true) → l1.length ≤ maxLen → l1.length * 8 ≤ 140737488351232 → (∀ x ∈ l1, (Lit.int .i64 x).wf = true) → ∃ k, shawmlaw13_StereoSame.f k l0 l1 = some true
theorem shawmlaw13_StereoSame.walk (P : shawmlaw13_StereoSame.Pure) (a0 : Option Addr) (len0 cap0 : Nat) (z0 : List Int) (a1 : Option Addr) (len1 cap1 : Nat) (z1 : List Int) (w : World) (w0 : (a0 = none ∧ len0 = 0 ∧ cap0 = 0 ∧ z0 = []) ∨ ∃ x, a0 = some x ∧ len0 ≤ cap0 ∧ cap0 ≤ maxLen ∧ z0.length = cap0 ∧ (∀ i, i < z0.length → w.cell? (x.add i) = some (.int .i64 (z0.getD i 0))) ∧ ∀ n ∈ z0, (Lit.int .i64 n).wf = true) (y0 : len0 * 8 ≤ 140737488351232) (w1 : (a1 = none ∧ len1 = 0 ∧ cap1 = 0 ∧ z1 = []) ∨ ∃ x, a1 = some x ∧ len1 ≤ cap1 ∧ cap1 ≤ maxLen ∧ z1.length = cap1 ∧ (∀ i, i < z1.length → w.cell? (x.add i) = some (.int .i64 (z1.getD i 0))) ∧ ∀ n ∈ z1, (Lit.int .i64 n).wf = true) (y1 : len1 * 8 ≤ 140737488351232) :
    Calls Try.prog 8 #[.slice a0 len0 cap0, .slice a1 len1 cap1] w fun e w' => e = .returned (.bool true) ∧ Below w.heap.size w w' := by
  obtain ⟨l0, rfl, hr0, hm0, hw0, hc0⟩ := ReadsInt.ofRowC w0
  obtain ⟨l1, rfl, hr1, hm1, hw1, hc1⟩ := ReadsInt.ofRowC w1
  obtain ⟨k, h⟩ := P l0 l1 hm0 y0 hw0 hm1 y1 hw1
  refine (shawmlaw13_StereoSame.calls k _ _ l0 _ _ l1 true w (Kd.C_of_reads (d := (0 : Int)) (h1 := fun _ => rfl) hr0) hc0 (Kd.C_of_reads (d := (0 : Int)) (h1 := fun _ => rfl) hr1) hc1 h).mono ?_
  rintro e w' ⟨rfl, hd⟩
  exact ⟨rfl, hd⟩

end Go.Proofs.Ytjplalkgabpinaa.Hn
