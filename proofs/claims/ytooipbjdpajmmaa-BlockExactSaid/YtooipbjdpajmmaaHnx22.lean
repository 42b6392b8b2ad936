/- The machine's side of laws of the seat Ytooipbjdpajmmaa, printed by a program of this session over the kit's printer: functions of the Go program as Lean functions, each with a proof that the call computes it. Conditions: none beyond each theorem's own. -/
import Derived.Test.YtooipbjdpajmmaaHnx0
import Derived.Test.YtooipbjdpajmmaaHnx5
namespace Go.Proofs.Ytooipbjdpajmmaa.Hn
open Go.RowKit Go.Proofs.YtooipbjdpajmmaaW.PrintWords Go.Proofs.YtooipbjdpajmmaaW.PrintLast Go.Proofs.YtooipbjdpajmmaaW.PrintMore
attribute [local go_sem] max2_int min2_int max_two min_two max_three min_three max_four min_four   -- for this text's walks alone
set_option linter.unusedVariables false
set_option linter.unusedSimpArgs false

/-! ### shawmref09_Layout: function 36 -/
mutual
def shawmref09_Layout.l0 : Nat → List Int → List Bool → Int → Int → Option (List Int × Int)
  | 0, _, _, _, _ => none
  | k + 1, x4, x10, x11, x12 => if x12 < x11 then (if 0 ≤ x12 then (if x12 < (x10.length : Int) then (if rdOf false x10 x12 = true then (shawmref09_Layout.l1 k x4 x10 x11 x12 0) else (if x4.length < 17592186044416 then (shawmref09_Layout.l0 k (x4 ++ [128]) x10 x11 (wrap64 (x12 + 1))) else (none))) else (none)) else (none)) else (some (x4, 0))
def shawmref09_Layout.l1 : Nat → List Int → List Bool → Int → Int → Int → Option (List Int × Int)
  | 0, _, _, _, _, _ => none
  | k + 1, x4, x10, x11, x12, x21 => if x21 < 8 then (if x4.length < 17592186044416 then (shawmref09_Layout.l1 k (x4 ++ [16]) x10 x11 x12 (wrap64 (x21 + 1))) else (none)) else (shawmref09_Layout.l0 k x4 x10 x11 (wrap64 (x12 + 1)))
end
def shawmref09_Layout.f (k : Nat) (l0 : List Bool) : Option (List Int × Int) := if (l0.length : Int) > 64 then (some (([] : List Int), 2)) else (shawmref09_Layout.l0 k ([] : List Int) l0 (l0.length : Int) 0)
theorem shawmref09_Layout.mono_l : ∀ k, (∀ y0 y1 y2 y3, LeO (shawmref09_Layout.l0 k y0 y1 y2 y3) (shawmref09_Layout.l0 (k + 1) y0 y1 y2 y3)) ∧ (∀ y0 y1 y2 y3 y4, LeO (shawmref09_Layout.l1 k y0 y1 y2 y3 y4) (shawmref09_Layout.l1 (k + 1) y0 y1 y2 y3 y4))
  | 0 => ⟨fun _ _ _ _ r h => by simp [shawmref09_Layout.l0] at h, fun _ _ _ _ _ r h => by simp [shawmref09_Layout.l1] at h⟩
  | k + 1 => by
    obtain ⟨ih0, ih1⟩ := shawmref09_Layout.mono_l k
    refine ⟨?_, ?_⟩
    · intro y0 y1 y2 y3
      unfold shawmref09_Layout.l0
      repeat' first
      | (with_reducible exact ih0 _ _ _ _)
      | (with_reducible exact ih1 _ _ _ _ _)
      | (with_reducible exact LeO.refl _)
      | (with_reducible exact LeO.none _)
      | (with_reducible refine LeO.ite ?_ ?_)
      | (with_reducible refine LeO.bind ?_ (fun _ => ?_))
      | exact ih0 _ _ _ _
      | exact ih1 _ _ _ _ _
      | exact LeO.none _
      | refine LeO.ite ?_ ?_
      | refine LeO.bind ?_ (fun _ => ?_)
    · intro y0 y1 y2 y3 y4
      unfold shawmref09_Layout.l1
      repeat' first
      | (with_reducible exact ih0 _ _ _ _)
      | (with_reducible exact ih1 _ _ _ _ _)
      | (with_reducible exact LeO.refl _)
      | (with_reducible exact LeO.none _)
      | (with_reducible refine LeO.ite ?_ ?_)
      | (with_reducible refine LeO.bind ?_ (fun _ => ?_))
      | exact ih0 _ _ _ _
      | exact ih1 _ _ _ _ _
      | exact LeO.none _
      | refine LeO.ite ?_ ?_
      | refine LeO.bind ?_ (fun _ => ?_)
theorem shawmref09_Layout.mono : ∀ a0 k, LeO (shawmref09_Layout.f k a0) (shawmref09_Layout.f (k + 1) a0) := by
  intro a0 k
  obtain ⟨ih0, ih1⟩ := shawmref09_Layout.mono_l k
  unfold shawmref09_Layout.f
  repeat' first
      | (with_reducible exact ih0 _ _ _ _)
      | (with_reducible exact ih1 _ _ _ _ _)
      | (with_reducible exact LeO.refl _)
      | (with_reducible exact LeO.none _)
      | (with_reducible refine LeO.ite ?_ ?_)
      | (with_reducible refine LeO.bind ?_ (fun _ => ?_))
      | exact ih0 _ _ _ _
      | exact ih1 _ _ _ _ _
      | exact LeO.none _
      | refine LeO.ite ?_ ?_
      | refine LeO.bind ?_ (fun _ => ?_)
set_option maxHeartbeats 8000000 in
set_option maxRecDepth 100000 in
theorem shawmref09_Layout.calls (k : Nat) (A0 : Option Addr) (c0 : Nat) (l0 : List Bool) (r1 : List Int) (r2 : Int) (w : World) (hr0 : Kd.C Kd.bool w A0 l0.length l0) (hc0 : l0.length ≤ c0) (h : shawmref09_Layout.f k l0 = some (r1, r2)) :
    Calls Try.prog 36 #[.slice A0 l0.length c0] w fun e w' => ∃ v0_ : Value, e = .returned (.tuple #[v0_, .int .i64 r2]) ∧ Kd.R (Kd.int .i64) 3 w' w.heap.size (fun _ => True) v0_ r1 ∧ Below w.heap.size w w' := by
  have HR0 := Aside0.mk hr0
  have HC0 := Aside0.mk hc0
  clear hr0 hc0
  have HB := Aside0.mk (Below.refl w.heap.size w)
  have H : (if (l0.length : Int) > 64 then (some (([] : List Int), 2)) else (shawmref09_Layout.l0 k ([] : List Int) l0 (l0.length : Int) 0)) = some (r1, r2) := h
  clear h
  by_cases c2 : (l0.length : Int) > 64
  · rw [if_pos c2] at H
    have c2b0 : decide (64 < (l0.length : Int)) = true := decide_eq_true c2
    have c2b1 : decide (64 < l0.length) = true := decide_eq_true (by omega)
    clear c2
    simp only [Option.some.injEq, Prod.mk.injEq] at H
    obtain ⟨rfl, rfl⟩ := H
    go_enter Try.func36, Try.ntmps36
    go_wp2
    go_ret2
    exact ⟨_, by first | rfl | (simp [errW_none, errW_some] <;> rfl) | (simp [*, errW_none, errW_some] <;> rfl), by first | exact Kd.R_nil _ _ _ _ _ | exact Kd.N_nil _ _ _ _ _ | exact Kd.V_nil _ _ _ _ _ | exact Kd.Q_nil _ _ _ _ _ | exact Kd.S_nil _ _ _ _ _, by repeat (first | (with_reducible first | exact HB.out | apply below_alloc | apply pw_below_drewN | apply below_drew1) | exact HB.out)⟩
  · rw [if_neg c2] at H
    have c2b0 : decide (64 < (l0.length : Int)) = false := decide_eq_false c2
    have c2b1 : decide (64 < l0.length) = false := decide_eq_false (by omega)
    clear c2
    have H' := Aside0.mk H
    clear H
    go_enter Try.func36, Try.ntmps36
    go_wp2
    go_loopg [4, 12] k (fun kq v4 v12 w' => ∃ (x4_1 : List Int) (x12_1 : Int), v12 = .int .i64 x12_1 ∧ Aside0 (shawmref09_Layout.l0 kq x4_1 l0 (l0.length : Int) x12_1 = some (r1, r2)) ∧ Aside0 (kq ≤ k) ∧ Aside0 (Kd.R (Kd.int .i64) 3 w' w.heap.size (fun _ => True) v4 x4_1) ∧ Aside0 (Below w.heap.size w w'))
    case atStart => exact ⟨(([] : List Int)), (0), (by first | rfl | (simp; done) | (simp [*]; done)), H', ⟨Nat.le_refl _⟩, ⟨by first | exact Kd.R_nil _ _ _ _ _ | exact Kd.N_nil _ _ _ _ _ | exact Kd.V_nil _ _ _ _ _ | exact Kd.Q_nil _ _ _ _ _ | exact Kd.S_nil _ _ _ _ _⟩, ⟨by repeat (first | (with_reducible first | exact HB.out | apply below_alloc | apply pw_below_drewN | apply below_drew1) | exact HB.out)⟩⟩
    case round =>
      clear H'
      try clear c2
      try clear c2b0
      try clear c2b1
      try clear p2
      obtain ⟨x4_1, x12_1, rfl, HA, HK1, HO_4, HB⟩ := hrel
      cases gk with
      | zero => exact absurd HA.out (by simp [shawmref09_Layout.l0])
      | succ k1 =>
        have H := HA.out
        clear HA
        simp only [shawmref09_Layout.l0] at H
        by_cases c3 : x12_1 < (l0.length : Int)
        · rw [if_pos c3] at H
          have c3b0 : decide (x12_1 < (l0.length : Int)) = true := decide_eq_true c3
          clear c3
          by_cases c4 : 0 ≤ x12_1
          · rw [if_pos c4] at H
            have c4b0 : decide (0 ≤ x12_1) = true := decide_eq_true c4
            clear c4
            by_cases c5 : x12_1 < (l0.length : Int)
            · rw [if_pos c5] at H
              have c5b0 : decide (x12_1 < (l0.length : Int)) = true := decide_eq_true c5
              clear c5
              obtain ⟨bq6, hbq6⟩ : ∃ b_ : Bool, b_ = (rdOf false l0 x12_1) := ⟨_, rfl⟩
              replace H : (if bq6 = true then (shawmref09_Layout.l1 k1 x4_1 l0 (l0.length : Int) x12_1 0) else (if x4_1.length < 17592186044416 then (shawmref09_Layout.l0 k1 (x4_1 ++ [128]) l0 (l0.length : Int) (wrap64 (x12_1 + 1))) else (none))) = some (r1, r2) := by rw [← hbq6] at H; exact H
              have Nbq6 := Aside0.mk hbq6
              clear hbq6
              by_cases c7 : bq6 = true
              · subst c7
                have H1 : (shawmref09_Layout.l1 k1 x4_1 l0 (l0.length : Int) x12_1 0) = some (r1, r2) := by rw [if_pos rfl] at H; exact H
                clear H
                have H := H1
                clear H1
                have H' := Aside0.mk H
                clear H
                have p328 : 0 ≤ (x12_1 : Int) := of_decide_eq_true (by first | (with_reducible assumption) | assumption)
                have q328 : x12_1 < (l0.length : Int) := of_decide_eq_true (by first | (with_reducible assumption) | assumption)
                obtain ⟨ad328, e328, hx328_0⟩ := Kd.at_bool HR0.out x12_1 p328 q328
                (try rw [← Nbq6.out] at hx328_0)
                cases e328
                replace hx328_0 := (HB.out.cell (World.block_lt_of_cell? w _ hx328_0)).trans hx328_0
                replace p328 := eq_true p328
                replace q328 := eq_true q328
                go_wp2
                go_loopg [4, 21] k1 (fun kq v4 v21 w' => ∃ (x4_2 : List Int) (x21_2 : Int), v21 = .int .i64 x21_2 ∧ Aside0 (shawmref09_Layout.l1 kq x4_2 l0 (l0.length : Int) x12_1 x21_2 = some (r1, r2)) ∧ Aside0 (kq ≤ k1) ∧ Aside0 (Kd.R (Kd.int .i64) 3 w' w.heap.size (fun _ => True) v4 x4_2) ∧ Aside0 (Below w.heap.size w w'))
                case atStart => exact ⟨(x4_1), (0), (by first | rfl | (simp; done) | (simp [*]; done)), H', ⟨Nat.le_refl _⟩, ⟨by (with_reducible repeat (first | apply Kd.R_alloc | apply Kd.R_drewN | apply Kd.R_drew)); exact HO_4.out⟩, ⟨by repeat (first | (with_reducible first | exact HB.out | apply below_alloc | apply pw_below_drewN | apply below_drew1) | exact HB.out)⟩⟩
                case round =>
                  clear H'
                  try clear c2
                  try clear c2b0
                  try clear c2b1
                  try clear p2
                  try clear c3
                  try clear c3b0
                  try clear p3
                  try clear q3
                  try clear hx3
                  try clear c4
                  try clear c4b0
                  try clear c5
                  try clear c5b0
                  try clear p6
                  try clear q6
                  try clear c7
                  try clear hx328_0
                  try clear p2
                  try clear p328
                  try clear q328
                  obtain ⟨x4_2, x21_2, rfl, HA, HK2, HO_4, HB⟩ := hrel
                  cases gk with
                  | zero => exact absurd HA.out (by simp [shawmref09_Layout.l1])
                  | succ k2 =>
                    have H := HA.out
                    clear HA
                    simp only [shawmref09_Layout.l1] at H
                    by_cases c8 : x21_2 < 8
                    · rw [if_pos c8] at H
                      have c8b0 : decide (x21_2 < 8) = true := decide_eq_true c8
                      clear c8
                      by_cases c9 : x4_2.length < 17592186044416
                      · rw [if_pos c9] at H
                        have LMc9 := Aside0.mk c9
                        clear c9
                        obtain ⟨y332, hy332⟩ : ∃ y_ : List Int, y_ = (x4_2 ++ [16]) := ⟨_, rfl⟩
                        replace H : (shawmref09_Layout.l1 k2 y332 l0 (l0.length : Int) x12_1 (wrap64 (x21_2 + 1))) = some (r1, r2) := by first | (rw [hy332]; with_reducible exact H) | (have H2_ := (Option.bind_some _ _).symm.trans H; rw [hy332]; with_reducible exact H2_) | (have H2_ := (Option.bind_some _ _).symm.trans H; with_reducible exact H2_) | with_reducible exact H | (rw [hy332]; exact H) | exact H
                        have Ny332 := Aside0.mk hy332
                        clear hy332
                        have H' := Aside0.mk H
                        clear H
                        go_wp2_with (first | ((with_reducible refine gate_builtin (b := .append) (xs := #[.tmp 23, .tmp 24]) rfl ?_); at_builtin; refine Kd.R_append (Kd.int .i64) (w0 := w) w.heap.size rfl (.tmp 23) (.tmp 24) 22 3 (.int .i64 0) 8 rfl Try.underlying22 info3 rfl (by decide) (by omega) u4 x4_2 16 [.int .i64 16] (fun _ => True) (fun _ => False) rfl rfl ?aP (fun _ hk => hk.elim) ?aF ?aO ?aB ?aS ?aL ?_; (case aP => exact rfl); (case aB => exact (by repeat (first | (with_reducible first | exact HB.out | apply below_alloc | apply pw_below_drewN | apply below_drew1) | exact HB.out))); (case aF => exact (fun _ _ => trivial)); (case aO => exact (by (with_reducible repeat (first | apply Kd.R_alloc | apply Kd.R_drewN | apply Kd.R_drew)); exact HO_4.out)); (case aS => exact (below_size (by repeat (first | (with_reducible first | exact HB.out | apply below_alloc | apply pw_below_drewN | apply below_drew1) | exact HB.out)))); (case aL => have := LMc9.out; omega); intro v333 w10 ho hb hg hat; rw [← Ny332.out] at ho; have n0_ := Aside0.mk (hb); have n1_ := Aside0.mk (ho); clear HB; clear HO_4; have HB := n0_; have HO334 := n1_; clear n0_ n1_; clear ho hb hg hat))
                        go_roundg k2
                        case measure => have := HK1.out; have := HK2.out; omega
                        case rel => exact ⟨(y332), (wrap64 (x21_2 + 1)), (by first | rfl | (simp; done) | (simp [*]; done)), H', ⟨by have := HK1.out; have := HK2.out; omega⟩, ⟨by (with_reducible repeat (first | apply Kd.R_alloc | apply Kd.R_drewN | apply Kd.R_drew)); exact HO334.out⟩, ⟨by repeat (first | (with_reducible first | exact HB.out | apply below_alloc | apply pw_below_drewN | apply below_drew1) | exact HB.out)⟩⟩
                      · rw [if_neg c9] at H
                        exact absurd H (by simp)
                    · rw [if_neg c8] at H
                      have c8b0 : decide (x21_2 < 8) = false := decide_eq_false c8
                      clear c8
                      have H' := Aside0.mk H
                      clear H
                      go_wp2
                      go_roundg k2
                      case measure => have := HK1.out; have := HK2.out; omega
                      case rel => exact ⟨(x4_2), (wrap64 (x12_1 + 1)), (by first | rfl | (simp; done) | (simp [*]; done)), H', ⟨by have := HK1.out; have := HK2.out; omega⟩, ⟨by (with_reducible repeat (first | apply Kd.R_alloc | apply Kd.R_drewN | apply Kd.R_drew)); exact HO_4.out⟩, ⟨by repeat (first | (with_reducible first | exact HB.out | apply below_alloc | apply pw_below_drewN | apply below_drew1) | exact HB.out)⟩⟩
              · replace c7 := Bool.eq_false_iff.mpr c7
                subst c7
                have H1 : (if x4_1.length < 17592186044416 then (shawmref09_Layout.l0 k1 (x4_1 ++ [128]) l0 (l0.length : Int) (wrap64 (x12_1 + 1))) else (none)) = some (r1, r2) := by rw [if_neg (show ¬ (false = true) by decide)] at H; exact H
                clear H
                have H := H1
                clear H1
                by_cases c11 : x4_1.length < 17592186044416
                · rw [if_pos c11] at H
                  have LMc11 := Aside0.mk c11
                  clear c11
                  obtain ⟨y329, hy329⟩ : ∃ y_ : List Int, y_ = (x4_1 ++ [128]) := ⟨_, rfl⟩
                  replace H : (shawmref09_Layout.l0 k1 y329 l0 (l0.length : Int) (wrap64 (x12_1 + 1))) = some (r1, r2) := by first | (rw [hy329]; with_reducible exact H) | (have H2_ := (Option.bind_some _ _).symm.trans H; rw [hy329]; with_reducible exact H2_) | (have H2_ := (Option.bind_some _ _).symm.trans H; with_reducible exact H2_) | with_reducible exact H | (rw [hy329]; exact H) | exact H
                  have Ny329 := Aside0.mk hy329
                  clear hy329
                  have H' := Aside0.mk H
                  clear H
                  have p328 : 0 ≤ (x12_1 : Int) := of_decide_eq_true (by first | (with_reducible assumption) | assumption)
                  have q328 : x12_1 < (l0.length : Int) := of_decide_eq_true (by first | (with_reducible assumption) | assumption)
                  obtain ⟨ad328, e328, hx328_0⟩ := Kd.at_bool HR0.out x12_1 p328 q328
                  (try rw [← Nbq6.out] at hx328_0)
                  cases e328
                  replace hx328_0 := (HB.out.cell (World.block_lt_of_cell? w _ hx328_0)).trans hx328_0
                  replace p328 := eq_true p328
                  replace q328 := eq_true q328
                  go_wp2_with (first | ((with_reducible refine gate_builtin (b := .append) (xs := #[.tmp 18, .tmp 19]) rfl ?_); at_builtin; refine Kd.R_append (Kd.int .i64) (w0 := w) w.heap.size rfl (.tmp 18) (.tmp 19) 22 3 (.int .i64 0) 8 rfl Try.underlying22 info3 rfl (by decide) (by omega) u4 x4_1 128 [.int .i64 128] (fun _ => True) (fun _ => False) rfl rfl ?aP (fun _ hk => hk.elim) ?aF ?aO ?aB ?aS ?aL ?_; (case aP => exact rfl); (case aB => exact (by repeat (first | (with_reducible first | exact HB.out | apply below_alloc | apply pw_below_drewN | apply below_drew1) | exact HB.out))); (case aF => exact (fun _ _ => trivial)); (case aO => exact (by (with_reducible repeat (first | apply Kd.R_alloc | apply Kd.R_drewN | apply Kd.R_drew)); exact HO_4.out)); (case aS => exact (below_size (by repeat (first | (with_reducible first | exact HB.out | apply below_alloc | apply pw_below_drewN | apply below_drew1) | exact HB.out)))); (case aL => have := LMc11.out; omega); intro v330 w12 ho hb hg hat; rw [← Ny329.out] at ho; have n0_ := Aside0.mk (hb); have n1_ := Aside0.mk (ho); clear HB; clear HO_4; have HB := n0_; have HO331 := n1_; clear n0_ n1_; clear ho hb hg hat))
                  go_roundg k1
                  case measure => have := HK1.out; omega
                  case rel => exact ⟨(y329), (wrap64 (x12_1 + 1)), (by first | rfl | (simp; done) | (simp [*]; done)), H', ⟨by have := HK1.out; omega⟩, ⟨by (with_reducible repeat (first | apply Kd.R_alloc | apply Kd.R_drewN | apply Kd.R_drew)); exact HO331.out⟩, ⟨by repeat (first | (with_reducible first | exact HB.out | apply below_alloc | apply pw_below_drewN | apply below_drew1) | exact HB.out)⟩⟩
                · rw [if_neg c11] at H
                  exact absurd H (by simp)
            · rw [if_neg c5] at H
              exact absurd H (by simp)
          · rw [if_neg c4] at H
            exact absurd H (by simp)
        · rw [if_neg c3] at H
          have c3b0 : decide (x12_1 < (l0.length : Int)) = false := decide_eq_false c3
          clear c3
          simp only [Option.some.injEq, Prod.mk.injEq] at H
          obtain ⟨rfl, rfl⟩ := H
          go_wp2
          go_ret2
          exact ⟨_, by first | rfl | (simp [errW_none, errW_some] <;> rfl) | (simp [*, errW_none, errW_some] <;> rfl), by (with_reducible repeat (first | apply Kd.R_alloc | apply Kd.R_drewN | apply Kd.R_drew)); exact HO_4.out, by repeat (first | (with_reducible first | exact HB.out | apply below_alloc | apply pw_below_drewN | apply below_drew1) | exact HB.out)⟩

/-! ### block_Laps: function 37 (by hand) -/
/-- How long the lap ahead of frame i is. -/
def lapB (l : List Bool) (i : Nat) : Int :=
  if i < 1 ∨ l.length ≤ i then 0 else if (l.getD (i - 1) false || l.getD i false) = true then 16 else 128
theorem lap_tells (l : List Bool) (i : Nat) (hl : l.length ≤ 140737488351232) : block_lap.f 1 l (i : Int) = some (lapB l i) := by
  unfold block_lap.f lapB
  have e5 : rdOf false l (i : Int) = l.getD i false := by unfold rdOf; simp
  by_cases h1 : i < 1
  · rw [if_pos (show (i : Int) < 1 by omega), if_pos (Or.inl h1)]; rfl
  · rw [if_neg (show ¬ (i : Int) < 1 by omega)]
    by_cases h2 : l.length ≤ i
    · rw [if_pos (Or.inr h2), decide_eq_true (show (i : Int) ≥ (l.length : Int) by omega)]; rfl
    · have e2 : wrap64 ((i : Int) - 1) = ((i - 1 : Nat) : Int) := by unfold wrap64; omega
      have e6 : rdOf false l ((i - 1 : Nat) : Int) = l.getD (i - 1) false := by unfold rdOf; simp
      rw [if_neg (by omega), decide_eq_false (show ¬ (i : Int) ≥ (l.length : Int) by omega)]
      simp only [block_lap.j0]
      rw [e2, if_neg (by simp), if_pos (show (0 : Int) ≤ ((i - 1 : Nat) : Int) by omega), if_pos (show ((i - 1 : Nat) : Int) < (l.length : Int) by omega), e6, if_pos (show (0 : Int) ≤ (i : Int) by omega), if_pos (show (i : Int) < (l.length : Int) by omega), e5]
      generalize l.getD i false = a
      generalize l.getD (i - 1) false = b
      cases a <;> cases b <;> rfl
set_option maxHeartbeats 2000000 in
theorem laps1_calls (A : Option Addr) (c b : Nat) (l : List Bool) (i : Nat) (w : World) (hr : Kd.C Kd.bool w A l.length l) (hc : l.length ≤ c) (hb : w.cell? ⟨b, 0, none⟩ = some (.slice A l.length c)) (hi : i < 64) (hl : l.length ≤ 64) :
    Calls Try.prog 58 #[.int .i64 (i : Int), .pointer (some ⟨b, 0, none⟩)] w fun e w' => e = .returned (.int .i64 (lapB l (i + 1))) ∧ Drawn0 w w' := by
  have HR := Aside0.mk hr
  have HC := Aside0.mk hc
  have HL := Aside0.mk hl
  clear hr hc hl
  go_enter Try.func58, Try.ntmps58
  go_wp2_with (go_at_call 50; refine (block_lap.calls 1 A c l ((i : Int) + 1) _ _ HR.out HC.out (lap_tells l (i + 1) (by have := HL.out; omega))).mono ?_; rintro e w' ⟨rfl, hd⟩)
  go_ret
  exact ⟨rfl, hd⟩
set_option maxHeartbeats 4000000 in
set_option maxRecDepth 100000 in
theorem laps_each (A A' : Option Addr) (c c' b n : Nat) (l : List Bool) (w : World) (hr : Kd.C Kd.bool w A l.length l) (hc : l.length ≤ c) (hb : w.cell? ⟨b, 0, none⟩ = some (.slice A l.length c)) (hl : l.length ≤ 64) (hn : n ≤ 64) :
    Calls Try.prog 56 #[.slice A' n c', .func (.func 58) #[] #[.pointer (some ⟨b, 0, none⟩)]] w fun e w' =>
      ∃ v0_ : Value, e = .returned v0_ ∧ Kd.R (Kd.int .i64) 3 w' w.heap.size (fun _ => True) v0_ ((List.range n).map (fun i => lapB l (i + 1))) ∧ Below w.heap.size w w' := by
  have HR := Aside0.mk hr
  have HC := Aside0.mk hc
  have HL := Aside0.mk hl
  have HN := Aside0.mk hn
  have HC0 := Aside0.mk hb
  have hbl := World.block_lt_of_cell? w _ hb
  simp only at hbl
  have HBL := Aside0.mk hbl
  clear hr hc hb hbl
  go_enter Try.func56, Try.ntmps56
  go_wp2
  go_loopw [5, 9] (fun v x wr => ∃ k : Nat, x = .int .i64 k ∧ Aside0 (k ≤ n) ∧ Aside0 (Kd.R (Kd.int .i64) 3 wr w.heap.size (fun _ => True) v ((List.range k).map (fun i => lapB l (i + 1)))) ∧ Aside0 (Below w.heap.size w wr)) (fun _ x _ => n - (intOf x).toNat)
  case atStart => exact ⟨0, rfl, ⟨Nat.zero_le _⟩, ⟨Kd.R_nil _ _ _ _ _⟩, ⟨Below.refl _ _⟩⟩
  case round =>
    obtain ⟨k, rfl, HK, HO, HB⟩ := hrel
    by_cases hlt : k < n
    · have HLT := Aside0.mk hlt
      have hd0 : decide (k < n) = true := decide_eq_true hlt
      have hk64 : k < 64 := by omega
      clear hlt
      have hcell := (HB.out.cell (p := ⟨b, 0, none⟩) HBL.out).trans HC0.out
      have HCELL := Aside0.mk hcell
      clear hcell
      go_wp2_with (first | (go_at_call 58; refine (laps1_calls A c b l k _ (Kd.C_below HR.out (by first | exact HB.out | exact HB.out.drew)) HC.out HCELL.out (by have := HLT.out; have := HN.out; omega) HL.out).mono ?_; rintro e w1 ⟨rfl, ⟨nd, rfl⟩⟩) | ((with_reducible refine gate_builtin (b := .append) (xs := #[.tmp 12, .tmp 16]) rfl ?_); at_builtin; refine Kd.R_append (Kd.int .i64) (w0 := w) w.heap.size rfl (.tmp 12) (.tmp 16) 22 3 (.int .i64 0) 8 rfl Try.underlying22 info3 rfl (by decide) (by omega) _ ((List.range k).map (fun i => lapB l (i + 1))) (lapB l (k + 1)) [.int .i64 (lapB l (k + 1))] (fun _ => True) (fun _ => False) rfl rfl ?aP (fun _ hk => hk.elim) (fun _ _ => trivial) ?aO ?aB ?aS ?aL ?_; (case aP => exact rfl); (case aO => exact HO.out); (case aB => exact pw_below_drewN HB.out _); (case aS => exact HB.out.size); (case aL => have h1 := HK.out; have h2 := HN.out; rw [List.length_map, List.length_range]; omega); intro v1 w1 ho hb1 hg hat; have HO1 := Aside0.mk ho; have HB1 := Aside0.mk hb1; clear ho hb1 hg hat))
      go_roundw
      case rel => exact ⟨k + 1, by go_num, ⟨HLT.out⟩, ⟨by rw [List.range_succ, List.map_append]; exact HO1.out⟩, HB1⟩
      case measure => have := HLT.out; simp [intOf]; omega
    · have hd0 : decide (k < n) = false := decide_eq_false hlt
      obtain rfl : k = n := by have := HK.out; omega
      clear hlt
      go_wp2
      go_ret
      exact ⟨_, rfl, HO.out, HB.out⟩
def block_Laps.f (l0 : List Bool) : Option (List Int × Int) := if 64 < l0.length then some ([], 2) else some ((List.range (l0.length - 1)).map (fun i => lapB l0 (i + 1)), 0)
set_option maxHeartbeats 4000000 in
theorem block_Laps.calls (A0 : Option Addr) (c0 : Nat) (l0 : List Bool) (r1 : List Int) (r2 : Int) (w : World) (hr0 : Kd.C Kd.bool w A0 l0.length l0) (hc0 : l0.length ≤ c0) (h : block_Laps.f l0 = some (r1, r2)) :
    Calls Try.prog 37 #[.slice A0 l0.length c0] w fun e w' => ∃ v0_ : Value, e = .returned (.tuple #[v0_, .int .i64 r2]) ∧ Kd.R (Kd.int .i64) 3 w' w.heap.size (fun _ => True) v0_ r1 ∧ Below w.heap.size w w' := by
  have HR := Aside0.mk hr0
  have HC := Aside0.mk hc0
  clear hr0
  unfold block_Laps.f at h
  by_cases hl : 64 < l0.length
  · rw [if_pos hl] at h
    simp only [Option.some.injEq, Prod.mk.injEq] at h
    obtain ⟨rfl, rfl⟩ := h
    have hd0 : decide (64 < l0.length) = true := decide_eq_true hl
    have hd1 : decide ((64 : Int) < (l0.length : Int)) = true := decide_eq_true (by omega)
    clear hl hc0
    go_enter Try.func37, Try.ntmps37
    go_wp2
    go_ret2
    exact ⟨_, rfl, Kd.R_nil _ _ _ _ _, below_alloc (Below.refl _ _) _⟩
  · rw [if_neg hl] at h
    simp only [Option.some.injEq, Prod.mk.injEq] at h
    obtain ⟨rfl, rfl⟩ := h
    have hd0 : decide (64 < l0.length) = false := decide_eq_false hl
    have hd1 : decide ((64 : Int) < (l0.length : Int)) = false := decide_eq_false (by omega)
    have HL := Aside0.mk (show l0.length ≤ 64 by omega)
    clear hl
    by_cases h0 : l0.length = 0
    · have hz : l0 = [] := List.length_eq_zero_iff.1 h0
      subst hz
      clear h0 hc0
      go_enter Try.func37, Try.ntmps37
      go_wp2
      go_ret2
      exact ⟨_, rfl, Kd.R_nil _ _ _ _ _, below_alloc (Below.refl _ _) _⟩
    · have he0 : ((l0.length : Int) == 0) = false := beq_eq_false_iff_ne.mpr (by omega)
      have he1 : (l0.length == 0) = false := beq_eq_false_iff_ne.mpr (by omega)
      obtain ⟨i0, hi, hz0, hz1, hz2⟩ := info_parts info4
      obtain ⟨A', hs, _, _⟩ := print_drop_of (P := Try.prog) Value.bool false 29 4 .i64 Try.underlying29 hi hz1 A0 c0 l0 1 (by omega) (by omega) hc0
      rw [List.length_drop] at hs
      simp only [Int.toNat_one] at hs
      clear hi hz0 hz1 hz2 h0 hc0
      go_enter Try.func37, Try.ntmps37
      go_wp2_with (go_at_call 56; refine (laps_each A0 A' c0 (c0 - 1) w.heap.size (l0.length - 1) l0 _ (Kd.C_below HR.out (below_alloc (Below.refl _ _) _)) HC.out (by simp) HL.out (by have := HL.out; omega)).mono ?_; rintro e w1 ⟨v0, rfl, ho, hb⟩; have HO := Aside0.mk ho; have HB := Aside0.mk hb; clear ho hb)
      go_ret2
      exact ⟨_, rfl, Kd.R_lower HO.out (by simp), (below_alloc (Below.refl _ _) _).trans (HB.out.mono (by simp))⟩

end Go.Proofs.Ytooipbjdpajmmaa.Hn
