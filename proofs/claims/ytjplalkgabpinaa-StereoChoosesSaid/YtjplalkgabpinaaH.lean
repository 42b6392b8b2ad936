/- Plain facts on the reference's checks and middles. Conditions: none beyond each lemma's own. -/
import Derived.Test.YtjplalkgabpinaaHnx18
import Derived.Test.YtjplalkgabpinaaHnx19
import Derived.Test.YtjplalkgabpinaaQ
namespace Go.Proofs.Ytjplalkgabpinaa.Pure
open Go.RowKit Go.Proofs.Ytjplalkgabpinaa.Hn Go.Proofs.YtjplalkgabpinaaW.PrintWords Go.Proofs.YtjplalkgabpinaaW.PrintLast Go.Proofs.YtjplalkgabpinaaW.PrintMore

theorem channels_ev (l r ws : List Int) (m : Int) (hm0 : 0 ≤ m) (hm1 : m ≤ 8388608) (hl : l.length ≤ 1000) (hr : r.length ≤ 1000) (hw : ws.length ≤ 1000) : Ev (fun k => shawmref13_channels.f k l r ws m) (chkV l r ws m) := by
  unfold shawmref13_channels.f chkV
  refine Ev.bind (widths_ev ws (by omega)) ?_
  by_cases c0 : WOk ws
  · rw [if_pos c0]
    simp only [decide_eq_true c0, if_true]
    by_cases c1 : l.length = 128
    · rw [if_pos c1]
      by_cases c2 : r.length = 128
      · rw [if_pos c2]
        refine Ev.congr (f := fun k => shawmref13_channels.j0 k l r m false) (fun k => by rw [if_pos (by omega), show ((r.length : Int) != 128) = false by rw [c2]; rfl]) ?_
        refine Ev.step (f := fun k => (shawmref06_Within.f k m l).bind fun t240 => (if t240 = true then ((shawmref06_Within.f k m r).bind fun t241 => (if t241 = true then (some 0) else (some 6))) else (some 6))) (fun k => by simp only [shawmref13_channels.j0]; rw [if_neg (by simp)]) ?_
        refine Ev.bind (within_ev l m hm0 (by omega) hl) ?_
        by_cases i0 : Inm m l
        · simp only [decide_eq_true i0, if_true]
          refine Ev.bind (within_ev r m hm0 (by omega) hr) ?_
          by_cases i1 : Inm m r
          · simp only [decide_eq_true i1, if_true]
            rw [if_pos ⟨i0, i1⟩]
            exact Ev.now _
          · rw [if_neg (show ¬ (Inm m l ∧ Inm m r) from fun h => i1 h.2)]
            refine Ev.congr (fun k => ?_) (Ev.now _)
            rw [decide_eq_false i1, if_neg (by simp)]
        · rw [if_neg (show ¬ (Inm m l ∧ Inm m r) from fun h => i0 h.1)]
          refine Ev.congr (fun k => ?_) (Ev.now _)
          rw [decide_eq_false i0, if_neg (by simp)]
      · rw [if_neg c2]
        refine Ev.congr (f := fun k => shawmref13_channels.j0 k l r m true) (fun k => by rw [if_pos (by omega), show ((r.length : Int) != 128) = true by simp; omega]) ?_
        refine Ev.step (f := fun _ => some 4) (fun k => by simp only [shawmref13_channels.j0]; rw [if_pos trivial]) (Ev.now _)
    · rw [if_neg c1]
      refine Ev.congr (f := fun k => shawmref13_channels.j0 k l r m true) (fun k => by rw [if_neg (by omega)]) ?_
      refine Ev.step (f := fun _ => some 4) (fun k => by simp only [shawmref13_channels.j0]; rw [if_pos trivial]) (Ev.now _)
  · rw [if_neg c0]
    refine Ev.congr (fun k => ?_) (Ev.now _)
    simp only [decide_eq_false c0]
    rfl
theorem down_two (d : Int) (h0 : -1099511627776 ≤ d) (h1 : d ≤ 1099511627776) : shawmref03_Down.f d 2 = some (d / 2) := by
  unfold shawmref03_Down.f
  rw [if_neg (by omega)]
  by_cases hd : 0 ≤ d
  · rw [Int.tmod_eq_emod_of_nonneg hd, Int.tdiv_eq_ediv_of_nonneg hd, if_neg (by omega), show wrap64 (d / 2) = d / 2 by unfold wrap64; omega]
  · obtain ⟨e, rfl⟩ : ∃ e, d = -e := ⟨-d, by omega⟩
    rw [Int.neg_tmod, Int.neg_tdiv, Int.tmod_eq_emod_of_nonneg (by omega), Int.tdiv_eq_ediv_of_nonneg (by omega)]
    by_cases hc : -(e % 2) < 0
    · rw [if_pos hc, show wrap64 (-(e / 2)) = -(e / 2) by unfold wrap64; omega, show wrap64 (-(e / 2) - 1) = -(e / 2) - 1 by unfold wrap64; omega]
      congr 1
      omega
    · rw [if_neg hc, show wrap64 (-(e / 2)) = -(e / 2) by unfold wrap64; omega]
      congr 1
      omega
theorem pair_inm {m a b : Int} (h0 : -m ≤ a ∧ a ≤ m) (h1 : -m ≤ b ∧ b ≤ m) : Inm m [a, b] := by
  intro x hx
  rcases List.mem_cons.1 hx with rfl | hx
  · exact h0
  · obtain rfl : x = b := by simpa using hx
    exact h1
theorem within2_ev (a b m : Int) (hm0 : 0 ≤ m) (hm1 : m ≤ 1099511627776) (h0 : -m ≤ a ∧ a ≤ m) (h1 : -m ≤ b ∧ b ≤ m) : Ev (fun k => shawmref06_within.f k m [a, b]) true := by
  have h := within_l0 [a, b] m hm0 hm1 (by simp) 2 0 (by simp)
  rw [List.drop_zero, decide_eq_true (pair_inm h0 h1)] at h
  exact Ev.congr (fun k => rfl) h
theorem refmid_ev (a b : Int) (h0 : -8388608 ≤ a ∧ a ≤ 8388608) (h1 : -8388608 ≤ b ∧ b ≤ 8388608) : Ev (fun k => shawmref06_Mid.f k a b) ((midP a b).1, (midP a b).2, 0) := by
  unfold shawmref06_Mid.f
  refine Ev.bind (within2_ev a b 1073741824 (by omega) (by omega) (by omega) (by omega)) ?_
  simp only [if_true]
  refine Ev.congr (fun k => ?_) (Ev.now _)
  rw [show wrap64 (a - b) = a - b by unfold wrap64; omega, down_two (a - b) (by omega) (by omega), Option.bind_some]
  unfold midP
  dsimp only
  rw [show wrap64 (b + (a - b) / 2) = b + (a - b) / 2 by unfold wrap64; omega]
end Go.Proofs.Ytjplalkgabpinaa.Pure
