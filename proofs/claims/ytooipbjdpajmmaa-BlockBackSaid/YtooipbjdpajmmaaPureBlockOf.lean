/- For all kinds: the flags that the program tells are the reference's, or both tell the same error. Conditions: those of the given statement, no others. -/
import Derived.Test.YtooipbjdpajmmaaK
import Derived.Test.YtooipbjdpajmmaaHnx17
namespace Go.Proofs.Ytooipbjdpajmmaa.Pure
open Go.RowKit Go.Proofs.Ytooipbjdpajmmaa.Hn Go.Proofs.YtooipbjdpajmmaaW.PrintWords Go.Proofs.YtooipbjdpajmmaaW.PrintLast Go.Proofs.YtooipbjdpajmmaaW.PrintMore

theorem of_l1 (l : List Int) (hl : l.length ≤ 64) (d : Nat) : ∀ i : Nat, i + d = l.length → (∀ j, j < i → kindB (flagsOf l) j = rd l (j : Int)) →
    Ev (fun k => shawmref09_Of.l1 k l (flagsOf l) (kindsL (flagsOf l)) ((kindsL (flagsOf l)).length : Int) (i : Int)) (if rightAll l then (flagsOf l, 0) else ([], 4)) := by
  have hk : (kindsL (flagsOf l)).length = l.length := by rw [kindsL_length, flagsOf_length]
  induction d with
  | zero =>
    intro i hi hj
    rw [if_pos (show rightAll l from fun j h => hj j (by omega))]
    refine Ev.step (f := fun _ => some (flagsOf l, 0)) (fun k => ?_) (Ev.now _)
    simp only [shawmref09_Of.l1]
    rw [if_neg (by omega)]
  | succ d ih =>
    intro i hi hj
    have hr : rd (kindsL (flagsOf l)) (i : Int) = kindB (flagsOf l) i := kindsL_rd _ i (by rw [flagsOf_length]; omega)
    by_cases he : kindB (flagsOf l) i = rd l (i : Int)
    · refine Ev.step (fun k => ?_) (ih (i + 1) (by omega) (fun j h => ?_))
      · simp only [shawmref09_Of.l1]
        rw [if_pos (by omega), if_pos (by omega), if_pos (by omega), if_pos (by omega), hr, if_pos he.symm, wrap_succ (by omega)]
      · by_cases e : j = i
        · subst e; exact he
        · exact hj j (by omega)
    · rw [if_neg (show ¬ rightAll l from fun h => he (h i (by omega)))]
      refine Ev.step (f := fun _ => some ([], 4)) (fun k => ?_) (Ev.now _)
      simp only [shawmref09_Of.l1]
      rw [if_pos (by omega), if_pos (by omega), if_pos (by omega), if_pos (by omega), hr, if_neg (fun h => he h.symm)]
theorem of_l0 (l : List Int) (hl : l.length ≤ 64) (d : Nat) : ∀ i : Nat, i + d = l.length → (∀ j, j < i → okB (rd l (j : Int)) = true) →
    Ev (fun k => shawmref09_Of.l0 k l ((List.range i).map (shortB l)) l (l.length : Int) (i : Int)) (if kindAll l then (if rightAll l then (flagsOf l, 0) else ([], 4)) else ([], 1)) := by
  induction d with
  | zero =>
    intro i hi hj
    obtain rfl : i = l.length := by omega
    rw [if_pos (show kindAll l from fun j h => hj j h)]
    refine Ev.step (f := fun k => (shawmref09_kinds.f k (flagsOf l)).bind fun t => (shawmref09_Of.l1 k l (flagsOf l) t (t.length : Int) 0)) (fun k => ?_) ?_
    · simp only [shawmref09_Of.l0]
      rw [if_neg (by omega)]
      rfl
    · refine Ev.bind (refkinds_ev (flagsOf l) (by rw [flagsOf_length]; exact hl)) ?_
      exact Ev.congr (fun k => rfl) (of_l1 l hl l.length 0 (by omega) (fun j h => absurd h (Nat.not_lt_zero j)))
  | succ d ih =>
    intro i hi hj
    have hlen : ((List.range i).map (shortB l)).length = i := by simp
    by_cases h1 : rd l (i : Int) < 0
    · rw [if_neg (show ¬ kindAll l from fun h => by have := h i (by omega); unfold okB at this; simp at this; omega)]
      refine Ev.step (f := fun _ => some ([], 1)) (fun k => ?_) (Ev.now _)
      simp only [shawmref09_Of.l0]
      rw [if_pos (by omega), if_pos (by omega), if_pos (by omega), if_pos h1]
    · by_cases h2 : rd l (i : Int) > 4
      · rw [if_neg (show ¬ kindAll l from fun h => by have := h i (by omega); unfold okB at this; simp at this; omega)]
        refine Ev.step (f := fun _ => some ([], 1)) (fun k => ?_) (Ev.now _)
        simp only [shawmref09_Of.l0]
        rw [if_pos (by omega), if_pos (by omega), if_pos (by omega), if_neg h1, if_pos h2]
      · refine Ev.step (fun k => ?_) (ih (i + 1) (by omega) (fun j h => ?_))
        · simp only [shawmref09_Of.l0]
          rw [if_pos (by omega), if_pos (by omega), if_pos (by omega), if_neg h1, if_neg h2, if_pos (by rw [hlen]; omega), wrap_succ (by omega), List.range_succ, List.map_append]
          rfl
        · by_cases e : j = i
          · subst e; unfold okB; simp; omega
          · exact hj j (by omega)
def ofV (l : List Int) : List Bool × Int := if 64 < l.length then ([], 2) else if kindAll l then (if rightAll l then (flagsOf l, 0) else ([], 4)) else ([], 1)
theorem ofV_length (l : List Int) : (ofV l).1.length ≤ 64 := by
  unfold ofV
  split
  · simp
  · split
    · split
      · simp only [flagsOf_length]; omega
      · simp
    · simp
theorem of_val (l : List Int) : block_Of.f l = some (ofV l) := by
  unfold block_Of.f ofV
  split
  · rfl
  · split
    · split <;> rfl
    · rfl
theorem refOf_ev (l : List Int) : Ev (fun k => shawmref09_Of.f k l) (ofV l) := by
  unfold shawmref09_Of.f ofV
  by_cases hl : 64 < l.length
  · rw [if_pos hl]
    exact ev_pos (by omega) (Ev.now _)
  · rw [if_neg hl]
    exact ev_neg (by omega) (Ev.congr (fun k => rfl) (of_l0 l (by omega) l.length 0 (by omega) (fun j h => absurd h (Nat.not_lt_zero j))))

theorem BlockOf : shawmlaw09_BlockOf.Pure := by
  intro l _ _ _
  refine Ev.rounds ?_
  unfold shawmlaw09_BlockOf.f
  by_cases hlen : (l.length : Int) > 100
  · exact ev_pos hlen awake_ev
  · refine ev_neg hlen (ev_val (of_val l) (Ev.bind (refOf_ev l) (Ev.bind (bools_same (ofV l).1 (by have := ofV_length l; omega)) ?_)))
    exact ev_pos rfl (ev_pos rfl awake_ev)

end Go.Proofs.Ytooipbjdpajmmaa.Pure
