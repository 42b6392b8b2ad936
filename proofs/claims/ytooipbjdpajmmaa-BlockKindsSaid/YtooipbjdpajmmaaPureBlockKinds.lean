/- For all flags: what the program tells of kinds, layouts, laps and united flags is the reference's, or both tell the same error. Conditions: those of the given statement, no others. -/
import Derived.Test.YtooipbjdpajmmaaL
import Derived.Test.YtooipbjdpajmmaaHnx24
namespace Go.Proofs.Ytooipbjdpajmmaa.Pure
open Go.RowKit Go.Proofs.Ytooipbjdpajmmaa.Hn Go.Proofs.YtooipbjdpajmmaaW.PrintWords Go.Proofs.YtooipbjdpajmmaaW.PrintLast Go.Proofs.YtooipbjdpajmmaaW.PrintMore

theorem blockKinds_true (l m : List Bool) : Ev (fun k => shawmlaw09_BlockKinds.j0 k l m true) true := by
  refine Ev.step (fun k => ?_) awake_ev
  simp only [shawmlaw09_BlockKinds.j0]
  exact if_pos trivial
theorem blockKinds_false (l m : List Bool) : Ev (fun k => shawmlaw09_BlockKinds.j0 k l m false) true := by
  have h1 := eitherV_length l m
  have h2 := kindsV_length l
  have h3 := layV_length l
  have h4 := lapsV_length l
  refine Ev.step (f := fun k => shawmlaw09_BlockKinds.j0 (k + 1) l m false) (fun k => rfl) ?_
  simp only [shawmlaw09_BlockKinds.j0, Bool.false_eq_true, ↓reduceIte]
  refine ev_val (either_val l m) (Ev.bind (refEither_ev l m) (ev_val (kinds_val l) (Ev.bind (refKinds_ev l) (ev_val (lay_val l) (Ev.bind (refLayout_ev l) (ev_val (laps_val l) (Ev.bind (refLaps_ev l) ?_)))))))
  refine Ev.bind (bools_same (eitherV l m).1 (by omega)) (ev_pos rfl (ev_pos rfl ?_))
  refine Ev.bind (ints_same (kindsV l).1 (by omega)) (ev_pos rfl (ev_pos rfl ?_))
  refine Ev.bind (ints_same (layV l).1 (by omega)) (ev_pos rfl (ev_pos rfl ?_))
  exact Ev.bind (ints_same (lapsV l).1 (by omega)) (ev_pos rfl (ev_pos rfl awake_ev))
theorem BlockKinds (l m : List Bool) : ∃ k, shawmlaw09_BlockKinds.f k l m = some true := by
  refine Ev.rounds ?_
  unfold shawmlaw09_BlockKinds.f
  by_cases h1 : (l.length : Int) > 100
  · exact ev_pos h1 (blockKinds_true l m)
  · refine ev_neg h1 ?_
    by_cases h2 : (m.length : Int) > 100
    · rw [decide_eq_true h2]; exact blockKinds_true l m
    · rw [decide_eq_false h2]; exact blockKinds_false l m

end Go.Proofs.Ytooipbjdpajmmaa.Pure
