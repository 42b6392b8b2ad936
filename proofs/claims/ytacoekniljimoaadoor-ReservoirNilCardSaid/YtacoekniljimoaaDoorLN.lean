/- Chapter 23: the law ReservoirNil returns true. Conditions: none but what the limits hold. -/
import Derived.Test.YtacoekniljimoaaDoorAW
namespace Go.Proofs.YtacoekniljimoaaDoor.Res
open Go.RowKit Go.Proofs.YtacoekniljimoaaDoorW.PrintWords Go.Proofs.YtacoekniljimoaaDoorW.PrintLast Go.Proofs.YtacoekniljimoaaDoorW.PrintMore
set_option linter.unusedVariables false
set_option linter.unusedSimpArgs false
set_option maxRecDepth 100000 in
set_option maxHeartbeats 8000000 in
theorem nil_law (n : Int) (A : Option Addr) (nb c : Nat) {w : World} (hL : Lim w) : Calls Tryd.prog 9 #[.int .i64 n, .slice A nb c] w fun e w' => e = .returned (.bool true) ∧ Below w.heap.size w w' := by
  have HL := Aside0.mk hL
  clear hL
  by_cases h : 2100 < nb
  · have h1 : (2100 : Int) < (nb : Int) := by omega
    go_enter Tryd.func9, Tryd.ntmps9
    go_wp2_with (go_at_call 10; refine (awake_any HL.out).mono ?_; rintro e w1 ⟨rfl, hb⟩; have HB := Aside0.mk hb; clear hb)
    go_ret
    exact ⟨rfl, HB.out⟩
  · have h1 : ¬ (2100 : Int) < (nb : Int) := by omega
    go_enter Tryd.func9, Tryd.ntmps9
    go_wp2_with (first
      | (go_at_call 19; refine (take_nil _ _).mono ?_; rintro e w' ⟨rfl, rfl⟩)
      | (go_at_call 21; refine (add_nil _ _ _ _ _).mono ?_; rintro e w' ⟨rfl, rfl⟩)
      | (go_at_call 29; refine (lose_nil _).mono ?_; rintro e w' ⟨⟨v29, rfl⟩, rfl⟩)
      | (go_at_call 17; refine (level_nil _).mono ?_; rintro e w' ⟨rfl, rfl⟩)
      | (go_at_call 18; refine (most_nil _).mono ?_; rintro e w' ⟨rfl, rfl⟩)
      | (go_at_call 33; refine (kept_nil _).mono ?_; rintro e w' ⟨rfl, rfl⟩)
      | (go_at_call 24; refine (copy_nil _).mono ?_; rintro e w' ⟨rfl, rfl⟩)
      | (go_at_call 31; refine (pcopy_nil _).mono ?_; rintro e w' ⟨rfl, rfl⟩)
      | (go_at_call 10; refine (awake_any HL.out).mono ?_; rintro e w1 ⟨rfl, hb⟩; have HB := Aside0.mk hb; clear hb))
    go_ret
    exact ⟨rfl, HB.out⟩
end Go.Proofs.YtacoekniljimoaaDoor.Res
