/- Chapter 23, what all rows of the seat share: from the listed variable to its cells; arrays of two numbers; the witness. Conditions: none beyond each theorem's own. -/
import Derived.Test.YtacoekniljimoaaDoorRows
import Derived.Test.YtacoekniljimoaaDoorAW
import Derived.WalkKit
import Derived.ProofKit
import Derived.OpenShut
import Derived.ShutString
import Derived.ChangeOld
import Derived.Below
import Derived.SizedLaws
import Derived.LaidMore
import Derived.Stop.Joined
import Derived.Deep.Grids
import Derived.RowKit
namespace Go.Proofs.YtacoekniljimoaaDoor
open Go.ChangeShapes Go.WideShapes Go.ChangeAt Go.RowKit Go.Proofs.YtacoekniljimoaaDoor.Res
set_option linter.unusedVariables false
set_option linter.unusedSimpArgs false
set_option maxRecDepth 100000
theorem own : ownKnob Tryd.prog.godebug = none := by kernel_rfl
theorem laidOut : laidOutB Tryd.prog = true := by kernel_rfl
theorem gLimits : Tryd.prog.globalNamed "shawm/reservoir.limits" = some 0 := by kernel_rfl
theorem tLimits : (Tryd.prog.globals[0]?).map (·.type) = some 66 := by kernel_rfl
theorem door_met (os : Os) (args : Array Value) : laidMetH Tryd.prog [("shawm/reservoir.limits", Rows.laid_shawm_reservoir_limits)] ((World.doorLaid Tryd.prog 400 os).forCall (fun _ _ => 0) ⟨#[], args, []⟩).memory :=
  laidMetH_of_parts3 (fuel := 8) (laidMet_of_run' 8 (by kernel_rfl) (by kernel_rfl)) (by kernel_rfl) (by kernel_rfl)
theorem list_four {l : List Value} (h : l.length = 4) : ∃ c0 c1 c2 c3, l = [c0, c1, c2, c3] := by
  match l, h with
  | [c0, c1, c2, c3], _ => exact ⟨c0, c1, c2, c3, rfl⟩
theorem two_of {H : Type} {enc : TypeId × Value → H} {W : World} {b : Nat} {spare : Nat → Bool} {held : Bool} {fuel : Nat} {c0 c1 : Value} {x : DataW H × List MemPlace} (h : DataW.trod enc Tryd.prog W b spare held fuel 22 [c0, c1] = some x) :
    ∃ u v : Int, c0 = .int .i64 u ∧ c1 = .int .i64 v ∧ x.1 = .agg [.lit (.int .i64 u), .lit (.int .i64 v)] := by
  obtain ⟨xs, m, _, hx, hlen, hl, hel⟩ := DataW.trod_array Tryd.underlying22 h
  have c3 : Tryd.prog.cellsOf 3 = 1 := by kernel_rfl
  have e0 := hel 0 (by omega)
  have e1 := hel 1 (by omega)
  match xs, hl with
  | [x0, x1], _ =>
    simp only [c3, Nat.zero_mul, Nat.one_mul, List.drop_zero, List.drop_succ_cons, List.take_succ_cons, List.take_zero, List.getElem?_cons_zero, List.getElem?_cons_succ] at e0 e1
    obtain ⟨u, ex0, ey0, _⟩ := DataW.trod_int Tryd.underlying3 e0
    obtain ⟨v, ex1, ey1, _⟩ := DataW.trod_int Tryd.underlying3 e1
    simp only [List.cons.injEq, and_true] at ex0 ex1
    refine ⟨u, v, ex0, ex1, ?_⟩
    rw [hx]
    simp [ey0, ey1]
theorem lim_of {W : World} (h : laidMetH Tryd.prog [("shawm/reservoir.limits", Rows.laid_shawm_reservoir_limits)] W) : Lim W := by
  rw [MakeChecks.laidMetH_plain _ _ _ (by kernel_rfl)] at h
  obtain ⟨ps, ⟨g0, t0, cs0, f0, p0, q0, hg0, ht0, hv0, hd0, _, _⟩, _, _⟩ := h
  obtain rfl := Option.some.inj (gLimits.symm.trans hg0)
  obtain rfl := Option.some.inj (tLimits.symm.trans ht0)
  obtain ⟨xs, m1, rfl, hx1, hlen, hn3, hel⟩ := DataW.trod_array Tryd.underlying66 hd0
  have c66 : Tryd.prog.cellsOf 66 = 4 := by kernel_rfl
  have c22 : Tryd.prog.cellsOf 22 = 2 := by kernel_rfl
  have hcell := World.var?_cell hg0 hv0
  obtain ⟨l⟩ := cs0
  rw [c66] at hlen
  obtain ⟨c0, c1, c2, c3, rfl⟩ := list_four hlen
  have e0 := hel 0 (by omega)
  have e1 := hel 1 (by omega)
  match xs, hn3 with
  | [x0, x1], _ =>
    simp only [c22, Nat.zero_mul, Nat.one_mul, List.drop_zero, List.drop_succ_cons, List.take_succ_cons, List.take_zero, List.getElem?_cons_zero, List.getElem?_cons_succ] at e0 e1
    obtain ⟨u0, v0, rfl, rfl, d0⟩ := two_of e0
    obtain ⟨u1, v1, rfl, rfl, d1⟩ := two_of e1
    simp only [List.map_cons, List.map_nil, Prod.mk.injEq, d0, d1, Rows.laid_shawm_reservoir_limits, DataW.agg.injEq, List.cons.injEq, DataW.lit.injEq, Lit.int.injEq, true_and, and_true] at hx1
    obtain ⟨⟨⟨rfl, rfl⟩, rfl, rfl⟩, _⟩ := hx1
    exact ⟨by simpa using hcell 0, by simpa using hcell 1, by simpa using hcell 2, by simpa using hcell 3⟩
/-- An array of two whole numbers that comes in. -/
theorem open_two {H : Type} {enc : TypeId × Value → H} {W : World} {base : Nat} {v2 : Value} {d : DataW H} {p : List MemPlace} (hv : Value.okWide Tryd.prog W .any base 22 v2) (h2 : DataW.Trod enc Tryd.prog W 0 (fun _ => true) true 22 v2 d p) :
    ∃ x y : Int, v2 = .agg #[.int .i64 x, .int .i64 y] := by
  obtain ⟨cs, rfl, hsz, _⟩ : ∃ cs, v2 = .agg cs ∧ cs.size = Tryd.prog.cellsOf 22 ∧ Row.okWide Tryd.prog W .any base 22 cs := by
    simpa [Value.okWide, Tryd.underlying22] using hv
  rw [show Tryd.prog.cellsOf 22 = 2 by kernel_rfl] at hsz
  obtain ⟨l⟩ := cs
  obtain ⟨fuel, hf⟩ := h2
  match l, hsz with
  | [c0, c1], _ =>
    obtain ⟨u, v, rfl, rfl, _⟩ := two_of (by simpa [Value.cells] using hf)
    exact ⟨u, v, rfl⟩
end Go.Proofs.YtacoekniljimoaaDoor
