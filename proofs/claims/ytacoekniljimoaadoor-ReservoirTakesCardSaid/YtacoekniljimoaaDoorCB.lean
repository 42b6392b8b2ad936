/- Chapter 23, what rows of the seat share: a slice of bools that comes in, as a list that is read. Conditions: none beyond each theorem's own. -/
import Derived.Test.YtacoekniljimoaaDoorCN
namespace Go.Proofs.YtacoekniljimoaaDoor
open Go.ChangeShapes Go.WideShapes Go.ChangeAt Go.RowKit Go.Proofs.YtacoekniljimoaaDoor.Res Go.Proofs.YtacoekniljimoaaDoorW.PrintWords
set_option linter.unusedVariables false
set_option linter.unusedSimpArgs false
theorem reads_bools {w : World} {a : Addr} {len cap : Nat} {B : Nat → Bool} (hl : len ≤ cap) (hm : cap ≤ maxLen) (h : ∀ i, i < cap → w.cell? (a.add i) = some (.bool (B i))) :
    Kd.C Kd.bool w (some a) len ((List.range len).map B) := by
  refine ⟨by simp, by unfold maxLen at hm; omega, fun _ => ⟨a, rfl, fun j p hj => ⟨[.bool p], rfl, rfl, fun i u hu => ?_⟩⟩⟩
  have hj' : j < len := by
    have := (List.getElem?_eq_some_iff.1 hj).1
    simpa using this
  have hp : B j = p := by simpa [List.getElem?_map, hj'] using hj
  cases i with
  | zero =>
    obtain rfl : Value.bool p = u := by simpa using hu
    rw [← hp]
    show w.cell? (a.add (j * 1 + 0)) = _
    rw [Nat.mul_one, Nat.add_zero]
    exact h j (by omega)
  | succ i => simp at hu
def IsBools (w : World) (a : Option Addr) (len cap : Nat) (zs : List Bool) : Prop := zs.length = len ∧ len ≤ cap ∧ Kd.C Kd.bool w a len zs
theorem bools_of {H : Type} {enc : TypeId × Value → H} {W : World} {fuel : Nat} {a : Option Addr} {len cap : Nat} {x : DataW H × List MemPlace} (h : DataW.trod enc Tryd.prog W 0 (fun _ => true) true fuel 47 [.slice a len cap] = some x) :
    ∃ zs, IsBools W a len cap zs := by
  rcases Go.Deep.open_bools Tryd.underlying47 Tryd.underlying4 (by kernel_rfl) h with ⟨hcs, _⟩ | ⟨x, l, c, B, hcs, _, hl, hm, _, hcell⟩
  · simp at hcs
    obtain ⟨rfl, rfl, rfl⟩ := hcs
    exact ⟨[], rfl, by omega, reads_none _ _⟩
  · simp at hcs
    obtain ⟨rfl, rfl, rfl⟩ := hcs
    exact ⟨_, by simp, hl, reads_bools hl hm hcell⟩
end Go.Proofs.YtacoekniljimoaaDoor
