/- A closed check over all flags of at most five frames, reckoned by Lean's kernel: where the blocks of a frame lie, and how far laps carry what is in it. No conditions. -/
import Derived.Test.YtooipbjdpajmmaaT
import Derived.Test.YtooipbjdpajmmaaHlx8
import Derived.Test.YtooipbjdpajmmaaHlx9
namespace Go.Proofs.Ytooipbjdpajmmaa.Laps
open Go.RowKit Go.Proofs.Ytooipbjdpajmmaa.Hl Go.Proofs.YtooipbjdpajmmaaW.PrintWords Go.Proofs.YtooipbjdpajmmaaW.PrintLast

/-- Block j of the layout: its length, where it lies, and that it lies in frame f or beside it. -/
def blockB (lay : List Int) (f n : Int) (j : Nat) : Bool :=
  (decide (rd lay (j : Int) = 16) || decide (rd lay (j : Int) = 128)) && decide (0 ≤ (sup lay f j).1) && decide ((sup lay f j).1 + rd lay (j : Int) ≤ n) &&
  (decide ((sup lay f j).1 + rd lay (j : Int) ≤ 128 * f) || decide (128 * f + 128 ≤ (sup lay f j).1) || (decide (128 * f ≤ (sup lay f j).1) && decide ((sup lay f j).1 + rd lay (j : Int) ≤ 128 * f + 128)))
def lapOkB (lay : List Int) (f n : Int) (j : Nat) : Bool :=
  decide (half lay j ≤ (sup lay f j).1 + rd lay (j : Int)) && decide ((sup lay f j).1 + rd lay (j : Int) + half lay j ≤ n)
def chk (l : List Bool) (f : Nat) : Bool :=
  decide (0 < (layB l).length) && decide ((layB l).length ≤ 512) &&
  (List.range (layB l).length).all (blockB (layB l) (f : Int) (128 * (l.length : Int))) &&
  (List.range ((layB l).length - 1)).all (lapOkB (layB l) (f : Int) (128 * (l.length : Int))) &&
  decide ((sup (layB l) (f : Int) (layB l).length).1 = 128 * (l.length : Int)) &&
  decide (128 * (f : Int) - (lapH l f : Int) ≤ (sup (layB l) (f : Int) ((layB l).length - 1)).2.1) &&
  decide ((sup (layB l) (f : Int) ((layB l).length - 1)).2.2 ≤ 128 * (f : Int) + 128 + (lapH l (f + 1) : Int)) &&
  (shawmref08_Is.f 300 (layB l) == some true) && (shawmref08_Sum.f 300 (layB l) == some (128 * (l.length : Int)))
theorem chk1 : ∀ a : Bool, ∀ f : Fin 1, chk [a] f.val = true := by decide +kernel
theorem chk2 : ∀ a b : Bool, ∀ f : Fin 2, chk [a, b] f.val = true := by decide +kernel
theorem chk3 : ∀ a b c : Bool, ∀ f : Fin 3, chk [a, b, c] f.val = true := by decide +kernel
theorem chk4 : ∀ a b c d : Bool, ∀ f : Fin 4, chk [a, b, c, d] f.val = true := by decide +kernel
theorem chk5 : ∀ a b c d e : Bool, ∀ f : Fin 5, chk [a, b, c, d, e] f.val = true := by decide +kernel
theorem chk_all (l : List Bool) (h5 : l.length ≤ 5) (f : Nat) (hf : f < l.length) : chk l f = true := by
  match l, h5, hf with
  | [a], _, hf => exact chk1 a ⟨f, hf⟩
  | [a, b], _, hf => exact chk2 a b ⟨f, hf⟩
  | [a, b, c], _, hf => exact chk3 a b c ⟨f, hf⟩
  | [a, b, c, d], _, hf => exact chk4 a b c d ⟨f, hf⟩
  | [a, b, c, d, e], _, hf => exact chk5 a b c d e ⟨f, hf⟩
/-- What the check tells. -/
structure Laid (l : List Bool) (f : Nat) : Prop where
  pos : 0 < (layB l).length
  most : (layB l).length ≤ 512
  block : ∀ j : Nat, j < (layB l).length → (rd (layB l) (j : Int) = 16 ∨ rd (layB l) (j : Int) = 128) ∧ 0 ≤ (sup (layB l) (f : Int) j).1 ∧ (sup (layB l) (f : Int) j).1 + rd (layB l) (j : Int) ≤ 128 * (l.length : Int) ∧
    ((sup (layB l) (f : Int) j).1 + rd (layB l) (j : Int) ≤ 128 * (f : Int) ∨ 128 * (f : Int) + 128 ≤ (sup (layB l) (f : Int) j).1 ∨ (128 * (f : Int) ≤ (sup (layB l) (f : Int) j).1 ∧ (sup (layB l) (f : Int) j).1 + rd (layB l) (j : Int) ≤ 128 * (f : Int) + 128))
  lap : ∀ j : Nat, j < (layB l).length - 1 → okAt (layB l) (f : Int) (128 * (l.length : Int)) j
  sum : (sup (layB l) (f : Int) (layB l).length).1 = 128 * (l.length : Int)
  low : 128 * (f : Int) - (lapH l f : Int) ≤ (sup (layB l) (f : Int) ((layB l).length - 1)).2.1
  high : (sup (layB l) (f : Int) ((layB l).length - 1)).2.2 ≤ 128 * (f : Int) + 128 + (lapH l (f + 1) : Int)
  is : shawmref08_Is.f 300 (layB l) = some true
  sums : shawmref08_Sum.f 300 (layB l) = some (128 * (l.length : Int))
theorem laid (l : List Bool) (h5 : l.length ≤ 5) (f : Nat) (hf : f < l.length) : Laid l f := by
  have h := chk_all l h5 f hf
  unfold chk at h
  simp only [Bool.and_eq_true, List.all_eq_true, List.mem_range, decide_eq_true_eq, beq_iff_eq] at h
  obtain ⟨⟨⟨⟨⟨⟨⟨⟨h1, h2⟩, h3⟩, h4⟩, h5'⟩, h6⟩, h7⟩, h8⟩, h9⟩ := h
  have hb : ∀ j : Nat, j < (layB l).length → (rd (layB l) (j : Int) = 16 ∨ rd (layB l) (j : Int) = 128) ∧ 0 ≤ (sup (layB l) (f : Int) j).1 ∧ (sup (layB l) (f : Int) j).1 + rd (layB l) (j : Int) ≤ 128 * (l.length : Int) ∧
      ((sup (layB l) (f : Int) j).1 + rd (layB l) (j : Int) ≤ 128 * (f : Int) ∨ 128 * (f : Int) + 128 ≤ (sup (layB l) (f : Int) j).1 ∨ (128 * (f : Int) ≤ (sup (layB l) (f : Int) j).1 ∧ (sup (layB l) (f : Int) j).1 + rd (layB l) (j : Int) ≤ 128 * (f : Int) + 128)) := by
    intro j hj
    have g := h3 j hj
    unfold blockB at g
    simp only [Bool.and_eq_true, Bool.or_eq_true, decide_eq_true_eq] at g
    obtain ⟨⟨⟨g1, g2⟩, g3⟩, g4⟩ := g
    exact ⟨g1, g2, g3, by rcases g4 with (g | g) | g; exact Or.inl g; exact Or.inr (Or.inl g); exact Or.inr (Or.inr g)⟩
  refine ⟨h1, h2, hb, fun j hj => ?_, h5', h6, h7, h8, h9⟩
  have g := h4 j hj
  unfold lapOkB at g
  simp only [Bool.and_eq_true, decide_eq_true_eq] at g
  have g1 := (hb j (by omega)).1
  exact ⟨by omega, g.1, g.2⟩
end Go.Proofs.Ytooipbjdpajmmaa.Laps
