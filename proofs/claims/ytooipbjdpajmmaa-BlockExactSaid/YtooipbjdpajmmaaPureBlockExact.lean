/- For all flags: the frames of a sample lie about it, and they are all known just where Exact says. Conditions: those of the given statement, no others. -/
import Derived.Test.YtooipbjdpajmmaaPureBlockFrames
namespace Go.Proofs.Ytooipbjdpajmmaa.Pure
open Go.RowKit Go.Proofs.Ytooipbjdpajmmaa.Hn Go.Proofs.YtooipbjdpajmmaaW.PrintWords Go.Proofs.YtooipbjdpajmmaaW.PrintLast Go.Proofs.YtooipbjdpajmmaaW.PrintMore

theorem frA_le (l : List Bool) (i : Nat) : frA l i ≤ ((i / 128 : Nat) : Int) ∧ ((i / 128 : Nat) : Int) - 1 ≤ frA l i := by
  unfold frA
  split <;> omega
theorem frB_ge (l : List Bool) (i : Nat) : ((i / 128 : Nat) : Int) ≤ frB l i ∧ frB l i ≤ ((i / 128 : Nat) : Int) + 1 := by
  unfold frB
  split <;> omega
/-- First and end, as Exact tells them. -/
def exV (l : List Bool) (a b : Nat) : Int × Int := if exF l a < exT l b then ((exF l a : Int), (exT l b : Int)) else (128 * (a : Int), 128 * (a : Int))
theorem exact_is (l : List Bool) (hl : l.length ≤ 64) (a b : Nat) (hab : a ≤ b) (hb : b ≤ l.length) : exactV l (a : Int) (b : Int) = ((exV l a b).1, (exV l a b).2, 0) := by
  unfold exactV exV
  rw [if_neg (by omega), if_neg (by omega), Int.toNat_natCast, Int.toNat_natCast]
  split <;> rfl
theorem exV_bounds (l : List Bool) (a b : Nat) (hab : a ≤ b) (hb : b ≤ l.length) : 0 ≤ (exV l a b).1 ∧ (exV l a b).1 ≤ (exV l a b).2 ∧ (exV l a b).2 ≤ 128 * (l.length : Int) ∧ ((exV l a b).1 < (exV l a b).2 ∨ (exV l a b).1 = 128 * (a : Int)) := by
  have hT : exT l b ≤ 128 * b := by unfold exT; omega
  unfold exV
  split
  · refine ⟨by simp, by simp; omega, by simp; omega, Or.inl (by simp; omega)⟩
  · exact ⟨by simp; omega, by simp, by simp; omega, Or.inr rfl⟩
theorem exact_match (l : List Bool) (a b i : Nat) (hab : a ≤ b) : ((a : Int) ≤ frA l i ∧ frB l i < (b : Int)) ↔ ((exV l a b).1 ≤ (i : Int) ∧ (i : Int) < (exV l a b).2) := by
  have hA := frA_le l i
  have hB := frB_ge l i
  have hF : 128 * a ≤ exF l a := by unfold exF; omega
  have hT : exT l b ≤ 128 * b := by unfold exT; omega
  by_cases h0 : 128 * a ≤ i
  · by_cases h1 : i < 128 * b
    · obtain ⟨k1, k2⟩ := known_iff l a b i h0 h1
      rw [k1, k2]
      unfold exV
      split
      · simp
      · simp only
        constructor
        · intro h; omega
        · intro h; omega
    · constructor
      · intro h; omega
      · intro h
        unfold exV at h
        split at h
        · simp at h; omega
        · simp only at h; omega
  · constructor
    · intro h; omega
    · intro h
      unfold exV at h
      split at h
      · simp at h; omega
      · simp only at h; omega
/-- What the calls tell, with enough rounds, for all samples at once. -/
theorem BlockExact (l : List Bool) (hl : l.length ≤ 64) (a b : Nat) (hab : a ≤ b) (hb : b ≤ l.length) : ∃ k, block_Exact.f k l (a : Int) (b : Int) = some ((exV l a b).1, (exV l a b).2, 0) ∧ ∀ i : Nat, i < 128 * l.length → block_Frames.f k l (i : Int) = some (frA l i, frB l i, 0) := by
  obtain ⟨k1, h1⟩ := exact_ev l (a : Int) (b : Int)
  rw [exact_is l hl a b hab hb] at h1
  have hf : ∀ N : Nat, N ≤ 128 * l.length → ∃ k, ∀ i : Nat, i < N → ∀ j, k ≤ j → block_Frames.f j l (i : Int) = some (frA l i, frB l i, 0) := by
    intro N
    induction N with
    | zero => intro _; exact ⟨0, fun i h => absurd h (Nat.not_lt_zero i)⟩
    | succ N ih =>
      intro hN
      obtain ⟨k, hk⟩ := ih (by omega)
      obtain ⟨k2, h2⟩ := frames_ev l (N : Int)
      have hv : framesV l (N : Int) = (frA l N, frB l N, 0) := by
        unfold framesV
        rw [if_neg (by omega), if_neg (by omega), Int.toNat_natCast]
      rw [hv] at h2
      refine ⟨k + k2, fun i hi j hj => ?_⟩
      by_cases e : i = N
      · subst e; exact h2 j (by omega)
      · exact hk i (by omega) j (by omega)
  obtain ⟨k2, h2⟩ := hf (128 * l.length) (Nat.le_refl _)
  exact ⟨k1 + k2, h1 _ (by omega), fun i hi => h2 i hi _ (by omega)⟩
end Go.Proofs.Ytooipbjdpajmmaa.Pure
