/- For all flags and positions: the frames of a sample, and the samples that are known, are the reference's, or both tell the same error. Conditions: those of the given statement, no others. -/
import Derived.Test.YtooipbjdpajmmaaF
namespace Go.Proofs.Ytooipbjdpajmmaa.Pure
open Go.RowKit Go.Proofs.Ytooipbjdpajmmaa.Hn Go.Proofs.YtooipbjdpajmmaaW.PrintWords Go.Proofs.YtooipbjdpajmmaaW.PrintLast Go.Proofs.YtooipbjdpajmmaaW.PrintMore

theorem known_iff (l : List Bool) (a b i : Nat) (h0 : 128 * a ≤ i) (h1 : i < 128 * b) : ((a : Int) ≤ frA l i ↔ exF l a ≤ i) ∧ (frB l i < (b : Int) ↔ i < exT l b) := by
  have hq : 128 * (i / 128) + i % 128 = i := Nat.div_add_mod i 128
  have hp : i % 128 < 128 := Nat.mod_lt _ (by omega)
  unfold frA frB exF exT
  generalize i / 128 = q at *
  generalize i % 128 = p at *
  have ha := lapH_le l a
  have hb := lapH_le l b
  have hq1 := lapH_le l q
  have hq2 := lapH_le l (q + 1)
  constructor
  · by_cases e : q = a
    · subst e
      generalize lapH l q = u at *
      split <;> omega
    · generalize lapH l a = u at *
      generalize lapH l q = v at *
      split <;> omega
  · by_cases e : q + 1 = b
    · subst e
      generalize lapH l (q + 1) = u at *
      split <;> omega
    · generalize lapH l b = u at *
      generalize lapH l (q + 1) = v at *
      split <;> omega
theorem refex_l0 (l : List Bool) (hl : l.length ≤ 64) (a b : Nat) (hab : a ≤ b) (hb : b ≤ l.length) (d : Nat) : ∀ (i : Nat) (f t : Int) (s : Bool), i + d = 128 * b → 128 * a ≤ i →
    ((exF l a < min i (exT l b) ∧ f = (exF l a : Int) ∧ t = ((min i (exT l b) : Nat) : Int) ∧ s = true) ∨ (¬ exF l a < min i (exT l b) ∧ f = 128 * (a : Int) ∧ t = 128 * (a : Int) ∧ s = false)) →
    Ev (fun k => shawmref09_Exact.l0 k l (a : Int) (b : Int) f t s (i : Int)) (if exF l a < exT l b then ((exF l a : Int), (exT l b : Int), 0) else (128 * (a : Int), 128 * (a : Int), 0)) := by
  have hw : wrap64 (128 * (b : Int)) = 128 * (b : Int) := wrap_in (by omega) (by omega)
  have HW := Aside0.mk hw
  clear hw
  induction d with
  | zero =>
    intro i f t s hi h0 hs
    have hT : exT l b ≤ i := by unfold exT; omega
    rw [Nat.min_eq_right hT] at hs
    refine Ev.step (f := fun _ => some (if exF l a < exT l b then ((exF l a : Int), (exT l b : Int), 0) else (128 * (a : Int), 128 * (a : Int), 0))) (fun k => ?_) (Ev.now _)
    rw [shawmref09_Exact.l0, HW.out, if_neg (by omega)]
    rcases hs with ⟨h, rfl, rfl, _⟩ | ⟨h, rfl, rfl, _⟩
    · rw [if_pos h]
    · rw [if_neg h]
  | succ d ih =>
    intro i f t s hi h0 hs
    obtain ⟨k1, k2⟩ := known_iff l a b i h0 (by omega)
    have hn : wrap64 ((i : Int) + 1) = ((i + 1 : Nat) : Int) := wrap_succ (by omega)
    have HN := Aside0.mk hn
    clear hn
    have hfr : framesV l (i : Int) = (frA l i, frB l i, 0) := by
      unfold framesV
      rw [if_neg (by omega), if_neg (by omega), Int.toNat_natCast]
    have hev := refFrames_ev l (i : Int)
    rw [hfr] at hev
    clear hfr
    generalize exF l a = F at *
    generalize exT l b = T at *
    generalize frA l i = A at *
    generalize frB l i = B at *
    refine Ev.step (f := fun k => (shawmref09_Frames.f k l (i : Int)).bind fun bt => (if bt.1 ≥ (a : Int) then (shawmref09_Exact.j2 k l (a : Int) (b : Int) f t s (i : Int) (decide (bt.2.1 < (b : Int)))) else (shawmref09_Exact.j2 k l (a : Int) (b : Int) f t s (i : Int) false))) (fun k => ?_) (Ev.bind hev ?_)
    · rw [shawmref09_Exact.l0, HW.out, if_pos (by omega)]
    · have no : ¬ (F ≤ i ∧ i < T) → Ev (fun k => shawmref09_Exact.j2 k l (a : Int) (b : Int) f t s (i : Int) false) (if F < T then ((F : Int), (T : Int), 0) else (128 * (a : Int), 128 * (a : Int), 0)) := by
        intro hno
        refine Ev.step (fun k => ?_) (ih (i + 1) f t s (by omega) (by omega) ?_)
        · rw [shawmref09_Exact.j2, HN.out, if_neg (by simp)]
        · have e : F < min i T ↔ F < min (i + 1) T := by omega
          rcases hs with ⟨h, h2, h3, h4⟩ | ⟨h, h2, h3, h4⟩
          · refine Or.inl ⟨e.1 h, h2, ?_, h4⟩
            rw [h3]
            congr 1
            omega
          · exact Or.inr ⟨fun h' => h (e.2 h'), h2, h3, h4⟩
      by_cases c1 : F ≤ i
      · refine ev_pos (k1.2 c1) ?_
        by_cases c2 : i < T
        · rw [decide_eq_true (k2.2 c2)]
          rcases hs with ⟨h, h2, h3, h4⟩ | ⟨h, h2, h3, h4⟩
          · subst h4
            refine Ev.step (fun k => ?_) (ih (i + 1) f ((i + 1 : Nat) : Int) true (by omega) (by omega) (Or.inl ⟨by omega, h2, by congr 1; omega, rfl⟩))
            rw [shawmref09_Exact.j2, HN.out, if_pos rfl, if_pos rfl]
          · subst h4
            refine Ev.step (fun k => ?_) (ih (i + 1) (i : Int) ((i + 1 : Nat) : Int) true (by omega) (by omega) (Or.inl ⟨by omega, by omega, by congr 1; omega, rfl⟩))
            rw [shawmref09_Exact.j2, HN.out, if_pos rfl, if_neg (by simp)]
        · rw [decide_eq_false (fun h => c2 (k2.1 h))]
          exact no (fun h => c2 h.2)
      · exact ev_neg (fun h => c1 (k1.1 h)) (no (fun h => c1 h.1))
theorem refExact_ev (l : List Bool) (a b : Int) : Ev (fun k => shawmref09_Exact.f k l a b) (exactV l a b) := by
  unfold shawmref09_Exact.f exactV
  by_cases h0 : 64 < l.length
  · rw [if_pos h0]; exact ev_pos (by omega) (Ev.now _)
  · rw [if_neg h0]
    refine ev_neg (by omega) ?_
    have hT : Ev (fun k => shawmref09_Exact.j0 k l a b true) (0, 0, 6) := by
      refine Ev.step (f := fun _ => some (0, 0, 6)) (fun k => ?_) (Ev.now _)
      rw [shawmref09_Exact.j0]
      exact if_pos rfl
    by_cases h1 : a < 0
    · rw [if_pos (Or.inl h1)]; exact ev_pos h1 hT
    · refine ev_neg h1 ?_
      by_cases h2 : b < a
      · rw [if_pos (Or.inr (Or.inl h2))]; exact ev_pos (by omega) hT
      · refine ev_neg (by omega) ?_
        by_cases h3 : (l.length : Int) < b
        · rw [if_pos (Or.inr (Or.inr h3)), decide_eq_true (show b > (l.length : Int) by omega)]; exact hT
        · rw [if_neg (by omega), decide_eq_false (show ¬ b > (l.length : Int) by omega)]
          obtain ⟨m, rfl⟩ : ∃ n : Nat, a = (n : Int) := ⟨a.toNat, by omega⟩
          obtain ⟨n, rfl⟩ : ∃ n : Nat, b = (n : Int) := ⟨b.toNat, by omega⟩
          rw [Int.toNat_natCast, Int.toNat_natCast]
          have e : wrap64 (128 * (m : Int)) = ((128 * m : Nat) : Int) := by rw [wrap_in (by omega) (by omega)]; omega
          have hm : (128 * (m : Int)) = ((128 * m : Nat) : Int) := by omega
          refine Ev.step (fun k => ?_) (refex_l0 l (by omega) m n (by omega) (by omega) (128 * n - 128 * m) (128 * m) (128 * (m : Int)) (128 * (m : Int)) false (by omega) (by omega) (Or.inr ⟨by unfold exF; omega, rfl, rfl, rfl⟩))
          rw [shawmref09_Exact.j0, if_neg (by simp), e, hm]

/-- All that the law compares. -/
theorem BlockFrames (l : List Bool) (i a b : Int) : ∃ k, block_Frames.f k l i = some (framesV l i) ∧ shawmref09_Frames.f k l i = some (framesV l i) ∧ block_Exact.f k l a b = some (exactV l a b) ∧ shawmref09_Exact.f k l a b = some (exactV l a b) := by
  obtain ⟨k1, h1⟩ := frames_ev l i
  obtain ⟨k2, h2⟩ := refFrames_ev l i
  obtain ⟨k3, h3⟩ := exact_ev l a b
  obtain ⟨k4, h4⟩ := refExact_ev l a b
  exact ⟨k1 + k2 + k3 + k4, h1 _ (by omega), h2 _ (by omega), h3 _ (by omega), h4 _ (by omega)⟩
end Go.Proofs.Ytooipbjdpajmmaa.Pure
