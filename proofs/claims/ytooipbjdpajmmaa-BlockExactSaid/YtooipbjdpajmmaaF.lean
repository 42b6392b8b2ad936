/- Plain lemmas on the frames of a sample and on the samples that are known, as the program and the reference tell them. No conditions beyond each lemma's own. -/
import Derived.Test.YtooipbjdpajmmaaL
import Derived.Test.YtooipbjdpajmmaaHnx17
import Derived.Test.YtooipbjdpajmmaaHnx6
import Derived.Test.YtooipbjdpajmmaaHnx5
import Derived.Test.YtooipbjdpajmmaaHnx18
import Derived.Test.YtooipbjdpajmmaaHnx19
namespace Go.Proofs.Ytooipbjdpajmmaa.Pure
open Go.RowKit Go.Proofs.Ytooipbjdpajmmaa.Hn Go.Proofs.YtooipbjdpajmmaaW.PrintWords Go.Proofs.YtooipbjdpajmmaaW.PrintLast Go.Proofs.YtooipbjdpajmmaaW.PrintMore

theorem blap_ev (l : List Bool) (i : Nat) (hl : l.length ≤ 140737488351232) : Ev (fun k => block_lap.f k l (i : Int)) (lapB l i) :=
  Ev.of (fun k => block_lap.mono l (i : Int) k) (lap_tells l i hl)
/-- Half of a lap. -/
def lapH (l : List Bool) (i : Nat) : Nat := if i < 1 ∨ l.length ≤ i then 0 else if (l.getD (i - 1) false || l.getD i false) = true then 8 else 64
theorem lap_half (l : List Bool) (i : Nat) : wrap64 (Int.tdiv (lapB l i) 2) = (lapH l i : Int) := by
  unfold lapB lapH
  split
  · decide +kernel
  · split <;> decide +kernel
theorem lapH_le (l : List Bool) (i : Nat) : lapH l i ≤ 64 := by
  unfold lapH
  split
  · omega
  · split <;> omega
def frA (l : List Bool) (n : Nat) : Int := if n % 128 < lapH l (n / 128) then ((n / 128 : Nat) : Int) - 1 else ((n / 128 : Nat) : Int)
def frB (l : List Bool) (n : Nat) : Int := if 128 ≤ n % 128 + lapH l (n / 128 + 1) then ((n / 128 + 1 : Nat) : Int) else ((n / 128 : Nat) : Int)
theorem div_nat (n : Nat) (h : n ≤ 1000000) : wrap64 (Int.tdiv (n : Int) 128) = ((n / 128 : Nat) : Int) := by
  rw [Int.tdiv_eq_ediv_of_nonneg (by omega)]
  unfold wrap64
  omega
theorem mod_nat (n : Nat) : Int.tmod (n : Int) 128 = ((n % 128 : Nat) : Int) := by
  rw [Int.tmod_eq_emod_of_nonneg (by omega)]
  omega
/-- What both tell of a sample. -/
theorem frames_core (l : List Bool) (hl : l.length ≤ 64) (n : Nat) (hn : n < 128 * l.length) (L : Nat → Int → Option Int) (hL : ∀ i : Nat, Ev (fun k => L k (i : Int)) (lapB l i)) :
    Ev (fun k => (L k (wrap64 (Int.tdiv (n : Int) 128))).bind fun t => (if (Int.tmod (n : Int) 128) < (wrap64 (Int.tdiv t 2)) then ((L k (wrap64 ((wrap64 (Int.tdiv (n : Int) 128)) + 1))).bind fun u => (if (Int.tmod (n : Int) 128) ≥ (wrap64 (128 - (wrap64 (Int.tdiv u 2)))) then (some (wrap64 ((wrap64 (Int.tdiv (n : Int) 128)) - 1), wrap64 ((wrap64 (Int.tdiv (n : Int) 128)) + 1), (0 : Int))) else (some (wrap64 ((wrap64 (Int.tdiv (n : Int) 128)) - 1), wrap64 (Int.tdiv (n : Int) 128), 0)))) else ((L k (wrap64 ((wrap64 (Int.tdiv (n : Int) 128)) + 1))).bind fun u => (if (Int.tmod (n : Int) 128) ≥ (wrap64 (128 - (wrap64 (Int.tdiv u 2)))) then (some (wrap64 (Int.tdiv (n : Int) 128), wrap64 ((wrap64 (Int.tdiv (n : Int) 128)) + 1), 0)) else (some (wrap64 (Int.tdiv (n : Int) 128), wrap64 (Int.tdiv (n : Int) 128), 0))))))
      (frA l n, frB l n, 0) := by
  have hq : n / 128 < 64 := by omega
  have hp : n % 128 < 128 := Nat.mod_lt _ (by omega)
  unfold frA frB
  rw [div_nat n (by omega), mod_nat n]
  clear hn
  generalize n / 128 = q at *
  generalize n % 128 = p at *
  have h1 := lapH_le l q
  have h2 := lapH_le l (q + 1)
  have e3 : wrap64 ((q : Int) + 1) = ((q + 1 : Nat) : Int) := wrap_succ (by omega)
  have e4 : wrap64 ((q : Int) - 1) = (q : Int) - 1 := wrap_in (by omega) (by omega)
  have e5 : wrap64 (128 - (lapH l (q + 1) : Int)) = 128 - (lapH l (q + 1) : Int) := wrap_in (by omega) (by omega)
  rw [e3, e4]
  clear e3 e4
  refine Ev.bind (hL q) ?_
  simp only [lap_half l q]
  generalize hu : lapH l q = u at *
  generalize hv : lapH l (q + 1) = v at *
  clear hu
  have g2 := Aside0.mk (lap_half l (q + 1))
  rw [hv] at g2
  have E5 := Aside0.mk e5
  clear e5 hv
  by_cases c1 : p < u
  · rw [if_pos c1]
    refine ev_pos (by omega) (Ev.bind (hL (q + 1)) ?_)
    simp only [g2.out, E5.out]
    by_cases c2 : 128 ≤ p + v
    · rw [if_pos c2]; exact ev_pos (by omega) (Ev.now _)
    · rw [if_neg c2]; exact ev_neg (by omega) (Ev.now _)
  · rw [if_neg c1]
    refine ev_neg (by omega) (Ev.bind (hL (q + 1)) ?_)
    simp only [g2.out, E5.out]
    by_cases c2 : 128 ≤ p + v
    · rw [if_pos c2]; exact ev_pos (by omega) (Ev.now _)
    · rw [if_neg c2]; exact ev_neg (by omega) (Ev.now _)
def framesV (l : List Bool) (i : Int) : Int × Int × Int := if 64 < l.length then (0, 0, 2) else if i < 0 ∨ 128 * (l.length : Int) ≤ i then (0, 0, 6) else (frA l i.toNat, frB l i.toNat, 0)
theorem frames_ev (l : List Bool) (i : Int) : Ev (fun k => block_Frames.f k l i) (framesV l i) := by
  unfold block_Frames.f framesV
  by_cases h0 : 64 < l.length
  · rw [if_pos h0]; exact ev_pos (by omega) (Ev.now _)
  · rw [if_neg h0]
    have hw : wrap64 ((l.length : Int) * 128) = (l.length : Int) * 128 := wrap_in (by omega) (by omega)
    refine ev_neg (by omega) ?_
    by_cases h1 : i < 0
    · rw [if_pos (Or.inl h1)]; exact ev_pos h1 (Ev.now _)
    · refine ev_neg h1 ?_
      rw [hw]
      by_cases h2 : 128 * (l.length : Int) ≤ i
      · rw [if_pos (Or.inr h2)]; exact ev_pos (by omega) (Ev.now _)
      · rw [if_neg (by omega)]
        refine ev_neg (by omega) ?_
        obtain ⟨n, rfl⟩ : ∃ n : Nat, i = (n : Int) := ⟨i.toNat, by omega⟩
        rw [Int.toNat_natCast]
        exact frames_core l (by omega) n (by omega) (fun k x => block_lap.f k l x) (fun j => blap_ev l j (by omega))
theorem refFrames_ev (l : List Bool) (i : Int) : Ev (fun k => shawmref09_Frames.f k l i) (framesV l i) := by
  unfold shawmref09_Frames.f framesV
  by_cases h0 : 64 < l.length
  · rw [if_pos h0]; exact ev_pos (by omega) (Ev.now _)
  · rw [if_neg h0]
    have hw : wrap64 (128 * (l.length : Int)) = 128 * (l.length : Int) := wrap_in (by omega) (by omega)
    refine ev_neg (by omega) ?_
    have hT : Ev (fun k => shawmref09_Frames.j0 k l i true) (0, 0, 6) := by
      refine Ev.step (f := fun _ => some (0, 0, 6)) (fun k => ?_) (Ev.now _)
      simp only [shawmref09_Frames.j0]
      exact if_pos trivial
    by_cases h1 : i < 0
    · rw [if_pos (Or.inl h1)]; exact ev_pos h1 hT
    · refine ev_neg h1 ?_
      rw [hw]
      by_cases h2 : 128 * (l.length : Int) ≤ i
      · rw [if_pos (Or.inr h2), decide_eq_true (show i ≥ 128 * (l.length : Int) by omega)]; exact hT
      · rw [if_neg (by omega), decide_eq_false (show ¬ i ≥ 128 * (l.length : Int) by omega)]
        obtain ⟨n, rfl⟩ : ∃ n : Nat, i = (n : Int) := ⟨i.toNat, by omega⟩
        rw [Int.toNat_natCast]
        refine Ev.step (fun k => ?_) (frames_core l (by omega) n (by omega) (fun k x => shawmref09_lap.f k l x) (fun j => reflap_ev l j (by omega)))
        simp only [shawmref09_Frames.j0]
        exact if_neg (by simp)
/-- The first and the end of the known samples. -/
def exF (l : List Bool) (a : Nat) : Nat := 128 * a + lapH l a
def exT (l : List Bool) (b : Nat) : Nat := 128 * b - lapH l b
def exactV (l : List Bool) (a b : Int) : Int × Int × Int := if 64 < l.length then (0, 0, 2) else if a < 0 ∨ b < a ∨ (l.length : Int) < b then (0, 0, 6) else
  if exF l a.toNat < exT l b.toNat then ((exF l a.toNat : Int), (exT l b.toNat : Int), 0) else (128 * a, 128 * a, 0)
theorem exact_ev (l : List Bool) (a b : Int) : Ev (fun k => block_Exact.f k l a b) (exactV l a b) := by
  unfold block_Exact.f exactV
  by_cases h0 : 64 < l.length
  · rw [if_pos h0]; exact ev_pos (by omega) (Ev.now _)
  · rw [if_neg h0]
    refine ev_neg (by omega) ?_
    by_cases h1 : a < 0
    · rw [if_pos (Or.inl h1)]; exact ev_pos h1 (Ev.now _)
    · refine ev_neg h1 ?_
      by_cases h2 : b < a
      · rw [if_pos (Or.inr (Or.inl h2))]; exact ev_pos h2 (Ev.now _)
      · refine ev_neg h2 ?_
        by_cases h3 : (l.length : Int) < b
        · rw [if_pos (Or.inr (Or.inr h3))]; exact ev_pos (by omega) (Ev.now _)
        · rw [if_neg (by omega)]
          refine ev_neg (by omega) ?_
          obtain ⟨m, rfl⟩ : ∃ n : Nat, a = (n : Int) := ⟨a.toNat, by omega⟩
          obtain ⟨n, rfl⟩ : ∃ n : Nat, b = (n : Int) := ⟨b.toNat, by omega⟩
          rw [Int.toNat_natCast, Int.toNat_natCast]
          refine Ev.bind (blap_ev l m (by omega)) (Ev.bind (blap_ev l n (by omega)) ?_)
          have b1 := lapH_le l m
          have b2 := lapH_le l n
          have b3 : n = 0 → lapH l n = 0 := fun h => by subst h; unfold lapH; exact if_pos (Or.inl (by omega))
          have e1 : wrap64 ((m : Int) * 128) = (m : Int) * 128 := wrap_in (by omega) (by omega)
          have e2 : wrap64 ((n : Int) * 128) = (n : Int) * 128 := wrap_in (by omega) (by omega)
          have e3 : wrap64 ((m : Int) * 128 + (lapH l m : Int)) = (exF l m : Int) := by unfold exF; rw [wrap_in (by omega) (by omega)]; omega
          have e4 : wrap64 ((n : Int) * 128 - (lapH l n : Int)) = (exT l n : Int) := by unfold exT; rw [wrap_in (by omega) (by omega)]; omega
          rw [e1, e2, lap_half l m, lap_half l n, e3, e4]
          clear e1 e2 e3 e4
          by_cases hc : exF l m < exT l n
          · rw [if_pos hc]; exact ev_neg (by omega) (Ev.now _)
          · rw [if_neg hc, Int.mul_comm 128 (m : Int)]; exact ev_pos (by omega) (Ev.now _)
end Go.Proofs.Ytooipbjdpajmmaa.Pure
