/- For at most five flags: with coefficients of one frame alone, just samples that hang on it by Frames are others than 0 in the lapped transform back. Conditions: those of the given statement, no others. -/
import Derived.Test.YtooipbjdpajmmaaI
import Derived.Test.YtooipbjdpajmmaaHlx20
namespace Go.Proofs.Ytooipbjdpajmmaa.Laps
open Go.RowKit Go.Proofs.Ytooipbjdpajmmaa.Hl Go.Proofs.YtooipbjdpajmmaaW.PrintWords Go.Proofs.YtooipbjdpajmmaaW.PrintLast

/-- A sample that the laps of frame f reach hangs on it. -/
theorem hangs (l : List Bool) (f i : Nat) (h0 : 128 * (f : Int) - (lapH l f : Int) ≤ (i : Int)) (h1 : (i : Int) < 128 * (f : Int) + 128 + (lapH l (f + 1) : Int)) : ¬ (f : Int) < frA l i ∧ ¬ (f : Int) > frB l i := by
  have hq : 128 * (i / 128) + i % 128 = i := Nat.div_add_mod i 128
  have hp : i % 128 < 128 := Nat.mod_lt _ (by omega)
  unfold frA frB
  generalize i / 128 = q at *
  generalize i % 128 = p at *
  have ha := lapH_le l f
  have hb := lapH_le l (f + 1)
  by_cases e1 : q = f
  · subst e1
    constructor
    · split <;> omega
    · split <;> omega
  · by_cases e2 : q + 1 = f
    · subst e2
      constructor
      · split <;> omega
      · split <;> omega
    · have e3 : q = f + 1 := by omega
      subst e3
      constructor
      · split <;> omega
      · split <;> omega
/-- The samples are gone through. -/
theorem samples_ev (l : List Bool) (h5 : l.length ≤ 5) (f : Nat) (hf : f < l.length) (x : List Int) (hx : x.length = 128 * l.length) (lo hi : Int) (hz : Zo x lo hi) (h0 : 128 * (f : Int) - (lapH l f : Int) ≤ lo) (h1 : hi ≤ 128 * (f : Int) + 128 + (lapH l (f + 1) : Int)) :
    ∀ (e i : Nat), i + e = x.length → Ev (fun k => shawmlaw09_BlockLaps.l1 k l (f : Int) x (x.length : Int) (i : Int)) true := by
  intro e
  induction e with
  | zero =>
    intro i hi'
    refine Ev.step (fun k => by rw [shawmlaw09_BlockLaps.l1]) ?_
    exact ev_neg (by omega) awake_ev
  | succ e ih =>
    intro i hi'
    have HR := Aside0.mk (ih (i + 1) (by omega))
    have hfr := frames_ev l (i : Int)
    have hv : framesV l (i : Int) = (frA l i, frB l i, 0) := by
      unfold framesV
      rw [if_neg (by omega), if_neg (by omega), Int.toNat_natCast]
    rw [hv] at hfr
    have HF := Aside0.mk hfr
    have hh : rd x (i : Int) ≠ 0 → ¬ (f : Int) < frA l i ∧ ¬ (f : Int) > frB l i := by
      intro hne
      have hin : lo ≤ (i : Int) ∧ (i : Int) < hi := by
        by_cases c : lo ≤ (i : Int) ∧ (i : Int) < hi
        · exact c
        · exact absurd (hz i c) hne
      exact hangs l f i (by omega) (by omega)
    clear ih hfr hv
    refine Ev.step (fun k => by rw [shawmlaw09_BlockLaps.l1]) ?_
    have E3 := Aside0.mk (show wrap64 ((i : Int) + 1) = ((i + 1 : Nat) : Int) from wrap_succ (by omega))
    simp only [E3.out]
    refine ev_pos (by omega) ?_
    refine ev_pos (by omega) ?_
    refine ev_pos (by omega) ?_
    refine Ev.bind HF.out ?_
    refine ev_pos rfl ?_
    by_cases c : rd x (i : Int) = 0
    · exact ev_pos c HR.out
    · refine ev_neg c ?_
      obtain ⟨g1, g2⟩ := hh c
      exact ev_neg g1 (ev_neg g2 HR.out)
/-- The coefficients are laid, and all that follows. -/
theorem laid_ev (l : List Bool) (h5 : l.length ≤ 5) (f : Nat) (hf : f < l.length) : ∀ (e i : Nat) (c : List Int), i + e = 128 → c.length = 128 * l.length → Zo c (128 * (f : Int)) (128 * (f : Int) + 128) → (∀ j : Nat, -2097152 ≤ rd c (j : Int) ∧ rd c (j : Int) ≤ 2097152) →
    Ev (fun k => shawmlaw09_BlockLaps.l0 k l (layB l) (f : Int) c (i : Int)) true := by
  intro e
  induction e with
  | zero =>
    intro i c hi hcl hc hb
    have L := laid l h5 f hf
    obtain ⟨x, hx, hl, hz⟩ := inverse_ev l h5 f hf c hcl hc hb
    refine Ev.step (fun k => by rw [shawmlaw09_BlockLaps.l0]) ?_
    have HX := Aside0.mk hx
    have HS := Aside0.mk (samples_ev l h5 f hf x hl _ _ hz L.low L.high x.length 0 (by omega))
    clear hx hz L hb hc
    refine ev_neg (by omega) ?_
    refine Ev.bind HX.out ?_
    refine ev_pos rfl ?_
    exact HS.out
  | succ e ih =>
    intro i c hi hcl hc hb
    have hset : Zo (c.set (128 * f + i) 5000) (128 * (f : Int)) (128 * (f : Int) + 128) := by
      intro j hj
      rw [rd_set _ _ _ _ (by omega)]
      exact hc j hj
    have hbs : ∀ j : Nat, -2097152 ≤ rd (c.set (128 * f + i) 5000) (j : Int) ∧ rd (c.set (128 * f + i) 5000) (j : Int) ≤ 2097152 := by
      intro j
      by_cases ej : j = 128 * f + i
      · subst ej
        rw [rd_set_at _ _ _ (by omega)]
        omega
      · rw [rd_set _ _ _ _ ej]; exact hb j
    have HR := Aside0.mk (ih (i + 1) (c.set (128 * f + i) 5000) (by omega) (by rw [List.length_set]; exact hcl) hset hbs)
    clear ih hset hbs hc hb
    refine Ev.step (fun k => by rw [shawmlaw09_BlockLaps.l0]) ?_
    have E1 := Aside0.mk (show wrap64 (wrap64 (128 * (f : Int)) + (i : Int)) = ((128 * f + i : Nat) : Int) from by
      rw [show wrap64 (128 * (f : Int)) = 128 * (f : Int) from wrap_in (by omega) (by omega), wrap_in (by omega) (by omega)]
      omega)
    have E3 := Aside0.mk (show wrap64 ((i : Int) + 1) = ((i + 1 : Nat) : Int) from wrap_succ (by omega))
    simp only [E1.out, E3.out, Int.toNat_natCast]
    refine ev_pos (by omega) ?_
    refine ev_pos (by omega) ?_
    refine ev_pos (by omega) ?_
    exact HR.out
/-- The law over numbers and lists alone. -/
theorem BlockLaps (l : List Bool) (a : Int) (ha0 : 0 ≤ a) (ha1 : a ≤ 255) : ∃ k, shawmlaw09_BlockLaps.f k l a = some true := by
  refine Ev.rounds ?_
  unfold shawmlaw09_BlockLaps.f
  have hj : Ev (fun k => shawmlaw09_BlockLaps.j0 k l a true) true := by
    refine Ev.step (fun k => by rw [shawmlaw09_BlockLaps.j0]) ?_
    exact ev_pos rfl awake_ev
  by_cases h5 : (l.length : Int) > 5
  · exact ev_pos h5 hj
  · refine ev_neg h5 ?_
    by_cases h0 : l.length = 0
    · rw [show ((l.length : Int) == 0) = true from beq_iff_eq.2 (by omega)]
      exact hj
    · rw [show ((l.length : Int) == 0) = false from beq_eq_false_iff_ne.2 (by omega)]
      clear hj
      obtain ⟨n, rfl⟩ := Int.eq_ofNat_of_zero_le ha0
      have hmod : n % l.length < l.length := Nat.mod_lt _ (by omega)
      have HL := Aside0.mk (laid_ev l (by omega) (n % l.length) hmod 128 0 (List.replicate (128 * l.length) 0) (by omega) (by simp) (fun j _ => allz_rep _ j) (fun j => by rw [allz_rep _ j]; omega))
      refine Ev.step (fun k => by rw [shawmlaw09_BlockLaps.j0]) ?_
      have E0 := Aside0.mk (show Int.tmod (wrap64 (n : Int)) (l.length : Int) = ((n % l.length : Nat) : Int) from by
        rw [wrap_nat (by omega), Int.tmod_eq_emod_of_nonneg (by omega), Int.natCast_emod])
      have E1 := Aside0.mk (show wrap64 (128 * (l.length : Int)) = ((128 * l.length : Nat) : Int) from by
        rw [wrap_in (by omega) (by omega)]
        omega)
      simp only [E0.out, E1.out, Int.toNat_natCast]
      refine ev_neg (by decide) ?_
      refine ev_val (show block_Layout.f l = some (layB l, 0) from by unfold block_Layout.f; rw [if_neg (by omega)]) ?_
      refine ev_pos rfl ?_
      refine ev_neg (by omega) ?_
      refine ev_pos (by omega) ?_
      refine ev_pos (by omega) ?_
      exact HL.out
end Go.Proofs.Ytooipbjdpajmmaa.Laps
