/- Plain lemmas on the lapped transform back: coefficients of one frame alone leave 0 beside the places that its laps reach. No conditions beyond each lemma's own. -/
import Derived.Test.YtooipbjdpajmmaaB
import Derived.Test.YtooipbjdpajmmaaQ
import Derived.Test.YtooipbjdpajmmaaHlx19
namespace Go.Proofs.Ytooipbjdpajmmaa.Laps
open Go.RowKit Go.Proofs.Ytooipbjdpajmmaa.Hl Go.Proofs.YtooipbjdpajmmaaW.PrintWords Go.Proofs.YtooipbjdpajmmaaW.PrintLast

theorem sup_next (lay : List Int) (f : Int) (k : Nat) : (sup lay f (k + 1)).1 = (sup lay f k).1 + rd lay (k : Int) := by
  rw [sup]
  split <;> rfl
theorem within_ev (c : List Int) (hl : c.length ≤ 1000000) (h : ∀ j : Nat, -2097152 ≤ rd c (j : Int) ∧ rd c (j : Int) ≤ 2097152) : ∀ (e i : Nat), i + e = c.length → Ev (fun k => shawmref06_within.l0 k 2097152 c (c.length : Int) (i : Int)) true := by
  intro e
  induction e with
  | zero =>
    intro i hi
    refine Ev.step (fun k => by rw [shawmref06_within.l0]) ?_
    exact ev_neg (by omega) (Ev.now _)
  | succ e ih =>
    intro i hi
    have HR := Aside0.mk (ih (i + 1) (by omega))
    refine Ev.step (fun k => by rw [shawmref06_within.l0]) ?_
    have E3 := Aside0.mk (show wrap64 ((i : Int) + 1) = ((i + 1 : Nat) : Int) from wrap_succ (by omega))
    have E4 := Aside0.mk (show wrap64 (-(2097152 : Int)) = -2097152 from by decide +kernel)
    have hb := h i
    simp only [E3.out, E4.out]
    refine ev_pos (by omega) ?_
    refine ev_pos (by omega) ?_
    refine ev_pos (by omega) ?_
    refine ev_neg (by omega) ?_
    refine ev_neg (by omega) ?_
    exact HR.out
/-- A part of a list, read. -/
theorem rd_part (c : List Int) (a b j : Nat) : rd ((c.take b).drop a) (j : Int) = if a + j < b then rd c ((a + j : Nat) : Int) else 0 := by
  rw [rd_nat, rd_nat, List.getD_eq_getElem?_getD, List.getD_eq_getElem?_getD, List.getElem?_drop, List.getElem?_take]
  split
  · rfl
  · rfl
theorem rd_append (x t : List Int) (j : Nat) : rd (x ++ t) (j : Int) = if j < x.length then rd x (j : Int) else rd t ((j - x.length : Nat) : Int) := by
  rw [rd_nat, rd_nat, rd_nat, List.getD_eq_getElem?_getD, List.getD_eq_getElem?_getD, List.getD_eq_getElem?_getD]
  split
  · rename_i h; rw [List.getElem?_append_left h]
  · rename_i h; rw [List.getElem?_append_right (by omega)]
/-- One block more. -/
theorem block_next (c x t : List Int) (F : Int) (m : Nat) (hx : Zo x F (F + 128)) (hc : Zo c F (F + 128)) (ht : t.length = m) (hz : AllZ ((c.take (x.length + m)).drop x.length) → AllZ t)
    (hp : (x.length : Int) + (m : Int) ≤ F ∨ F + 128 ≤ (x.length : Int) ∨ (F ≤ (x.length : Int) ∧ (x.length : Int) + (m : Int) ≤ F + 128)) : Zo (x ++ t) F (F + 128) := by
  intro j hj
  rw [rd_append]
  by_cases h : j < x.length
  · rw [if_pos h]; exact hx j hj
  · rw [if_neg h]
    have hdis : (x.length : Int) + (m : Int) ≤ F ∨ F + 128 ≤ (x.length : Int) → rd t ((j - x.length : Nat) : Int) = 0 := by
      intro hd
      refine hz (fun i => ?_) (j - x.length)
      rw [rd_part]
      split
      · exact hc _ (by omega)
      · rfl
    rcases hp with hp | hp | hp
    · exact hdis (Or.inl hp)
    · exact hdis (Or.inr hp)
    · rw [rd_nat, List.getD_eq_getElem?_getD, List.getElem?_eq_none (by omega)]
      rfl
theorem blocks_ev (l : List Bool) (h5 : l.length ≤ 5) (f : Nat) (hf : f < l.length) (c : List Int) (hcl : c.length = 128 * l.length) (hc : Zo c (128 * (f : Int)) (128 * (f : Int) + 128)) (p q : PlanT) (hp : Plan p 4) (hq : Plan q 32) :
    ∀ (e i : Nat) (x : List Int), i + e = (layB l).length → (x.length : Int) = (sup (layB l) (f : Int) i).1 → Zo x (128 * (f : Int)) (128 * (f : Int) + 128) →
      ∃ r, Ev (fun k => shawmref08_inverse.l0 k c (layB l) x (layB l) ((layB l).length : Int) (i : Int) p.1 p.2.1 p.2.2.1 p.2.2.2.1 p.2.2.2.2.1 p.2.2.2.2.2 q.1 q.2.1 q.2.2.1 q.2.2.2.1 q.2.2.2.2.1 q.2.2.2.2.2) r ∧
        r.length = 128 * l.length ∧ Zo r (sup (layB l) (f : Int) ((layB l).length - 1)).2.1 (sup (layB l) (f : Int) ((layB l).length - 1)).2.2 := by
  have L := laid l h5 f hf
  intro e
  induction e with
  | zero =>
    intro i x hi hx hz
    have hi' : i = (layB l).length := by omega
    rw [hi', L.sum] at hx
    obtain ⟨ts, hts, gts⟩ := lap16
    obtain ⟨tl, htl, gtl⟩ := lap128
    obtain ⟨y, hy, hl, hzy⟩ := folded_some ts tl hts htl gts gtl (layB l) x (f : Int) hz (by omega) (by omega) L.most (fun j hj => by rw [hx]; exact L.lap j hj)
    refine ⟨y, Ev.step (fun k => by rw [shawmref08_inverse.l0]) ?_, by omega, hzy⟩
    refine ev_neg (by omega) ?_
    exact ev_val hy (Ev.now _)
  | succ e ih =>
    intro i x hi hx hz
    obtain ⟨hn, h0, h1, h2⟩ := L.block i (by omega)
    obtain ⟨m, hm⟩ := Int.eq_ofNat_of_zero_le (show 0 ≤ rd (layB l) (i : Int) by omega)
    have hm1 : m = 16 ∨ m = 128 := by omega
    rw [← hx, hm] at h1 h2
    have hpl : ((c.take (x.length + m)).drop x.length).length = m := by
      rw [List.length_drop, List.length_take]
      omega
    obtain ⟨t, ht, htl, htz⟩ : ∃ t, Ev (fun k => backOf (if m = 16 then p else q) k ((c.take (x.length + m)).drop x.length)) t ∧ t.length = m ∧ (AllZ ((c.take (x.length + m)).drop x.length) → AllZ t) := by
      rcases hm1 with rfl | rfl
      · rw [if_pos rfl]
        exact planback_ev p 4 3 hp (by decide) (by decide) _ hpl
      · rw [if_neg (by decide)]
        exact planback_ev q 32 6 hq (by decide) (by decide) _ hpl
    have hzn := block_next c x t (128 * (f : Int)) m hz hc htl htz h2
    obtain ⟨r, hr, hrl, hrz⟩ := ih (i + 1) (x ++ t) (by omega) (by rw [sup_next, ← hx, hm, List.length_append, htl, Int.natCast_add]) hzn
    refine ⟨r, Ev.step (fun k => by rw [shawmref08_inverse.l0]) ?_, hrl, hrz⟩
    have HR := Aside0.mk hr
    have HT := Aside0.mk ht
    have hile : i < (layB l).length := by omega
    have hmost := L.most
    clear hr ht htz hzn ih hrz L hz hc
    have E1 := Aside0.mk (show wrap64 ((x.length : Int) + rd (layB l) (i : Int)) = ((x.length + m : Nat) : Int) from by rw [hm]; exact wrap_nat (by omega))
    have E3 := Aside0.mk (show wrap64 ((i : Int) + 1) = ((i + 1 : Nat) : Int) from wrap_succ (by omega))
    simp only [E1.out, E3.out, Int.toNat_natCast]
    refine ev_pos (by omega) ?_
    refine ev_pos (by omega) ?_
    refine ev_pos (by omega) ?_
    refine ev_pos (by omega) ?_
    refine ev_pos (by omega) ?_
    refine ev_pos (by omega) ?_
    by_cases e16 : m = 16
    · have hT := HT.out
      rw [if_pos e16] at hT
      refine ev_pos (by omega) ?_
      refine Ev.bind hT ?_
      refine ev_pos (by omega) ?_
      exact HR.out
    · have hT := HT.out
      rw [if_neg e16] at hT
      refine ev_neg (by omega) ?_
      refine Ev.bind hT ?_
      refine ev_pos (by omega) ?_
      exact HR.out
theorem inverse_ev (l : List Bool) (h5 : l.length ≤ 5) (f : Nat) (hf : f < l.length) (c : List Int) (hcl : c.length = 128 * l.length) (hc : Zo c (128 * (f : Int)) (128 * (f : Int) + 128)) (hb : ∀ j : Nat, -2097152 ≤ rd c (j : Int) ∧ rd c (j : Int) ≤ 2097152) :
    ∃ r, Ev (fun k => shawmref08_Inverse.f k c (layB l)) (r, 0) ∧ r.length = 128 * l.length ∧ Zo r (sup (layB l) (f : Int) ((layB l).length - 1)).2.1 (sup (layB l) (f : Int) ((layB l).length - 1)).2.2 := by
  have L := laid l h5 f hf
  obtain ⟨p, hp, gp⟩ := of16
  obtain ⟨q, hq, gq⟩ := of128
  obtain ⟨r, hr, hl, hz⟩ := blocks_ev l h5 f hf c hcl hc p q gp gq (layB l).length 0 [] (by omega) (by rfl) (fun j _ => by rw [rd_nat]; rfl)
  refine ⟨r, ?_, hl, hz⟩
  have herr : Ev (fun k => shawmref08_errors.f k c (layB l)) 0 := by
    unfold shawmref08_errors.f
    refine Ev.bind (Ev.of (fun k => shawmref08_Is.mono (layB l) k) L.is) ?_
    refine ev_pos rfl ?_
    refine Ev.bind (Ev.of (fun k => shawmref08_Sum.mono (layB l) k) L.sums) ?_
    exact ev_pos (by rw [hcl]; omega) (Ev.now _)
  have hwit : Ev (fun k => shawmref06_Within.f k 2097152 c) true := by
    unfold shawmref06_Within.f shawmref06_within.f
    exact Ev.bind (within_ev c (by omega) hb c.length 0 (by omega)) (Ev.now _)
  have hinv : Ev (fun k => shawmref08_inverse.f k c (layB l)) r := by
    unfold shawmref08_inverse.f
    refine Ev.bind (Ev.of (fun k => shawmref07_Of.mono 16 k) hp) ?_
    exact Ev.bind (Ev.of (fun k => shawmref07_Of.mono 128 k) hq) hr
  unfold shawmref08_Inverse.f
  refine Ev.bind herr ?_
  refine ev_pos rfl ?_
  refine Ev.bind hwit ?_
  refine ev_pos rfl ?_
  exact Ev.bind hinv (Ev.now _)
end Go.Proofs.Ytooipbjdpajmmaa.Laps
