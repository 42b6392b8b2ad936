/- Plain facts on lists within bounds, on widths, and on two channels that are the same. Conditions: none beyond each lemma's own. -/
import Derived.Test.YtjplalkgabpinaaHnx11
import Derived.Test.YtjplalkgabpinaaHnx16
import Derived.Test.YtjplalkgabpinaaE
namespace Go.Proofs.Ytjplalkgabpinaa.Pure
open Go.RowKit Go.Proofs.Ytjplalkgabpinaa.Hn Go.Proofs.YtjplalkgabpinaaW.PrintWords Go.Proofs.YtjplalkgabpinaaW.PrintLast Go.Proofs.YtjplalkgabpinaaW.PrintMore

theorem within_l0 (l : List Int) (m : Int) (hm0 : 0 ≤ m) (hm1 : m ≤ 1099511627776) (hl : l.length ≤ 1000) (d : Nat) : ∀ i : Nat, i + d = l.length → Ev (fun k => shawmref06_within.l0 k m l (l.length : Int) (i : Int)) (decide (Inm m (l.drop i))) := by
  induction d with
  | zero =>
    intro i hi
    rw [List.drop_of_length_le (by omega), decide_eq_true (show Inm m [] from fun x hx => by simp at hx)]
    refine Ev.step (f := fun _ => some true) (fun k => ?_) (Ev.now _)
    simp only [shawmref06_within.l0]
    rw [if_neg (by omega)]
  | succ d ih =>
    intro i hi
    have hx := rd_get l i (by omega)
    have hc : l.drop i = l[i] :: l.drop (i + 1) := List.drop_eq_getElem_cons (by omega)
    have hw : wrap64 (-m) = -m := by unfold wrap64; omega
    by_cases c1 : rd l (i : Int) < -m
    · rw [decide_eq_false (fun h => by have := h l[i] (by rw [hc]; exact List.mem_cons_self); omega)]
      refine Ev.step (f := fun _ => some false) (fun k => ?_) (Ev.now _)
      simp only [shawmref06_within.l0]
      rw [if_pos (by omega), if_pos (by omega), if_pos (by omega), hw, if_pos c1]
    · by_cases c2 : rd l (i : Int) > m
      · rw [decide_eq_false (fun h => by have := h l[i] (by rw [hc]; exact List.mem_cons_self); omega)]
        refine Ev.step (f := fun _ => some false) (fun k => ?_) (Ev.now _)
        simp only [shawmref06_within.l0]
        rw [if_pos (by omega), if_pos (by omega), if_pos (by omega), hw, if_neg c1, if_pos c2]
      · have e : decide (Inm m (l.drop i)) = decide (Inm m (l.drop (i + 1))) := by
          rw [Bool.eq_iff_iff, decide_eq_true_eq, decide_eq_true_eq, hc]
          unfold Inm
          simp only [List.mem_cons, forall_eq_or_imp]
          exact ⟨fun h => h.2, fun h => ⟨by omega, h⟩⟩
        rw [e]
        refine Ev.step (fun k => ?_) (ih (i + 1) (by omega))
        simp only [shawmref06_within.l0]
        rw [if_pos (by omega), if_pos (by omega), if_pos (by omega), hw, if_neg c1, if_neg c2, wrap_succ (by omega)]
theorem within_ev (l : List Int) (m : Int) (hm0 : 0 ≤ m) (hm1 : m ≤ 1099511627776) (hl : l.length ≤ 1000) : Ev (fun k => shawmref06_Within.f k m l) (decide (Inm m l)) := by
  unfold shawmref06_Within.f
  have h := within_l0 l m hm0 hm1 hl l.length 0 (by omega)
  rw [List.drop_zero] at h
  refine Ev.bind (Ev.congr (fun k => rfl) h) ?_
  exact Ev.now _
theorem sum_len_le {ws : List Int} (h : ∀ w ∈ ws, 1 ≤ w) {w : Int} (hw : w ∈ ws) : w ≤ ws.sum := by
  induction ws with
  | nil => simp at hw
  | cons x ws ih =>
    have h1 := h x (by simp)
    have h2 := sum_drop_nonneg (ws := ws) (fun y hy => h y (by simp [hy]))
    rw [List.sum_cons]
    rcases List.mem_cons.1 hw with rfl | hw
    · omega
    · have := ih (fun y hy => h y (by simp [hy])) hw
      omega
theorem widths_l0 (ws : List Int) (hl : ws.length ≤ 17592186044416) (d : Nat) : ∀ (i : Nat) (s : Int), i + d = ws.length → s = (ws.take i).sum → 0 ≤ s → s ≤ 128 * (i : Int) → (∀ w ∈ ws.take i, 1 ≤ w) →
    Ev (fun k => shawmref13_Widths.l0 k ws s ws (ws.length : Int) (i : Int)) (decide (WOk ws)) := by
  induction d with
  | zero =>
    intro i s hi h1 h2 h3 h4
    rw [List.take_of_length_le (by omega)] at h1 h4
    by_cases hp : WOk ws
    · rw [decide_eq_true hp]
      refine Ev.step (f := fun _ => some true) (fun k => ?_) (Ev.now _)
      simp only [shawmref13_Widths.l0]
      have := hp.2.1
      have := hp.2.2
      rw [if_neg (by omega), if_pos (by omega), if_pos (by omega)]
      simp only [Option.some.injEq, beq_iff_eq]
      omega
    · rw [decide_eq_false hp]
      refine Ev.step (f := fun _ => some false) (fun k => ?_) (Ev.now _)
      simp only [shawmref13_Widths.l0]
      rw [if_neg (by omega)]
      by_cases a1 : (ws.length : Int) ≥ 1
      · rw [if_pos a1]
        by_cases a2 : (ws.length : Int) ≤ 32
        · rw [if_pos a2]
          have : s ≠ 128 := fun e => hp ⟨h4, by omega, by omega, by omega⟩
          simp only [Option.some.injEq, beq_eq_false_iff_ne, ne_eq]
          exact this
        · rw [if_neg a2]
      · rw [if_neg a1]
  | succ d ih =>
    intro i s hi h1 h2 h3 h4
    have hlt : i < ws.length := by omega
    have hx := rd_get ws i hlt
    have htk : (ws.take (i + 1)).sum = (ws.take i).sum + ws[i] := by rw [List.take_succ_eq_append_getElem hlt, List.sum_append]; simp
    by_cases c1 : rd ws (i : Int) < 1
    · have hp : ¬ WOk ws := fun hp => by have := hp.1 ws[i] (List.getElem_mem hlt); omega
      rw [decide_eq_false hp]
      refine Ev.step (f := fun _ => some false) (fun k => ?_) (Ev.now _)
      simp only [shawmref13_Widths.l0]
      rw [if_pos (by omega), if_pos (by omega), if_pos (by omega), if_pos c1]
    · by_cases c2 : rd ws (i : Int) > 128
      · have hp : ¬ WOk ws := fun hp => by
          have := sum_len_le hp.1 (List.getElem_mem hlt)
          have := hp.2.1
          omega
        rw [decide_eq_false hp]
        refine Ev.step (f := fun _ => some false) (fun k => ?_) (Ev.now _)
        simp only [shawmref13_Widths.l0]
        rw [if_pos (by omega), if_pos (by omega), if_pos (by omega), if_neg c1, if_pos c2]
      · refine Ev.step (fun k => ?_) (ih (i + 1) (s + rd ws (i : Int)) (by omega) (by omega) (by omega) (by omega) (fun w hw => ?_))
        · simp only [shawmref13_Widths.l0]
          rw [if_pos (by omega), if_pos (by omega), if_pos (by omega), if_neg c1, if_neg c2, show wrap64 (s + rd ws (i : Int)) = s + rd ws (i : Int) by unfold wrap64; omega, wrap_succ (by omega)]
        · rw [List.take_succ_eq_append_getElem hlt, List.mem_append] at hw
          rcases hw with hw | hw
          · exact h4 w hw
          · obtain rfl : w = ws[i] := by simpa using hw
            omega
theorem widths_ev (ws : List Int) (hl : ws.length ≤ 17592186044416) : Ev (fun k => shawmref13_Widths.f k ws) (decide (WOk ws)) :=
  Ev.congr (fun k => rfl) (widths_l0 ws hl ws.length 0 0 (by omega) (by simp) (by omega) (by omega) (by simp))
/-- Something among n numbers from a on is not 0. -/
def nz (l : List Int) (a : Nat) : Nat → Bool
  | 0 => false
  | n + 1 => nz l a n || (rd l ((a + n : Nat) : Int) != 0)
theorem cost_zero : costV 0 = 0 := by decide +kernel
theorem cost_pos {x : Int} (h0 : x ≠ 0) (h1 : -2097152 ≤ x) (h2 : x ≤ 2097152) : 0 < costV x := by
  unfold costV logB
  have hn : 2 ≤ mx x (-x) + 1 := by rw [mx_eq]; omega
  have hb := mantB_bound (n := mx x (-x) + 1) (by omega)
  have hf := frAt_bound hb.1 hb.2 8
  have hlog : 1 ≤ Nat.log2 (mx x (-x) + 1).toNat := (Nat.le_log2 (by omega)).2 (by omega)
  omega
theorem pair_same {x : Int} : pairG x x = costV x := by
  unfold pairG
  rw [show x - x = 0 by omega, show x + 0 / 2 = x by omega, cost_zero]
  omega
theorem nz_sum {l : List Int} (hl : Coefs 2097152 l) (a n : Nat) : 0 ≤ bandSum l l a n ∧ (0 < bandSum l l a n ↔ nz l a n = true) ∧ (0 < prodSum l l a n ↔ nz l a n = true) := by
  induction n with
  | zero => simp [bandSum, nz, prodSum]
  | succ n ih =>
    obtain ⟨i1, i2, i3⟩ := ih
    have hx := hl (a + n)
    have hs := prodSum_sq l a n
    simp only [bandSum, prodSum, nz, Bool.or_eq_true]
    rw [pair_same]
    generalize rd l ((a + n : Nat) : Int) = x at *
    have hsq := sq_nonneg x
    by_cases h0 : x = 0
    · subst h0
      rw [cost_zero, Int.mul_zero, Int.add_zero, Int.add_zero]
      have hb : ¬ ((0 : Int) != 0) = true := by decide
      exact ⟨i1, ⟨fun h => .inl (i2.1 h), fun h => h.elim i2.2 (fun h => absurd h hb)⟩, ⟨fun h => .inl (i3.1 h), fun h => h.elim i3.2 (fun h => absurd h hb)⟩⟩
    · have hc := cost_pos h0 hx.1 hx.2
      have hq : 0 < x * x := by
        rcases Int.lt_or_gt_of_ne h0 with h | h
        · exact Int.mul_pos_of_neg_of_neg h h
        · exact Int.mul_pos h h
      have hb : (x != 0) = true := by simpa using h0
      exact ⟨by omega, ⟨fun _ => .inr hb, fun _ => by omega⟩, ⟨fun _ => .inr hb, fun _ => by omega⟩⟩
theorem crossB_same {l ws : List Int} (hl : Coefs 2097152 l) (b : Nat) : crossB l l ws b = if nz l (offN ws b) (offN ws (b + 1) - offN ws b) = true then 256 else 0 := by
  obtain ⟨_, _, h3⟩ := nz_sum hl (offN ws b) (offN ws (b + 1) - offN ws b)
  have hs := prodSum_sq l (offN ws b) (offN ws (b + 1) - offN ws b)
  unfold crossB bandS crossV
  dsimp only
  generalize prodSum l l (offN ws b) (offN ws (b + 1) - offN ws b) = S at *
  by_cases h0 : S = 0
  · rw [if_pos h0, if_neg (fun h => by have := h3.2 h; omega)]
  · rw [if_neg h0, if_neg h0, if_neg (by omega), if_pos (h3.1 (by omega))]
    have e1 : mx S (-S) = S := by rw [mx_eq]; omega
    have e2 : mx (mx (mx S S) S) (-S) = S := by simp only [mx_eq]; omega
    rw [e2, e1]
    exact Int.mul_ediv_cancel _ h0
theorem gain_same {l ws : List Int} (hl : Coefs 2097152 l) (b : Nat) : decide (bandG l l ws b > 0) = nz l (offN ws b) (offN ws (b + 1) - offN ws b) := by
  obtain ⟨_, h2, _⟩ := nz_sum hl (offN ws b) (offN ws (b + 1) - offN ws b)
  unfold bandG
  rw [Bool.eq_iff_iff, decide_eq_true_eq]
  exact h2
/-- Which bands are mid. -/
def midOf (l ws : List Int) : List Bool := (gainL l l ws (List.range ws.length)).map (fun g => decide (g > 0))
theorem midOf_length (l ws : List Int) : (midOf l ws).length = ws.length := by simp [midOf, gainL_length]
theorem midOf_rd {l ws : List Int} (hl : Coefs 2097152 l) (b : Nat) (hb : b < ws.length) : rdOf false (midOf l ws) (b : Int) = nz l (offN ws b) (offN ws (b + 1) - offN ws b) := by
  rw [← gain_same hl b]
  unfold rdOf midOf gainL
  simp [List.getD_eq_getElem?_getD, hb]
theorem inM_of {ws : List Int} {mid : List Bool} {n b i : Nat} (hb : b < n) (hm : rdOf false mid (b : Int) = true) (h1 : offN ws b ≤ i) (h2 : i < offN ws (b + 1)) : inM ws mid n i = true := by
  induction n with
  | zero => omega
  | succ n ih =>
    simp only [inM, Bool.or_eq_true, Bool.and_eq_true, decide_eq_true_eq]
    by_cases e : b = n
    · subst e; exact .inr ⟨⟨hm, h1⟩, h2⟩
    · exact .inl (ih (by omega))
theorem same_first {l ws : List Int} (mid : List Bool) (hl : l.length = 128) (hw : WOk ws) (n : Nat) : (cSt midP l l ws mid (List.range n)).2.1 = l := by
  have hlen := cpl_len midP l l ws mid hl hl n
  refine rd_ext (by rw [hlen.1, hl]) fun i _ => ?_
  rw [(cSt_rd midP l l ws mid hl hl hw n i).1]
  unfold midP
  split
  · dsimp only; omega
  · rfl
theorem same_second {l ws : List Int} (mid : List Bool) (hl : l.length = 128) (hw : WOk ws) (n b i : Nat) (hb : b < n) (hm : rdOf false mid (b : Int) = true) (h1 : offN ws b ≤ i) (h2 : i < offN ws (b + 1)) : rd (cSt midP l l ws mid (List.range n)).2.2 (i : Int) = 0 := by
  rw [(cSt_rd midP l l ws mid hl hl hw n i).2, if_pos (inM_of hb hm h1 h2)]
  unfold midP
  dsimp only
  omega
end Go.Proofs.Ytjplalkgabpinaa.Pure
