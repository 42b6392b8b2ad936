/- Plain facts on coupling two lists of numbers, band by band: what stands at each place, and that parting undoes coupling. Conditions: none beyond each lemma's own. -/
import Derived.Test.YtjplalkgabpinaaHnx6
namespace Go.Proofs.Ytjplalkgabpinaa.Pure
open Go.RowKit Go.Proofs.Ytjplalkgabpinaa.Hn Go.Proofs.YtjplalkgabpinaaW.PrintWords Go.Proofs.YtjplalkgabpinaaW.PrintLast Go.Proofs.YtjplalkgabpinaaW.PrintMore

theorem rd_nat (l : List Int) (i : Nat) : rd l (i : Int) = l.getD i 0 := by unfold rd; simp
theorem rd_set (l : List Int) (i j : Nat) (v : Int) (h : i < l.length) : rd (l.set i v) (j : Int) = if i = j then v else rd l (j : Int) := by
  rw [rd_nat, rd_nat, List.getD_eq_getElem?_getD, List.getD_eq_getElem?_getD, List.getElem?_set]
  split
  · first | rfl | (rw [if_pos h]; rfl)
  · rfl
theorem rd_ext {l r : List Int} (h : l.length = r.length) (hr : ∀ i : Nat, i < l.length → rd l (i : Int) = rd r (i : Int)) : l = r := by
  refine List.ext_getElem h fun i h1 h2 => ?_
  have := hr i h1
  rwa [rd_get l i h1, rd_get r i h2] at this
/-- Place i lies in one of the first k bands and that band is mid. -/
def inM (ws : List Int) (mid : List Bool) : Nat → Nat → Bool
  | 0, _ => false
  | k + 1, i => inM ws mid k i || (rdOf false mid (k : Int) && decide (offN ws k ≤ i) && decide (i < offN ws (k + 1)))
theorem inM_lt {ws : List Int} {mid : List Bool} {k i : Nat} (h : inM ws mid k i = true) : i < offN ws k := by
  induction k with
  | zero => simp [inM] at h
  | succ k ih =>
    simp only [inM, Bool.or_eq_true, Bool.and_eq_true, decide_eq_true_eq] at h
    rcases h with h | h
    · exact Nat.lt_of_lt_of_le (ih h) (offN_mono ws k)
    · exact h.2
theorem upd_rd (P : Int → Int → Int × Int) (l r : List Int) (S : List Int × List Int) (hS1 : S.1.length = 128) (hS2 : S.2.length = 128) (a n : Nat) (hn : a + n ≤ 128) (i : Nat) :
    rd (updP P l r S a n).1 (i : Int) = (if a ≤ i ∧ i < a + n then (P (rd l (i : Int)) (rd r (i : Int))).1 else rd S.1 (i : Int)) ∧ rd (updP P l r S a n).2 (i : Int) = (if a ≤ i ∧ i < a + n then (P (rd l (i : Int)) (rd r (i : Int))).2 else rd S.2 (i : Int)) := by
  induction n with
  | zero => rw [if_neg (by omega), if_neg (by omega)]; exact ⟨rfl, rfl⟩
  | succ n ih =>
    obtain ⟨i1, i2⟩ := ih (by omega)
    have hl := updP_length P l r S a n
    simp only [updP]
    rw [rd_set _ _ _ _ (by rw [hl.1, hS1]; omega), rd_set _ _ _ _ (by rw [hl.2, hS2]; omega), i1, i2]
    by_cases e : a + n = i
    · subst e
      rw [if_pos rfl, if_pos rfl, if_pos (by omega), if_pos (by omega)]
      exact ⟨rfl, rfl⟩
    · rw [if_neg e, if_neg e]
      by_cases h : a ≤ i ∧ i < a + n
      · rw [if_pos h, if_pos h, if_pos (by omega), if_pos (by omega)]; exact ⟨rfl, rfl⟩
      · rw [if_neg h, if_neg h, if_neg (by omega), if_neg (by omega)]; exact ⟨rfl, rfl⟩
theorem cSt_rd (P : Int → Int → Int × Int) (l r ws : List Int) (mid : List Bool) (hl : l.length = 128) (hr : r.length = 128) (hw : WOk ws) (k i : Nat) :
    rd (cSt P l r ws mid (List.range k)).2.1 (i : Int) = (if inM ws mid k i = true then (P (rd l (i : Int)) (rd r (i : Int))).1 else rd l (i : Int)) ∧ rd (cSt P l r ws mid (List.range k)).2.2 (i : Int) = (if inM ws mid k i = true then (P (rd l (i : Int)) (rd r (i : Int))).2 else rd r (i : Int)) := by
  induction k with
  | zero => simp [inM, cSt]
  | succ k ih =>
    have hlen := cSt_length P l r ws mid (List.range k)
    rw [hl, hr] at hlen
    rw [List.range_succ, cSt_snoc]
    unfold cStep
    rw [cSt_fst, List.length_range]
    have hm := offN_mono ws k
    have h128 := offN_le hw (k + 1)
    cases hb : rdOf false mid (k : Int) with
    | false =>
      have e : inM ws mid (k + 1) i = inM ws mid k i := by simp [inM, hb]
      rw [e]
      exact ih
    | true =>
      obtain ⟨u1, u2⟩ := upd_rd P l r (cSt P l r ws mid (List.range k)).2 hlen.1 hlen.2 (offN ws k) (offN ws (k + 1) - offN ws k) (by omega) i
      have e : inM ws mid (k + 1) i = (inM ws mid k i || decide (offN ws k ≤ i ∧ i < offN ws k + (offN ws (k + 1) - offN ws k))) := by
        simp only [inM, hb, Bool.true_and]
        congr 1
        rw [Bool.eq_iff_iff]
        simp only [Bool.and_eq_true, decide_eq_true_eq]
        omega
      rw [e]
      simp only [if_true]
      rw [u1, u2, ih.1, ih.2]
      by_cases hc : offN ws k ≤ i ∧ i < offN ws k + (offN ws (k + 1) - offN ws k)
      · simp [hc]
      · simp [hc]
theorem cpl_len (P : Int → Int → Int × Int) (l r ws : List Int) (mid : List Bool) (hl : l.length = 128) (hr : r.length = 128) (k : Nat) : (cSt P l r ws mid (List.range k)).2.1.length = 128 ∧ (cSt P l r ws mid (List.range k)).2.2.length = 128 := by
  have := cSt_length P l r ws mid (List.range k)
  rwa [hl, hr] at this
theorem inm_of_rd {m : Int} {l : List Int} (h : ∀ i : Nat, i < l.length → -m ≤ rd l (i : Int) ∧ rd l (i : Int) ≤ m) : Inm m l := by
  intro x hx
  obtain ⟨i, hi, rfl⟩ := List.getElem_of_mem hx
  have := h i hi
  rwa [rd_get l i hi] at this
theorem rd_of_inm {m : Int} {l : List Int} (h : Inm m l) (i : Nat) (hi : i < l.length) : -m ≤ rd l (i : Int) ∧ rd l (i : Int) ≤ m := by
  rw [rd_get l i hi]
  exact h _ (List.getElem_mem hi)
theorem mid_inm {l r ws : List Int} {mid : List Bool} (hl : l.length = 128) (hr : r.length = 128) (hw : WOk ws) (h0 : Inm 2097152 l) (h1 : Inm 2097152 r) (k : Nat) : Inm 8388608 (cSt midP l r ws mid (List.range k)).2.1 ∧ Inm 8388608 (cSt midP l r ws mid (List.range k)).2.2 := by
  have hlen := cpl_len midP l r ws mid hl hr k
  refine ⟨inm_of_rd fun i hi => ?_, inm_of_rd fun i hi => ?_⟩
  · have a := rd_of_inm h0 i (by omega)
    have b := rd_of_inm h1 i (by omega)
    rw [(cSt_rd midP l r ws mid hl hr hw k i).1]
    unfold midP
    split <;> (try dsimp only) <;> omega
  · have a := rd_of_inm h0 i (by omega)
    have b := rd_of_inm h1 i (by omega)
    rw [(cSt_rd midP l r ws mid hl hr hw k i).2]
    unfold midP
    split <;> (try dsimp only) <;> omega
theorem undone {l r ws : List Int} {mid : List Bool} (hl : l.length = 128) (hr : r.length = 128) (hw : WOk ws) (k : Nat) :
    (cSt sidP (cSt midP l r ws mid (List.range k)).2.1 (cSt midP l r ws mid (List.range k)).2.2 ws mid (List.range k)).2 = (l, r) := by
  have h1 := cpl_len midP l r ws mid hl hr k
  have h2 := cpl_len sidP _ _ ws mid h1.1 h1.2 k
  have key : ∀ i : Nat, rd (cSt sidP (cSt midP l r ws mid (List.range k)).2.1 (cSt midP l r ws mid (List.range k)).2.2 ws mid (List.range k)).2.1 (i : Int) = rd l (i : Int) ∧ rd (cSt sidP (cSt midP l r ws mid (List.range k)).2.1 (cSt midP l r ws mid (List.range k)).2.2 ws mid (List.range k)).2.2 (i : Int) = rd r (i : Int) := by
    intro i
    have a := cSt_rd sidP _ _ ws mid h1.1 h1.2 hw k i
    have b := cSt_rd midP l r ws mid hl hr hw k i
    rw [a.1, a.2, b.1, b.2]
    by_cases h : inM ws mid k i = true
    · simp only [h, if_true]
      unfold sidP midP
      dsimp only
      constructor <;> omega
    · rw [if_neg h, if_neg h, if_neg h, if_neg h]
      exact ⟨rfl, rfl⟩
  exact Prod.ext (rd_ext (by rw [h2.1, hl]) fun i _ => (key i).1) (rd_ext (by rw [h2.2, hr]) fun i _ => (key i).2)
end Go.Proofs.Ytjplalkgabpinaa.Pure
