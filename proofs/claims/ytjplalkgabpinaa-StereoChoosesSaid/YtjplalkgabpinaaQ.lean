/- Plain facts on sums and on what coupling saves. Conditions: none beyond each lemma's own. -/
import Derived.Test.YtjplalkgabpinaaLOG
namespace Go.Proofs.Ytjplalkgabpinaa.Pure
open Go.RowKit Go.Proofs.Ytjplalkgabpinaa.Hn Go.Proofs.YtjplalkgabpinaaW.PrintWords Go.Proofs.YtjplalkgabpinaaW.PrintLast Go.Proofs.YtjplalkgabpinaaW.PrintMore

/-- The sum of f at the first n places. -/
def sumTo (f : Nat → Int) : Nat → Int
  | 0 => 0
  | n + 1 => sumTo f n + f n
theorem cost_sumTo (l : List Int) (n : Nat) (hn : n ≤ l.length) : costL (l.take n) = sumTo (fun i => costV (rd l (i : Int))) n := by
  induction n with
  | zero => rfl
  | succ n ih =>
    rw [List.take_succ_eq_append_getElem (by omega)]
    unfold costL at ih ⊢
    rw [List.map_append, List.sum_append, ih (by omega)]
    simp [sumTo, rd_get l n (by omega)]
theorem cost_is (l : List Int) (hl : l.length = 128) : costL l = sumTo (fun i => costV (rd l (i : Int))) 128 := by
  rw [← cost_sumTo l 128 (by omega), List.take_of_length_le (by omega)]
theorem sumTo_four (f g h k : Nat → Int) (n : Nat) : sumTo f n + sumTo g n - sumTo h n - sumTo k n = sumTo (fun i => f i + g i - h i - k i) n := by
  induction n with
  | zero => rfl
  | succ n ih => simp only [sumTo]; omega
theorem sumTo_congr {f g : Nat → Int} (n : Nat) (h : ∀ i, i < n → f i = g i) : sumTo f n = sumTo g n := by
  induction n with
  | zero => rfl
  | succ n ih => simp only [sumTo]; rw [ih (fun i hi => h i (by omega)), h n (by omega)]
theorem inM_band {ws : List Int} {mid : List Bool} {n b i : Nat} (hb : b < n) (h1 : offN ws b ≤ i) (h2 : i < offN ws (b + 1)) : inM ws mid n i = rdOf false mid (b : Int) := by
  induction n with
  | zero => omega
  | succ n ih =>
    simp only [inM]
    by_cases e : b = n
    · subst e
      have hno : inM ws mid b i = false := by
        cases h : inM ws mid b i with
        | false => rfl
        | true => have := inM_lt h; omega
      rw [hno]
      simp [h1, h2]
    · have hm := offN_mono' ws (a := b + 1) (b := n) (by omega)
      rw [ih (by omega)]
      have : ¬ offN ws n ≤ i := by omega
      simp [this]
/-- What coupling saves at a place. -/
def saved (l r ws : List Int) (mid : List Bool) (n i : Nat) : Int := costV (rd l (i : Int)) + costV (rd r (i : Int)) - costV (rd (cSt midP l r ws mid (List.range n)).2.1 (i : Int)) - costV (rd (cSt midP l r ws mid (List.range n)).2.2 (i : Int))
theorem saved_is {l r ws : List Int} {mid : List Bool} (hl : l.length = 128) (hr : r.length = 128) (hw : WOk ws) (n i : Nat) : saved l r ws mid n i = if inM ws mid n i = true then pairG (rd l (i : Int)) (rd r (i : Int)) else 0 := by
  unfold saved
  rw [(cSt_rd midP l r ws mid hl hr hw n i).1, (cSt_rd midP l r ws mid hl hr hw n i).2]
  by_cases h : inM ws mid n i = true
  · simp only [h, if_true]
    unfold midP pairG
    dsimp only
    omega
  · rw [if_neg h, if_neg h, if_neg h]
    omega
theorem band_saved {l r ws : List Int} {mid : List Bool} (hl : l.length = 128) (hr : r.length = 128) (hw : WOk ws) (n b : Nat) (hb : b < n) (m : Nat) (hm : offN ws b + m ≤ offN ws (b + 1)) :
    sumTo (saved l r ws mid n) (offN ws b + m) = sumTo (saved l r ws mid n) (offN ws b) + if rdOf false mid (b : Int) = true then bandSum l r (offN ws b) m else 0 := by
  induction m with
  | zero => simp [bandSum]
  | succ m ih =>
    have h1 := ih (by omega)
    rw [← Nat.add_assoc]
    simp only [sumTo]
    rw [h1, saved_is hl hr hw, inM_band hb (by omega) (by omega)]
    by_cases hc : rdOf false mid (b : Int) = true
    · rw [if_pos hc, if_pos hc, if_pos hc]
      simp only [bandSum]
      omega
    · rw [if_neg hc, if_neg hc, if_neg hc]
      omega
/-- What the bands save together. -/
def savedTo (l r ws : List Int) (b : Nat) : Int := sumTo (fun k => mx 0 (bandG l r ws k)) b
/-- Which bands are mid. -/
def chosen (l r ws : List Int) : List Bool := (gainL l r ws (List.range ws.length)).map (fun g => decide (g > 0))
theorem chosen_length (l r ws : List Int) : (chosen l r ws).length = ws.length := by simp [chosen, gainL_length]
theorem chosen_rd (l r ws : List Int) (b : Nat) (hb : b < ws.length) : rdOf false (chosen l r ws) (b : Int) = decide (bandG l r ws b > 0) := by
  unfold rdOf chosen gainL
  simp [List.getD_eq_getElem?_getD, hb]
theorem rd_gain (l r ws : List Int) (b : Nat) (hb : b < ws.length) : rd (gainL l r ws (List.range ws.length)) (b : Int) = bandG l r ws b := by
  rw [rd_get _ b (by rw [gainL_length, List.length_range]; exact hb)]
  simp [gainL]
theorem all_saved {l r ws : List Int} (hl : l.length = 128) (hr : r.length = 128) (hw : WOk ws) (b : Nat) (hb : b ≤ ws.length) : sumTo (saved l r ws (chosen l r ws) ws.length) (offN ws b) = savedTo l r ws b := by
  induction b with
  | zero => rw [offN_zero]; rfl
  | succ b ih =>
    have hm := offN_mono ws b
    have h1 := band_saved (mid := chosen l r ws) hl hr hw ws.length b (by omega) (offN ws (b + 1) - offN ws b) (by omega)
    rw [show offN ws b + (offN ws (b + 1) - offN ws b) = offN ws (b + 1) by omega, ih (by omega), chosen_rd l r ws b (by omega)] at h1
    rw [h1]
    unfold savedTo
    simp only [sumTo]
    have e : bandSum l r (offN ws b) (offN ws (b + 1) - offN ws b) = bandG l r ws b := rfl
    rw [e, mx_eq]
    by_cases hc : bandG l r ws b > 0
    · rw [if_pos (decide_eq_true hc)]; omega
    · rw [if_neg (by simpa using hc)]; omega
theorem gain_bound {l r ws : List Int} (hl : Coefs 2097152 l) (hr : Coefs 2097152 r) (hw : WOk ws) (b : Nat) : -2097152 ≤ bandG l r ws b ∧ bandG l r ws b ≤ 2097152 := by
  have h := bandSum_bound hl hr (offN ws b) (offN ws (b + 1) - offN ws b)
  have := offN_le hw (b + 1)
  unfold bandG
  omega
theorem savedTo_bound {l r ws : List Int} (hl : Coefs 2097152 l) (hr : Coefs 2097152 r) (hw : WOk ws) (b : Nat) : 0 ≤ savedTo l r ws b ∧ savedTo l r ws b ≤ 2097152 * (b : Int) := by
  induction b with
  | zero => simp [savedTo, sumTo]
  | succ b ih =>
    have h := gain_bound hl hr hw b
    unfold savedTo at ih ⊢
    simp only [sumTo]
    rw [mx_eq]
    omega
end Go.Proofs.Ytjplalkgabpinaa.Pure
