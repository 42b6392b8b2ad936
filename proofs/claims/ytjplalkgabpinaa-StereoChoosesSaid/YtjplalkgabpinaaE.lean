/- Plain facts on how alike bands are. Conditions: none beyond each lemma's own. -/
import Derived.Test.YtjplalkgabpinaaHnx8
import Derived.Test.YtjplalkgabpinaaD
namespace Go.Proofs.Ytjplalkgabpinaa.Pure
open Go.RowKit Go.Proofs.Ytjplalkgabpinaa.Hn Go.Proofs.YtjplalkgabpinaaW.PrintWords Go.Proofs.YtjplalkgabpinaaW.PrintLast Go.Proofs.YtjplalkgabpinaaW.PrintMore

theorem mx_comm (a b : Int) : mx a b = mx b a := by unfold mx; split <;> split <;> omega
theorem mx_eq (a b : Int) : mx a b = max a b := by unfold mx; split <;> omega
theorem crossV_comm (a b x : Int) : crossV a b x = crossV b a x := by
  unfold crossV
  rw [mx_comm a b]
  by_cases ha : a = 0
  · rw [if_pos ha]
    by_cases hb : b = 0
    · rw [if_pos hb]
    · rw [if_neg hb, if_pos ha]
  · rw [if_neg ha]
    by_cases hb : b = 0
    · rw [if_pos hb, if_pos hb]
    · rw [if_neg hb, if_neg hb, if_neg ha]
theorem crossV_neg (a b x : Int) : crossV a b (-x) = -crossV a b x := by
  unfold crossV
  rw [Int.neg_neg, mx_comm (-x) x]
  have e : mx (mx (mx a b) (-x)) x = mx (mx (mx a b) x) (-x) := by simp only [mx_eq]; omega
  rw [e]
  by_cases ha : a = 0
  · rw [if_pos ha, if_pos ha]; rfl
  · rw [if_neg ha, if_neg ha]
    by_cases hb : b = 0
    · rw [if_pos hb, if_pos hb]; rfl
    · rw [if_neg hb, if_neg hb]
      by_cases h0 : x = 0
      · subst h0
        have : mx 0 (-0) = 0 := by decide
        rw [this, if_neg (by omega), if_neg (by omega)]
        simp
      · by_cases h1 : x < 0
        · rw [if_pos h1, if_neg (by omega), Int.neg_neg]
        · rw [if_neg h1, if_pos (by omega)]
theorem crossV_bd (a b x : Int) (ha : 0 ≤ a) (hb : 0 ≤ b) : -256 ≤ crossV a b x ∧ crossV a b x ≤ 256 := by
  unfold crossV
  by_cases h1 : a = 0
  · rw [if_pos h1]; omega
  · rw [if_neg h1]
    by_cases h2 : b = 0
    · rw [if_pos h2]; omega
    · rw [if_neg h2]
      have hm : 0 ≤ mx x (-x) := by rw [mx_eq]; omega
      have hM : 1 ≤ mx (mx (mx a b) x) (-x) := by simp only [mx_eq]; omega
      have hle : mx x (-x) ≤ mx (mx (mx a b) x) (-x) := by simp only [mx_eq]; omega
      obtain ⟨m, em⟩ : ∃ m, m = mx x (-x) := ⟨_, rfl⟩
      obtain ⟨M, eM⟩ : ∃ M, M = mx (mx (mx a b) x) (-x) := ⟨_, rfl⟩
      rw [← em, ← eM] at hle ⊢
      rw [← em] at hm
      rw [← eM] at hM
      have q0 : 0 ≤ 256 * m / M := Int.ediv_nonneg (by omega) (by omega)
      have q1 : 256 * m / M ≤ 256 := Int.ediv_le_of_le_mul (by omega) (by omega)
      split <;> omega
theorem prodSum_comm (u v : List Int) (a n : Nat) : prodSum u v a n = prodSum v u a n := by
  induction n with
  | zero => rfl
  | succ n ih => simp only [prodSum]; rw [ih, Int.mul_comm]
theorem bandS_swap (l r ws : List Int) (b : Nat) : bandS r l ws b = ((bandS l r ws b).2.1, (bandS l r ws b).1, (bandS l r ws b).2.2) := by
  unfold bandS; rw [prodSum_comm r l]
theorem crossL_swap (l r ws : List Int) (n : Nat) : crossL r l ws n = crossL l r ws n := by
  unfold crossL
  refine List.map_congr_left fun b _ => ?_
  unfold crossB
  rw [bandS_swap, crossV_comm]
theorem chkV_swap (l r ws : List Int) (m : Int) : chkV r l ws m = chkV l r ws m := by
  unfold chkV
  by_cases hw : WOk ws
  · rw [if_pos hw, if_pos hw]
    by_cases hl : l.length = 128
    · by_cases hr : r.length = 128
      · rw [if_pos hr, if_pos hl, if_pos hl, if_pos hr]
        by_cases hi : Inm m l ∧ Inm m r
        · rw [if_pos hi, if_pos ⟨hi.2, hi.1⟩]
        · rw [if_neg hi, if_neg (fun h => hi ⟨h.2, h.1⟩)]
      · simp [hl, hr]
    · simp [hl]
  · rw [if_neg hw, if_neg hw]
def turn (l : List Int) : List Int := l.map (fun x => -x)
theorem turn_rd (l : List Int) (i : Nat) : rd (turn l) (i : Int) = -rd l (i : Int) := by
  unfold turn
  rw [rd_nat, rd_nat, List.getD_eq_getElem?_getD, List.getD_eq_getElem?_getD, List.getElem?_map]
  cases l[i]? <;> simp
theorem prodSum_turn (l r : List Int) (a n : Nat) : prodSum (turn l) r a n = -prodSum l r a n := by
  induction n with
  | zero => rfl
  | succ n ih => simp only [prodSum]; rw [ih, turn_rd, Int.neg_mul]; omega
theorem prodSum_turn2 (l : List Int) (a n : Nat) : prodSum (turn l) (turn l) a n = prodSum l l a n := by
  rw [prodSum_turn, prodSum_comm, prodSum_turn, Int.neg_neg]
theorem crossB_turn (l r ws : List Int) (b : Nat) : crossB (turn l) r ws b = -crossB l r ws b := by
  unfold crossB bandS
  rw [prodSum_turn2, prodSum_turn, crossV_neg]
theorem crossB_bd (l r ws : List Int) (b : Nat) : -256 ≤ crossB l r ws b ∧ crossB l r ws b ≤ 256 := crossV_bd _ _ _ (prodSum_sq _ _ _) (prodSum_sq _ _ _)
theorem rd_crossL (l r ws : List Int) (n i : Nat) (h : i < n) : rd (crossL l r ws n) (i : Int) = crossB l r ws i := by
  rw [rd_get _ i (by rw [crossL_length]; exact h)]
  simp [crossL]
/-- What Cross answers. -/
def crossA (l r ws : List Int) : List Int × Int := if chkV l r ws 2097152 = 0 then (crossL l r ws ws.length, 0) else ([], chkV l r ws 2097152)
theorem cross_some (l r ws : List Int) (hw : ws.length ≤ 1000) : stereo_Cross.f l r ws = some (crossA l r ws) := by
  unfold stereo_Cross.f crossA
  rw [if_pos hw]
end Go.Proofs.Ytjplalkgabpinaa.Pure
