/- For all channels and widths: how alike bands are lies between -256 and 256, does not hang on which channel is first, and turns its sign with one channel. Conditions: those of the given statement, no others. -/
import Derived.Test.YtjplalkgabpinaaHnx15
import Derived.Test.YtjplalkgabpinaaPureStereoUndone
namespace Go.Proofs.Ytjplalkgabpinaa.Pure
open Go.RowKit Go.Proofs.Ytjplalkgabpinaa.Hn Go.Proofs.YtjplalkgabpinaaW.PrintWords Go.Proofs.YtjplalkgabpinaaW.PrintLast Go.Proofs.YtjplalkgabpinaaW.PrintMore

theorem mx_comm (a b : Int) : mx a b = mx b a := by unfold mx; split <;> split <;> omega
theorem mx_eq (a b : Int) : mx a b = max a b := by unfold mx; split <;> omega
theorem crossV_comm (a b x : Int) : crossV a b x = crossV b a x := by
  unfold crossV
  rw [mx_comm a b]
  by_cases ha : a = 0
  · rw [if_pos ha]
    by_cases hb : b = 0
    · rw [if_pos hb]
    · rw [if_neg hb, if_pos ha]
  · rw [if_neg ha]
    by_cases hb : b = 0
    · rw [if_pos hb, if_pos hb]
    · rw [if_neg hb, if_neg hb, if_neg ha]
theorem crossV_neg (a b x : Int) : crossV a b (-x) = -crossV a b x := by
  unfold crossV
  rw [Int.neg_neg, mx_comm (-x) x]
  have e : mx (mx (mx a b) (-x)) x = mx (mx (mx a b) x) (-x) := by simp only [mx_eq]; omega
  rw [e]
  by_cases ha : a = 0
  · rw [if_pos ha, if_pos ha]; rfl
  · rw [if_neg ha, if_neg ha]
    by_cases hb : b = 0
    · rw [if_pos hb, if_pos hb]; rfl
    · rw [if_neg hb, if_neg hb]
      by_cases h0 : x = 0
      · subst h0
        have : mx 0 (-0) = 0 := by decide
        rw [this, if_neg (by omega), if_neg (by omega)]
        simp
      · by_cases h1 : x < 0
        · rw [if_pos h1, if_neg (by omega), Int.neg_neg]
        · rw [if_neg h1, if_pos (by omega)]
theorem crossV_bd (a b x : Int) (ha : 0 ≤ a) (hb : 0 ≤ b) : -256 ≤ crossV a b x ∧ crossV a b x ≤ 256 := by
  unfold crossV
  by_cases h1 : a = 0
  · rw [if_pos h1]; omega
  · rw [if_neg h1]
    by_cases h2 : b = 0
    · rw [if_pos h2]; omega
    · rw [if_neg h2]
      have hm : 0 ≤ mx x (-x) := by rw [mx_eq]; omega
      have hM : 1 ≤ mx (mx (mx a b) x) (-x) := by simp only [mx_eq]; omega
      have hle : mx x (-x) ≤ mx (mx (mx a b) x) (-x) := by simp only [mx_eq]; omega
      obtain ⟨m, em⟩ : ∃ m, m = mx x (-x) := ⟨_, rfl⟩
      obtain ⟨M, eM⟩ : ∃ M, M = mx (mx (mx a b) x) (-x) := ⟨_, rfl⟩
      rw [← em, ← eM] at hle ⊢
      rw [← em] at hm
      rw [← eM] at hM
      have q0 : 0 ≤ 256 * m / M := Int.ediv_nonneg (by omega) (by omega)
      have q1 : 256 * m / M ≤ 256 := Int.ediv_le_of_le_mul (by omega) (by omega)
      split <;> omega
theorem prodSum_comm (u v : List Int) (a n : Nat) : prodSum u v a n = prodSum v u a n := by
  induction n with
  | zero => rfl
  | succ n ih => simp only [prodSum]; rw [ih, Int.mul_comm]
theorem bandS_swap (l r ws : List Int) (b : Nat) : bandS r l ws b = ((bandS l r ws b).2.1, (bandS l r ws b).1, (bandS l r ws b).2.2) := by
  unfold bandS; rw [prodSum_comm r l]
theorem crossL_swap (l r ws : List Int) (n : Nat) : crossL r l ws n = crossL l r ws n := by
  unfold crossL
  refine List.map_congr_left fun b _ => ?_
  unfold crossB
  rw [bandS_swap, crossV_comm]
theorem chkV_swap (l r ws : List Int) (m : Int) : chkV r l ws m = chkV l r ws m := by
  unfold chkV
  by_cases hw : WOk ws
  · rw [if_pos hw, if_pos hw]
    by_cases hl : l.length = 128
    · by_cases hr : r.length = 128
      · rw [if_pos hr, if_pos hl, if_pos hl, if_pos hr]
        by_cases hi : Inm m l ∧ Inm m r
        · rw [if_pos hi, if_pos ⟨hi.2, hi.1⟩]
        · rw [if_neg hi, if_neg (fun h => hi ⟨h.2, h.1⟩)]
      · simp [hl, hr]
    · simp [hl]
  · rw [if_neg hw, if_neg hw]
def turn (l : List Int) : List Int := l.map (fun x => -x)
theorem turn_rd (l : List Int) (i : Nat) : rd (turn l) (i : Int) = -rd l (i : Int) := by
  unfold turn
  rw [rd_nat, rd_nat, List.getD_eq_getElem?_getD, List.getD_eq_getElem?_getD, List.getElem?_map]
  cases l[i]? <;> simp
theorem prodSum_turn (l r : List Int) (a n : Nat) : prodSum (turn l) r a n = -prodSum l r a n := by
  induction n with
  | zero => rfl
  | succ n ih => simp only [prodSum]; rw [ih, turn_rd, Int.neg_mul]; omega
theorem prodSum_turn2 (l : List Int) (a n : Nat) : prodSum (turn l) (turn l) a n = prodSum l l a n := by
  rw [prodSum_turn, prodSum_comm, prodSum_turn, Int.neg_neg]
theorem crossB_turn (l r ws : List Int) (b : Nat) : crossB (turn l) r ws b = -crossB l r ws b := by
  unfold crossB bandS
  rw [prodSum_turn2, prodSum_turn, crossV_neg]
theorem crossB_bd (l r ws : List Int) (b : Nat) : -256 ≤ crossB l r ws b ∧ crossB l r ws b ≤ 256 := crossV_bd _ _ _ (prodSum_sq _ _ _) (prodSum_sq _ _ _)
theorem rd_crossL (l r ws : List Int) (n i : Nat) (h : i < n) : rd (crossL l r ws n) (i : Int) = crossB l r ws i := by
  rw [rd_get _ i (by rw [crossL_length]; exact h)]
  simp [crossL]
/-- What Cross answers. -/
def crossA (l r ws : List Int) : List Int × Int := if chkV l r ws 2097152 = 0 then (crossL l r ws ws.length, 0) else ([], chkV l r ws 2097152)
theorem cross_some (l r ws : List Int) (hw : ws.length ≤ 1000) : stereo_Cross.f l r ws = some (crossA l r ws) := by
  unfold stereo_Cross.f crossA
  rw [if_pos hw]
theorem sc_l1 (l r ws : List Int) (n : Nat) (hn : n ≤ 1000) (d : Nat) : ∀ i : Nat, i + d = n → Ev (fun k => shawmlaw13_StereoCross.l1 k (crossL l r ws n) (crossL (turn l) r ws n) (n : Int) (i : Int)) true := by
  induction d with
  | zero =>
    intro i hi
    refine Ev.step (f := fun _ => some true) (fun k => ?_) (Ev.now _)
    simp only [shawmlaw13_StereoCross.l1]
    rw [if_neg (by omega)]
    rfl
  | succ d ih =>
    intro i hi
    have h1 := rd_crossL l r ws n i (by omega)
    have h2 := rd_crossL (turn l) r ws n i (by omega)
    rw [crossB_turn] at h2
    have hb := crossB_bd l r ws i
    refine Ev.step (fun k => ?_) (ih (i + 1) (by omega))
    simp only [shawmlaw13_StereoCross.l1]
    rw [h1, h2, crossL_length, crossL_length]
    rw [if_pos (by omega), if_pos (by omega), if_pos (by omega), if_neg (by omega), if_neg (by omega), if_pos (by omega), if_pos (by unfold wrap64; omega), wrap_succ (by omega)]
theorem sc_l0 (l r ws : List Int) (hw : WOk ws) (hl : l.length = 128) (hr : r.length = 128) (h0 : Inm 2097152 l) (h1 : Inm 2097152 r) (d : Nat) : ∀ (i : Nat) (t : List Int), i + d = 128 → t = (turn l).take i →
    Ev (fun k => shawmlaw13_StereoCross.l0 k ws (crossL l r ws ws.length) t l (l.length : Int) (i : Int) l r) true := by
  have htl : (turn l).length = 128 := by simp [turn, hl]
  have hlen : ws.length ≤ 32 := hw.2.2.2
  induction d with
  | zero =>
    intro i t hi ht
    rw [List.take_of_length_le (by omega)] at ht
    subst ht
    have hc : chkV (turn l) r ws 2097152 = 0 := chkV_mk hw htl hr (inm_of_rd fun j hj => by
      have := rd_of_inm h0 j (by omega)
      rw [turn_rd]; omega) h1
    refine Ev.step (fun k => ?_) (Ev.step (f := fun k => shawmlaw13_StereoCross.l1 k (crossL l r ws ws.length) (crossL (turn l) r ws ws.length) (ws.length : Int) 0) (g := fun k => shawmlaw13_StereoCross.j2 k (crossL l r ws ws.length) (crossL (turn l) r ws ws.length) false) (fun k => ?_) (sc_l1 l r ws ws.length (by omega) ws.length 0 (by omega)))
    · simp only [shawmlaw13_StereoCross.l0]
      rw [if_neg (by omega), cross_some _ _ _ (by omega)]
      unfold crossA
      rw [if_pos hc, Option.bind_some]
      simp only [if_true, crossL_length]
      simp
    · simp only [shawmlaw13_StereoCross.j2]
      rw [if_neg (by simp), crossL_length]
  | succ d ih =>
    intro i t hi ht
    have hx := turn_rd l i
    have hb := rd_of_inm h0 i (by omega)
    have et : t ++ [wrap64 (-rd l (i : Int))] = (turn l).take (i + 1) := by
      rw [List.take_succ_eq_append_getElem (by omega), ht, ← rd_get (turn l) i (by omega), hx]
      rw [show wrap64 (-rd l (i : Int)) = -rd l (i : Int) by unfold wrap64; omega]
    refine Ev.step (fun k => ?_) (ih (i + 1) (t ++ [wrap64 (-rd l (i : Int))]) (by omega) et)
    simp only [shawmlaw13_StereoCross.l0]
    rw [if_pos (by omega), if_pos (by omega), if_pos (by omega), if_pos (by rw [ht, List.length_take]; omega), wrap_succ (by omega)]
theorem StereoCross (l r ws : List Int) : ∃ k, shawmlaw13_StereoCross.f k l r ws = some true := by
  refine Ev.rounds (g := fun k => shawmlaw13_StereoCross.f k l r ws) ?_
  unfold shawmlaw13_StereoCross.f
  refine ev_val (few_val l r ws []) ?_
  by_cases hf : l.length ≤ 300 ∧ r.length ≤ 300 ∧ ws.length ≤ 200 ∧ ([] : List Bool).length ≤ 200
  · simp only [decide_eq_true hf, if_true]
    have hwl : ws.length ≤ 1000 := by omega
    refine ev_val (cross_some l r ws hwl) ?_
    refine ev_val (cross_some r l ws hwl) ?_
    have e : crossA r l ws = crossA l r ws := by unfold crossA; rw [chkV_swap, crossL_swap]
    rw [e]
    simp only [if_true]
    have hlen : (crossA l r ws).1.length ≤ 1000 := by
      unfold crossA
      split
      · rw [crossL_length]; exact hwl
      · simp
    refine Ev.bind (ints_same _ (by omega)) ?_
    simp only [if_true]
    by_cases hc : chkV l r ws 2097152 = 0
    · obtain ⟨hw, hl, hr, i0, i1⟩ := chkV_ok hc
      unfold crossA
      rw [if_pos hc]
      refine Ev.step (fun k => ?_) (sc_l0 l r ws hw hl hr i0 i1 128 0 [] (by omega) (by simp))
      simp only [shawmlaw13_StereoCross.j0]
      rw [if_neg (by simp)]
      rfl
    · unfold crossA
      rw [if_neg hc]
      have hne : (chkV l r ws 2097152 != 0) = true := by simpa using hc
      rw [hne]
      refine Ev.step (f := fun k => (shawmref02_Ints.f k ([] : List Int) []).bind fun t => if t = true then (shawmlaw13_awake.f).bind fun t174 => (some t174) else none) (fun k => ?_) (Ev.bind (ints_same [] (by simp)) ?_)
      · simp only [shawmlaw13_StereoCross.j0]
        rw [if_pos trivial, if_pos trivial]
      · simp only [if_true]
        exact Ev.now _
  · refine Ev.congr (fun k => ?_) (Ev.now true)
    rw [decide_eq_false hf]
    rfl
end Go.Proofs.Ytjplalkgabpinaa.Pure
