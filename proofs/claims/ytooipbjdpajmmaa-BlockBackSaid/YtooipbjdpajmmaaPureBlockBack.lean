/- For all flags: the flags come back from the kinds; a layout's sum is 128 for each frame; each lap is the lesser of the blocks beside it. Conditions: those of the given statement, no others. -/
import Derived.Test.YtooipbjdpajmmaaL
import Derived.Test.YtooipbjdpajmmaaPureBlockOf
import Derived.Test.YtooipbjdpajmmaaHnx26
namespace Go.Proofs.Ytooipbjdpajmmaa.Pure
open Go.RowKit Go.Proofs.Ytooipbjdpajmmaa.Hn Go.Proofs.YtooipbjdpajmmaaW.PrintWords Go.Proofs.YtooipbjdpajmmaaW.PrintLast Go.Proofs.YtooipbjdpajmmaaW.PrintMore

theorem kindB_two (l : List Bool) (i : Nat) : kindB l i = 2 ↔ l.getD i false = true := by
  unfold kindB
  constructor
  · intro h
    by_cases hg : l.getD i false = true
    · exact hg
    · rw [if_neg hg] at h
      split at h
      · split at h <;> omega
      · split at h <;> omega
  · intro h; rw [if_pos h]
theorem kindB_ok (l : List Bool) (i : Nat) : okB (kindB l i) = true := by
  unfold kindB okB
  split
  · rfl
  · split
    · split <;> rfl
    · split <;> rfl
theorem flags_back (l : List Bool) : flagsOf (kindsL l) = l := by
  unfold flagsOf
  rw [kindsL_length]
  refine List.ext_getElem (by simp) (fun i h1 h2 => ?_)
  have hi : i < l.length := h2
  have hk := kindsL_rd l i hi
  have h2' := kindB_two l i
  have hg : l.getD i false = l[i] := by simp [List.getD_eq_getElem?_getD, hi]
  rw [List.getElem_map, List.getElem_range]
  unfold shortB
  rw [hk]
  rw [hg] at h2'
  cases hl : l[i] with
  | true => simp [h2'.2 hl]
  | false =>
    have : ¬ kindB l i = 2 := fun h => by have := h2'.1 h; rw [hl] at this; cases this
    simp [this]
theorem of_kinds (l : List Bool) (hl : l.length ≤ 64) : ofV (kindsL l) = (l, 0) := by
  unfold ofV
  rw [if_neg (by rw [kindsL_length]; omega), if_pos (show kindAll (kindsL l) from fun j hj => by rw [kindsL_length] at hj; rw [kindsL_rd l j hj]; exact kindB_ok l j),
    if_pos (show rightAll (kindsL l) from fun j hj => by rw [kindsL_length] at hj; rw [kindsL_rd l j hj, flags_back]), flags_back]

theorem layB_mem (l : List Bool) : ∀ x ∈ layB l, x = 16 ∨ x = 128 := by
  intro x hx
  unfold layB at hx
  obtain ⟨b, _, hb⟩ := List.mem_flatMap.1 hx
  split at hb
  · exact Or.inl (List.eq_of_mem_replicate hb)
  · exact Or.inr (by simpa using hb)
theorem layB_cons (b : Bool) (l : List Bool) : layB (b :: l) = (if b then List.replicate 8 16 else [128]) ++ layB l := List.flatMap_cons
theorem layB_sum (l : List Bool) : (layB l).sum = 128 * (l.length : Int) := by
  induction l with
  | nil => rfl
  | cons b l ih =>
    rw [layB_cons, List.sum_append, ih, List.length_cons]
    have : (if b = true then List.replicate 8 (16 : Int) else [128]).sum = 128 := by cases b <;> rfl
    omega
theorem is_l0 (l : List Int) (hl : l.length ≤ 512) (hm : ∀ x ∈ l, x = 16 ∨ x = 128) (d : Nat) : ∀ i : Nat, i + d = l.length → Ev (fun k => shawmref08_Is.l0 k l l (l.length : Int) (i : Int)) true := by
  induction d with
  | zero =>
    intro i hi
    refine Ev.step (f := fun _ => some true) (fun k => ?_) (Ev.now _)
    simp only [shawmref08_Is.l0]
    rw [if_neg (by omega), decide_eq_true (by omega)]
  | succ d ih =>
    intro i hi
    have hx := hm l[i] (List.getElem_mem (by omega))
    rw [← rd_lt l i (by omega)] at hx
    refine Ev.step (fun k => ?_) (ih (i + 1) (by omega))
    simp only [shawmref08_Is.l0]
    rw [if_pos (by omega), if_pos (by omega), if_pos (by omega), wrap_succ (by omega)]
    rcases hx with h | h
    · rw [if_pos h]
    · rw [if_neg (by omega), if_pos h]
theorem is_ev (l : List Int) (hl : l.length ≤ 512) (hm : ∀ x ∈ l, x = 16 ∨ x = 128) : Ev (fun k => shawmref08_Is.f k l) true := Ev.congr (fun k => rfl) (is_l0 l hl hm l.length 0 (by omega))
theorem sum_l0 (l : List Int) (hl : l.length ≤ 512) (hm : ∀ x ∈ l, x = 16 ∨ x = 128) (d : Nat) : ∀ (i : Nat) (s : Int), i + d = l.length → 0 ≤ s → s ≤ 128 * (i : Int) →
    Ev (fun k => shawmref08_Sum.l0 k s l (l.length : Int) (i : Int)) (s + (l.drop i).sum) := by
  induction d with
  | zero =>
    intro i s hi h0 h1
    rw [List.drop_of_length_le (by omega), List.sum_nil, Int.add_zero]
    refine Ev.step (f := fun _ => some s) (fun k => ?_) (Ev.now _)
    simp only [shawmref08_Sum.l0]
    rw [if_neg (by omega)]
  | succ d ih =>
    intro i s hi h0 h1
    have hx := hm l[i] (List.getElem_mem (by omega))
    have hr := rd_lt l i (by omega)
    rw [List.drop_eq_getElem_cons (by omega), List.sum_cons, ← Int.add_assoc, ← hr]
    rw [← hr] at hx
    have e : wrap64 (s + rd l (i : Int)) = s + rd l (i : Int) := wrap_in (by omega) (by omega)
    refine Ev.step (fun k => ?_) (ih (i + 1) (s + rd l (i : Int)) (by omega) (by omega) (by omega))
    simp only [shawmref08_Sum.l0]
    rw [if_pos (by omega), if_pos (by omega), if_pos (by omega), e, wrap_succ (by omega)]
theorem sum_ev (l : List Int) (hl : l.length ≤ 512) (hm : ∀ x ∈ l, x = 16 ∨ x = 128) : Ev (fun k => shawmref08_Sum.f k l) l.sum := by
  have h := sum_l0 l hl hm l.length 0 0 (by omega) (by omega) (by omega)
  rw [List.drop_zero, Int.zero_add] at h
  exact Ev.congr (fun k => rfl) h

/-- Where frame f's blocks begin. -/
def posL (l : List Bool) (f : Nat) : Nat := (layB (l.take f)).length
theorem pos_succ (l : List Bool) (f : Nat) (hf : f < l.length) : posL l (f + 1) = posL l f + (if rdOf false l (f : Int) = true then 8 else 1) := by
  unfold posL
  rw [layB_take l f hf, List.length_append]
  split <;> simp
theorem pos_end (l : List Bool) : posL l l.length = (layB l).length := by unfold posL; rw [List.take_length]
theorem pos_le (l : List Bool) (f : Nat) (hf : f ≤ l.length) : posL l f ≤ (layB l).length := by
  have e : layB l = layB (l.take f) ++ layB (l.drop f) := by
    unfold layB
    rw [← List.flatMap_append, List.take_append_drop]
  unfold posL
  rw [e, List.length_append]
  omega
theorem pos_lt (l : List Bool) (d : Nat) : ∀ f : Nat, f + d = l.length → posL l f + d ≤ (layB l).length := by
  induction d with
  | zero => intro f hf; have := pos_le l f (by omega); omega
  | succ d ih =>
    intro f hf
    have h := ih (f + 1) (by omega)
    rw [pos_succ l f (by omega)] at h
    split at h <;> omega
theorem lay_at (l : List Bool) (f s : Nat) (hf : f < l.length) : rd (layB l) ((posL l f + s : Nat) : Int) = rd ((if rdOf false l (f : Int) = true then List.replicate 8 16 else [128]) ++ layB (l.drop (f + 1))) (s : Int) := by
  have e : layB l = layB (l.take f) ++ ((if rdOf false l (f : Int) = true then List.replicate 8 16 else [128]) ++ layB (l.drop (f + 1))) := by
    rw [← List.append_assoc, ← layB_take l f hf]
    unfold layB
    rw [← List.flatMap_append, List.take_append_drop]
  rw [e]
  generalize (if rdOf false l (f : Int) = true then List.replicate 8 (16 : Int) else [128]) ++ layB (l.drop (f + 1)) = Y
  rw [rd_nat, rd_nat, List.getD_eq_getElem?_getD, List.getD_eq_getElem?_getD]
  unfold posL
  rw [List.getElem?_append_right (by omega)]
  congr 2
  omega
theorem lay_short (l : List Bool) (f s : Nat) (hf : f < l.length) (hb : rdOf false l (f : Int) = true) (hs : s < 8) : rd (layB l) ((posL l f + s : Nat) : Int) = 16 := by
  rw [lay_at l f s hf, if_pos hb, rd_nat, List.getD_eq_getElem?_getD, List.getElem?_append_left (by simpa using hs), List.getElem?_replicate, if_pos hs]
  rfl
theorem lay_long (l : List Bool) (f : Nat) (hf : f < l.length) (hb : ¬ rdOf false l (f : Int) = true) : rd (layB l) ((posL l f : Nat) : Int) = 128 := by
  have h := lay_at l f 0 hf
  rw [Nat.add_zero, if_neg hb] at h
  rw [h]
  rfl
theorem laps_rd (l : List Bool) (f : Nat) (hf : f + 1 < l.length) : rd (lapsL l) (f : Int) = lapB l (f + 1) := by
  rw [rd_lt _ _ (by rw [lapsL_length]; omega)]
  simp [lapsL]
/-- The step at a frame's end: its lap is the lesser block. -/
theorem lap_is (l : List Bool) (f : Nat) (x : Int) (hf : f + 1 < l.length) (hx : x = if rdOf false l (f : Int) = true then 16 else 128) :
    rd (lapsL l) (f : Int) = mn x (rd (layB l) ((posL l (f + 1) : Nat) : Int)) := by
  rw [laps_rd l f hf]
  unfold lapB
  rw [if_neg (by omega), Nat.add_sub_cancel]
  have e0 : rdOf false l (f : Int) = l.getD f false := rdb_nat l f
  have e1 : rdOf false l ((f + 1 : Nat) : Int) = l.getD (f + 1) false := rdb_nat l (f + 1)
  have hy : rd (layB l) ((posL l (f + 1) : Nat) : Int) = if rdOf false l ((f + 1 : Nat) : Int) = true then 16 else 128 := by
    split
    · rename_i h
      have := lay_short l (f + 1) 0 hf h (by omega)
      rwa [Nat.add_zero] at this
    · rename_i h
      exact lay_long l (f + 1) hf h
  rw [hy, hx, e0, e1]
  cases l.getD f false <;> cases l.getD (f + 1) false <;> rfl
theorem back_stop (l : List Bool) (at_ : Int) (i : Nat) (hi : (layB l).length ≤ i + 1) (hi2 : i ≤ 1000) : Ev (fun k => shawmlaw09_BlockBack.l0 k (layB l) (lapsL l) at_ (i : Int)) true := by
  refine Ev.step (fun k => ?_) awake_ev
  simp only [shawmlaw09_BlockBack.l0]
  rw [wrap_succ (by omega), if_neg (by omega)]
theorem back_step (L Q : List Int) (a x j I A g : Int) (k : Nat) (hw : wrap64 (j + 1) = I) (hx : rd L j = x) (e1 : wrap64 (a + x) = A) (e3 : Int.tmod A 128 = 0) (e2 : wrap64 (wrap64 (Int.tdiv A 128) - 1) = g) (hi1 : I < L.length) (n0 : 0 ≤ j) (hi0 : j < L.length)
    (n1 : 0 ≤ g) (hll : g < Q.length) (n2 : 0 ≤ I) (hlap : rd Q g = mn x (rd L I)) : shawmlaw09_BlockBack.l0 (k + 1) L Q a j = shawmlaw09_BlockBack.l0 k L Q A I := by
  rw [shawmlaw09_BlockBack.l0]
  rw [hw, hx, e1, e2, if_pos hi1, if_pos n0, if_pos hi0, if_pos e3, if_pos n1, if_pos hll, if_pos n2, if_pos hlap]
theorem end_mod (F : Int) (h : 0 ≤ F) : Int.tmod (128 * F) 128 = 0 := by rw [Int.tmod_eq_emod_of_nonneg (by omega)]; omega
theorem end_div (f : Nat) (h : f ≤ 64) : wrap64 (wrap64 (Int.tdiv (128 * ((f + 1 : Nat) : Int)) 128) - 1) = (f : Int) := by
  have e : Int.tdiv (128 * ((f + 1 : Nat) : Int)) 128 = ((f + 1 : Nat) : Int) := by rw [Int.tdiv_eq_ediv_of_nonneg (by omega)]; omega
  rw [e, wrap_nat (by omega), wrap_pred (by omega)]
theorem back_go (l : List Bool) (hl : l.length ≤ 64) (f : Nat) (i : Nat) (a : Int) (x : Int) (hx : rd (layB l) (i : Int) = x) (hi : i + 1 < (layB l).length) (ha : a + x = 128 * ((f + 1 : Nat) : Int)) (hf : f + 1 < l.length)
    (hp : posL l (f + 1) = i + 1) (hq : x = if rdOf false l (f : Int) = true then 16 else 128) (h : Ev (fun k => shawmlaw09_BlockBack.l0 k (layB l) (lapsL l) (128 * ((f + 1 : Nat) : Int)) ((i + 1 : Nat) : Int)) true) :
    Ev (fun k => shawmlaw09_BlockBack.l0 k (layB l) (lapsL l) a (i : Int)) true := by
  have hN := layB_len l
  have hlap := lap_is l f x hf hq
  rw [hp] at hlap
  have hll : (f : Int) < ((lapsL l).length : Int) := by rw [lapsL_length]; clear hlap hx hq h hp; omega
  have hi2 : i ≤ 1000 := by clear hlap hx hq h hp; omega
  have hf2 : f ≤ 64 := by clear hlap hx hq h hp; omega
  have e1 : wrap64 (a + x) = 128 * ((f + 1 : Nat) : Int) := by rw [ha]; clear hlap hx hq h hp; unfold wrap64; omega
  exact Ev.step (fun k => back_step (layB l) (lapsL l) a x _ _ _ _ k (wrap_succ (by clear hlap hx hq h hp; omega)) hx e1 (end_mod _ (Int.natCast_nonneg _)) (end_div f hf2) (Int.ofNat_lt.2 hi) (Int.natCast_nonneg _) (Int.ofNat_lt.2 (Nat.lt_of_succ_lt hi)) (Int.natCast_nonneg _) hll (Int.natCast_nonneg _) hlap) h
theorem back_in (l : List Bool) (hl : l.length ≤ 64) (f : Nat) (hf : f < l.length) (i : Nat) (s : Nat) (hs : s < 7) (hx : rd (layB l) (i : Int) = 16) (hi : i + 1 < (layB l).length)
    (h : Ev (fun k => shawmlaw09_BlockBack.l0 k (layB l) (lapsL l) (128 * (f : Int) + 16 * ((s + 1 : Nat) : Int)) ((i + 1 : Nat) : Int)) true) :
    Ev (fun k => shawmlaw09_BlockBack.l0 k (layB l) (lapsL l) (128 * (f : Int) + 16 * (s : Int)) (i : Int)) true := by
  have hN := layB_len l
  have e1 : wrap64 (128 * (f : Int) + 16 * (s : Int) + 16) = 128 * (f : Int) + 16 * ((s + 1 : Nat) : Int) := by unfold wrap64; omega
  have e3 : ¬ Int.tmod (128 * (f : Int) + 16 * ((s + 1 : Nat) : Int)) 128 = 0 := by
    rw [Int.tmod_eq_emod_of_nonneg (by omega)]
    omega
  refine Ev.step (fun k => ?_) h
  simp only [shawmlaw09_BlockBack.l0]
  rw [wrap_succ (by omega), if_pos (by omega), if_pos (by omega), if_pos (by omega), hx, e1, if_neg e3]
theorem back_l0 (l : List Bool) (hl : l.length ≤ 64) (d : Nat) : ∀ f : Nat, f + d = l.length → Ev (fun k => shawmlaw09_BlockBack.l0 k (layB l) (lapsL l) (128 * (f : Int)) (posL l f : Int)) true := by
  have hN := layB_len l
  induction d with
  | zero =>
    intro f hf
    obtain rfl : f = l.length := by omega
    rw [pos_end]
    exact back_stop l _ _ (by omega) (by omega)
  | succ d ih =>
    intro f hf
    have hg := ih (f + 1) (by omega)
    have hp := pos_succ l f (by omega)
    have hlt := pos_lt l d (f + 1) (by omega)
    have hend : d = 0 → posL l (f + 1) = (layB l).length := fun h0 => by
      have : f + 1 = l.length := by omega
      rw [this, pos_end]
    by_cases hb : rdOf false l (f : Int) = true
    · rw [if_pos hb] at hp
      have last : Ev (fun k => shawmlaw09_BlockBack.l0 k (layB l) (lapsL l) (128 * (f : Int) + 16 * ((7 : Nat) : Int)) ((posL l f + 7 : Nat) : Int)) true := by
        by_cases h0 : d = 0
        · exact back_stop l _ _ (by have := hend h0; omega) (by have := hend h0; omega)
        · refine back_go l hl f (posL l f + 7) _ 16 (lay_short l f 7 (by omega) hb (by omega)) (by omega) (by omega) (by omega) (by omega) (by rw [if_pos hb]) ?_
          rw [hp] at hg
          exact hg
      have inner : ∀ (e s : Nat), s + e = 7 → Ev (fun k => shawmlaw09_BlockBack.l0 k (layB l) (lapsL l) (128 * (f : Int) + 16 * (s : Int)) ((posL l f + s : Nat) : Int)) true := by
        intro e
        induction e with
        | zero => intro s hs; obtain rfl : s = 7 := (by omega); exact last
        | succ e ihe =>
          intro s hs
          exact back_in l hl f (by omega) (posL l f + s) s (by omega) (lay_short l f s (by omega) hb (by omega)) (by omega) (ihe (s + 1) (by omega))
      have h := inner 7 0 (by omega)
      rw [Nat.add_zero] at h
      have e : 128 * (f : Int) + 16 * ((0 : Nat) : Int) = 128 * (f : Int) := by omega
      rw [e] at h
      exact h
    · rw [if_neg hb] at hp
      by_cases h0 : d = 0
      · exact back_stop l _ _ (by have := hend h0; omega) (by have := hend h0; omega)
      · refine back_go l hl f (posL l f) _ 128 (lay_long l f (by omega) hb) (by omega) (by omega) (by omega) hp (by rw [if_neg hb]) ?_
        rw [hp] at hg
        exact hg

theorem BlockBack (l : List Bool) : ∃ k, shawmlaw09_BlockBack.f k l = some true := by
  refine Ev.rounds ?_
  unfold shawmlaw09_BlockBack.f
  by_cases h1 : (l.length : Int) > 64
  · exact ev_pos h1 awake_ev
  · have hl : l.length ≤ 64 := by omega
    have hN := layB_len l
    have v1 : block_Kinds.f l = some (kindsL l, 0) := by rw [kinds_val]; unfold kindsV; rw [if_neg (by omega)]
    have v2 : block_Of.f (kindsL l) = some (l, 0) := by rw [of_val, of_kinds l hl]
    have v3 : block_Layout.f l = some (layB l, 0) := by rw [lay_val]; unfold layV; rw [if_neg (by omega)]
    have v4 : block_Laps.f l = some (lapsL l, 0) := by rw [laps_val]; unfold lapsV; rw [if_neg (by omega)]
    refine ev_neg h1 (ev_val v1 (ev_val v2 (ev_val v3 (ev_val v4 (ev_pos rfl (ev_pos rfl (ev_pos rfl (ev_pos rfl ?_))))))))
    refine Ev.bind (bools_same l (by omega)) (ev_pos rfl (Ev.bind (is_ev (layB l) (by omega) (layB_mem l)) (ev_pos rfl (Ev.bind (sum_ev (layB l) (by omega) (layB_mem l)) ?_))))
    have hw : wrap64 (128 * (l.length : Int)) = 128 * (l.length : Int) := wrap_in (by omega) (by omega)
    refine ev_pos (by rw [layB_sum, hw]) ?_
    have hd : (((lapsL l).length : Int) != mx 0 (wrap64 ((l.length : Int) - 1))) = false := by
      have e : wrap64 ((l.length : Int) - 1) = (l.length : Int) - 1 := wrap_in (by omega) (by omega)
      rw [e, lapsL_length]
      unfold mx
      simp only [bne_eq_false_iff_eq]
      split <;> omega
    simp only [hd]
    refine Ev.step (f := fun k => shawmlaw09_BlockBack.l0 k (layB l) (lapsL l) 0 0) (fun k => ?_) ?_
    · simp only [shawmlaw09_BlockBack.j0]
      rw [if_neg (by simp)]
    · have h := back_l0 l hl l.length 0 (by omega)
      exact Ev.congr (fun k => rfl) h

end Go.Proofs.Ytooipbjdpajmmaa.Pure
