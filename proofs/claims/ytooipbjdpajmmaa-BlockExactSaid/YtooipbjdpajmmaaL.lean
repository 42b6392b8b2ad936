/- Plain lemmas on layouts, laps and united flags, as the reference tells them. No conditions beyond each lemma's own. -/
import Derived.Test.YtooipbjdpajmmaaK
import Derived.Test.YtooipbjdpajmmaaHnx23
import Derived.Test.YtooipbjdpajmmaaHnx22
import Derived.Test.YtooipbjdpajmmaaHnx21
import Derived.Test.YtooipbjdpajmmaaHnx22
import Derived.Test.YtooipbjdpajmmaaHnx20
import Derived.Test.YtooipbjdpajmmaaHnx20
namespace Go.Proofs.Ytooipbjdpajmmaa.Pure
open Go.RowKit Go.Proofs.Ytooipbjdpajmmaa.Hn Go.Proofs.YtooipbjdpajmmaaW.PrintWords Go.Proofs.YtooipbjdpajmmaaW.PrintLast Go.Proofs.YtooipbjdpajmmaaW.PrintMore

theorem reflap_tells (l : List Bool) (i : Nat) (hl : l.length ≤ 140737488351232) : shawmref09_lap.f 1 l (i : Int) = some (lapB l i) := lap_tells l i hl
theorem reflap_ev (l : List Bool) (i : Nat) (hl : l.length ≤ 140737488351232) : Ev (fun k => shawmref09_lap.f k l (i : Int)) (lapB l i) :=
  Ev.of (fun k => shawmref09_lap.mono l (i : Int) k) (reflap_tells l i hl)
def lapsL (l : List Bool) : List Int := (List.range (l.length - 1)).map (fun i => lapB l (i + 1))
theorem lapsL_length (l : List Bool) : (lapsL l).length = l.length - 1 := by simp [lapsL]
theorem reflaps_l0 (l : List Bool) (hl : l.length ≤ 64) (d : Nat) : ∀ j : Nat, j + d = l.length - 1 →
    Ev (fun k => shawmref09_Laps.l0 k l ((List.range j).map (fun i => lapB l (i + 1))) ((j + 1 : Nat) : Int)) (lapsL l, 0) := by
  induction d with
  | zero =>
    intro j hj
    obtain rfl : j = l.length - 1 := by omega
    refine Ev.step (f := fun _ => some (lapsL l, 0)) (fun k => ?_) (Ev.now _)
    simp only [shawmref09_Laps.l0]
    rw [if_neg (by omega)]
    rfl
  | succ d ih =>
    intro j hj
    have hlen : ((List.range j).map (fun i => lapB l (i + 1))).length = j := by simp
    have hs : (List.range (j + 1)).map (fun i => lapB l (i + 1)) = (List.range j).map (fun i => lapB l (i + 1)) ++ [lapB l (j + 1)] := by rw [List.range_succ, List.map_append]; rfl
    have e : wrap64 (((j + 1 : Nat) : Int) + 1) = ((j + 1 + 1 : Nat) : Int) := wrap_succ (by omega)
    have h := ih (j + 1) (by omega)
    rw [hs] at h
    generalize (List.range j).map (fun i => lapB l (i + 1)) = X at *
    refine Ev.step (f := fun k => (shawmref09_lap.f k l ((j + 1 : Nat) : Int)).bind fun t => shawmref09_Laps.l0 k l (X ++ [t]) ((j + 1 + 1 : Nat) : Int)) (fun k => ?_) (Ev.bind (reflap_ev l (j + 1) (by omega)) h)
    simp only [shawmref09_Laps.l0]
    rw [if_pos (by omega), e]
    simp only [if_pos (show X.length < 17592186044416 by omega)]
def lapsV (l : List Bool) : List Int × Int := if 64 < l.length then ([], 2) else (lapsL l, 0)
theorem laps_val (l : List Bool) : block_Laps.f l = some (lapsV l) := by
  unfold block_Laps.f lapsV
  split <;> rfl
theorem refLaps_ev (l : List Bool) : Ev (fun k => shawmref09_Laps.f k l) (lapsV l) := by
  unfold shawmref09_Laps.f lapsV
  by_cases hl : 64 < l.length
  · rw [if_pos hl]
    exact ev_pos (by omega) (Ev.now _)
  · rw [if_neg hl]
    exact ev_neg (by omega) (Ev.congr (fun k => rfl) (reflaps_l0 l (by omega) (l.length - 1) 0 (by omega)))
theorem lapsV_length (l : List Bool) : (lapsV l).1.length ≤ 64 := by
  unfold lapsV
  split
  · simp
  · simp only [lapsL_length]; omega

theorem layB_len (l : List Bool) : (layB l).length ≤ 8 * l.length := by
  unfold layB
  induction l with
  | nil => simp
  | cons b l ih =>
    rw [List.flatMap_cons, List.length_append, List.length_cons]
    have : (if b = true then List.replicate 8 (16 : Int) else [128]).length ≤ 8 := by split <;> simp
    omega
theorem reflay_l1 (l : List Bool) (r : List Int × Int) (X : List Int) (n : Int) (i : Nat) (hi : i < 64) (hX : X.length ≤ 1000) (h : Ev (fun k => shawmref09_Layout.l0 k (X ++ List.replicate 8 16) l n ((i + 1 : Nat) : Int)) r) (d : Nat) : ∀ j : Nat, j + d = 8 →
    Ev (fun k => shawmref09_Layout.l1 k (X ++ List.replicate j 16) l n (i : Int) (j : Int)) r := by
  induction d with
  | zero =>
    intro j hj
    obtain rfl : j = 8 := by omega
    refine Ev.step (fun k => ?_) h
    simp only [shawmref09_Layout.l1]
    rw [if_neg (by omega), wrap_succ (by omega)]
  | succ d ih =>
    intro j hj
    have h1 := ih (j + 1) (by omega)
    have e : X ++ List.replicate (j + 1) (16 : Int) = (X ++ List.replicate j 16) ++ [16] := by rw [List.replicate_succ', List.append_assoc]
    rw [e] at h1
    have hlen : (X ++ List.replicate j (16 : Int)).length < 17592186044416 := by rw [List.length_append, List.length_replicate]; omega
    refine Ev.step (fun k => ?_) h1
    simp only [shawmref09_Layout.l1]
    rw [if_pos (by omega), if_pos hlen, wrap_succ (by omega)]
theorem reflay_l0 (l : List Bool) (hl : l.length ≤ 64) (d : Nat) : ∀ i : Nat, i + d = l.length →
    Ev (fun k => shawmref09_Layout.l0 k (layB (l.take i)) l (l.length : Int) (i : Int)) (layB l, 0) := by
  induction d with
  | zero =>
    intro i hi
    obtain rfl : i = l.length := by omega
    rw [List.take_length]
    refine Ev.step (f := fun _ => some (layB l, 0)) (fun k => ?_) (Ev.now _)
    simp only [shawmref09_Layout.l0]
    rw [if_neg (by omega)]
  | succ d ih =>
    intro i hi
    have h := ih (i + 1) (by omega)
    rw [layB_take l i (by omega)] at h
    have hX : (layB (l.take i)).length ≤ 512 := by
      have := layB_len (l.take i)
      rw [List.length_take] at this
      omega
    by_cases hb : rdOf false l (i : Int) = true
    · rw [if_pos hb] at h
      refine Ev.step (fun k => ?_) (reflay_l1 l _ (layB (l.take i)) (l.length : Int) i (by omega) (by omega) h 8 0 (by omega))
      simp only [shawmref09_Layout.l0]
      rw [if_pos (by omega), if_pos (by omega), if_pos (by omega), if_pos hb]
      simp
    · rw [if_neg hb] at h
      refine Ev.step (fun k => ?_) h
      simp only [shawmref09_Layout.l0]
      rw [if_pos (by omega), if_pos (by omega), if_pos (by omega), if_neg hb, if_pos (by omega), wrap_succ (by omega)]
def layV (l : List Bool) : List Int × Int := if 64 < l.length then ([], 2) else (layB l, 0)
theorem lay_val (l : List Bool) : block_Layout.f l = some (layV l) := by
  unfold block_Layout.f layV
  split <;> rfl
theorem refLayout_ev (l : List Bool) : Ev (fun k => shawmref09_Layout.f k l) (layV l) := by
  unfold shawmref09_Layout.f layV
  by_cases hl : 64 < l.length
  · rw [if_pos hl]
    exact ev_pos (by omega) (Ev.now _)
  · rw [if_neg hl]
    exact ev_neg (by omega) (Ev.congr (fun k => rfl) (reflay_l0 l (by omega) l.length 0 (by omega)))
theorem layV_length (l : List Bool) : (layV l).1.length ≤ 512 := by
  unfold layV
  split
  · simp
  · have := layB_len l; simp only; omega

def eitherL (l m : List Bool) : List Bool := (List.range l.length).map (eitherB l m)
theorem refeither_l0 (l m : List Bool) (hl : l.length ≤ 64) (he : l.length = m.length) (d : Nat) : ∀ i : Nat, i + d = l.length →
    Ev (fun k => shawmref09_Either.l0 k l m ((List.range i).map (eitherB l m)) (l.length : Int) (i : Int)) (eitherL l m, 0) := by
  induction d with
  | zero =>
    intro i hi
    obtain rfl : i = l.length := by omega
    refine Ev.step (f := fun _ => some (eitherL l m, 0)) (fun k => ?_) (Ev.now _)
    simp only [shawmref09_Either.l0]
    rw [if_neg (by omega)]
    rfl
  | succ d ih =>
    intro i hi
    have h := ih (i + 1) (by omega)
    have hlen : ((List.range i).map (eitherB l m)).length = i := by simp
    rw [List.range_succ, List.map_append] at h
    generalize (List.range i).map (eitherB l m) = X at *
    have e : [i].map (eitherB l m) = [rdOf false l (i : Int) || rdOf false m (i : Int)] := rfl
    rw [e] at h
    refine Ev.step (fun k => ?_) h
    simp only [shawmref09_Either.l0]
    have hc : X.length < 140737488355328 := by omega
    rw [if_pos (by omega), if_pos (by omega), if_pos (by omega), if_pos (show (i : Int) < (m.length : Int) by omega), wrap_succ (by omega)]
    cases rdOf false l (i : Int) <;> simp [hc]
def eitherV (l m : List Bool) : List Bool × Int := if 64 < l.length ∨ 64 < m.length then ([], 2) else if l.length = m.length then (eitherL l m, 0) else ([], 4)
theorem either_val (l m : List Bool) : block_Either.f l m = some (eitherV l m) := by
  unfold block_Either.f eitherV
  split
  · rfl
  · split <;> rfl
theorem eitherV_length (l m : List Bool) : (eitherV l m).1.length ≤ 64 := by
  unfold eitherV
  split
  · simp
  · split
    · simp only [eitherL, List.length_map, List.length_range]; omega
    · simp
theorem refEither_ev (l m : List Bool) : Ev (fun k => shawmref09_Either.f k l m) (eitherV l m) := by
  unfold shawmref09_Either.f eitherV
  by_cases h1 : 64 < l.length
  · rw [if_pos (Or.inl h1)]
    refine ev_pos (by omega) (Ev.step (f := fun _ => some ([], 2)) (fun k => ?_) (Ev.now _))
    simp only [shawmref09_Either.j0]
    rfl
  · refine ev_neg (by omega) ?_
    by_cases h2 : 64 < m.length
    · rw [if_pos (Or.inr h2), decide_eq_true (show (m.length : Int) > 64 by omega)]
      refine Ev.step (f := fun _ => some ([], 2)) (fun k => ?_) (Ev.now _)
      simp only [shawmref09_Either.j0]
      rfl
    · rw [if_neg (by omega), decide_eq_false (show ¬ (m.length : Int) > 64 by omega)]
      by_cases h3 : l.length = m.length
      · rw [if_pos h3]
        refine Ev.step (fun k => ?_) (refeither_l0 l m (by omega) h3 l.length 0 (by omega))
        simp only [shawmref09_Either.j0]
        rw [if_neg (by simp), if_pos (by omega)]
        rfl
      · rw [if_neg h3]
        refine Ev.step (f := fun _ => some ([], 4)) (fun k => ?_) (Ev.now _)
        simp only [shawmref09_Either.j0]
        rw [if_neg (by simp), if_neg (by omega)]

def kindsV (l : List Bool) : List Int × Int := if 64 < l.length then ([], 2) else (kindsL l, 0)
theorem kinds_val (l : List Bool) : block_Kinds.f l = some (kindsV l) := by
  unfold block_Kinds.f kindsV
  split <;> rfl
theorem kindsV_length (l : List Bool) : (kindsV l).1.length ≤ 64 := by
  unfold kindsV
  split
  · simp
  · simp only [kindsL_length]; omega
theorem refKinds_ev (l : List Bool) : Ev (fun k => shawmref09_Kinds.f k l) (kindsV l) := by
  unfold shawmref09_Kinds.f kindsV
  by_cases hl : 64 < l.length
  · rw [if_pos hl]
    exact ev_pos (by omega) (Ev.now _)
  · rw [if_neg hl]
    exact ev_neg (by omega) (Ev.bind (refkinds_ev l (by omega)) (Ev.now _))

end Go.Proofs.Ytooipbjdpajmmaa.Pure
