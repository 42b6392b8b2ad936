/- Plain lemmas on kinds of frames, as the reference tells them. No conditions beyond each lemma's own. -/
import Derived.Test.YtooipbjdpajmmaaU
import Derived.Test.YtooipbjdpajmmaaHnx15
import Derived.Test.YtooipbjdpajmmaaHnx6
import Derived.Test.YtooipbjdpajmmaaHnx6
import Derived.Test.YtooipbjdpajmmaaHnx14
namespace Go.Proofs.Ytooipbjdpajmmaa.Pure
open Go.RowKit Go.Proofs.Ytooipbjdpajmmaa.Hn Go.Proofs.YtooipbjdpajmmaaW.PrintWords Go.Proofs.YtooipbjdpajmmaaW.PrintLast Go.Proofs.YtooipbjdpajmmaaW.PrintMore

theorem ev_pos {α : Type} {c : Prop} [Decidable c] {f g : Nat → Option α} {r : α} (hc : c) (h : Ev f r) : Ev (fun k => if c then f k else g k) r := Ev.congr (fun _ => if_pos hc) h
theorem ev_neg {α : Type} {c : Prop} [Decidable c] {f g : Nat → Option α} {r : α} (hc : ¬ c) (h : Ev g r) : Ev (fun k => if c then f k else g k) r := Ev.congr (fun _ => if_neg hc) h
theorem awake_ev : Ev (fun k => (shawmlaw09_awake.f).bind fun t => some t) true := ⟨0, fun _ _ => rfl⟩
/-- The kinds of flags. -/
def kindsL (l : List Bool) : List Int := (List.range l.length).map (kindB l)
theorem kindsL_length (l : List Bool) : (kindsL l).length = l.length := by simp [kindsL]
theorem kindsL_rd (l : List Bool) (i : Nat) (h : i < l.length) : rd (kindsL l) (i : Int) = kindB l i := by
  rw [rd_lt _ _ (by rw [kindsL_length]; exact h)]; simp [kindsL]
theorem out_false (l : List Bool) (i : Nat) (h : l.length ≤ i) : l.getD i false = false := by
  rw [List.getD_eq_getElem?_getD, List.getElem?_eq_none h]; rfl
theorem refkinds_l0 (l : List Bool) (hl : l.length ≤ 64) (d : Nat) : ∀ i : Nat, i + d = l.length → Ev (fun k => shawmref09_kinds.l0 k l ((List.range i).map (kindB l)) l (l.length : Int) (i : Int)) (kindsL l) := by
  induction d with
  | zero =>
    intro i hi
    obtain rfl : i = l.length := by omega
    refine Ev.step (f := fun _ => some (kindsL l)) (fun k => ?_) (Ev.now _)
    simp only [shawmref09_kinds.l0]
    rw [if_neg (by omega)]
    rfl
  | succ d ih =>
    intro i hi
    have hlen : ((List.range i).map (kindB l)).length = i := by simp
    have hcap : ((List.range i).map (kindB l)).length < 17592186044416 := by omega
    have e0 : rdOf false l (i : Int) = l.getD i false := rdb_nat l i
    have e1 : wrap64 ((i : Int) + 1) = ((i + 1 : Nat) : Int) := wrap_succ (by omega)
    have e2 : rdOf false l ((i + 1 : Nat) : Int) = l.getD (i + 1) false := rdb_nat l (i + 1)
    have hs : (List.range (i + 1)).map (kindB l) = (List.range i).map (kindB l) ++ [kindB l i] := by rw [List.range_succ, List.map_append]; rfl
    have hlt : (i : Int) < (l.length : Int) := by omega
    have hge : 0 ≤ (i : Int) := by omega
    refine Ev.step (fun k => ?_) (ih (i + 1) (by omega))
    rw [hs]
    simp only [shawmref09_kinds.l0]
    rw [if_pos hlt, if_pos hge, if_pos hlt, e1]
    generalize (List.range i).map (kindB l) = X at hcap
    simp only [e0, e2, if_pos hcap, if_pos (show 0 ≤ ((i + 1 : Nat) : Int) by omega)]
    by_cases h0 : 0 < i
    · have e3 : wrap64 ((i : Int) - 1) = ((i - 1 : Nat) : Int) := by unfold wrap64; omega
      have e4 : rdOf false l ((i - 1 : Nat) : Int) = l.getD (i - 1) false := rdb_nat l (i - 1)
      simp only [e3, e4, if_pos (show (i : Int) > 0 by omega), if_pos (show 0 ≤ ((i - 1 : Nat) : Int) by omega), if_pos (show ((i - 1 : Nat) : Int) < (l.length : Int) by omega)]
      have hk : kindB l i = if l.getD i false = true then 2 else if l.getD (i - 1) false = true then (if l.getD (i + 1) false = true then 4 else 3) else if l.getD (i + 1) false = true then 1 else 0 := by
        unfold kindB; simp [h0]
      rw [hk]
      by_cases h1 : ((i + 1 : Nat) : Int) < (l.length : Int)
      · simp only [if_pos h1]
        split
        · rfl
        · split
          · split <;> rfl
          · split <;> rfl
      · simp only [if_neg h1]
        have e5 := out_false l (i + 1) (by omega)
        rw [e5]
        split
        · rfl
        · split <;> rfl
    · simp only [if_neg (show ¬ (i : Int) > 0 by omega)]
      have hk : kindB l i = if l.getD i false = true then 2 else if l.getD (i + 1) false = true then 1 else 0 := by
        unfold kindB; simp [h0]
      rw [hk]
      by_cases h1 : ((i + 1 : Nat) : Int) < (l.length : Int)
      · simp only [if_pos h1]
        split
        · rfl
        · split <;> rfl
      · simp only [if_neg h1]
        have e5 := out_false l (i + 1) (by omega)
        rw [e5]
        split <;> rfl
theorem refkinds_ev (l : List Bool) (hl : l.length ≤ 64) : Ev (fun k => shawmref09_kinds.f k l) (kindsL l) :=
  Ev.congr (fun k => rfl) (refkinds_l0 l hl l.length 0 (by omega))

end Go.Proofs.Ytooipbjdpajmmaa.Pure
