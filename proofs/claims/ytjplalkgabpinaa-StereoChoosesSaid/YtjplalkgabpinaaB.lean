/- Plain lemmas on the printed functions that chapter 13's laws share: comparing lists, choosing bands, telling gains. No conditions beyond each lemma's own. -/
import Derived.Test.YtjplalkgabpinaaHnx9
import Derived.Test.YtjplalkgabpinaaHnx5
import Derived.Test.YtjplalkgabpinaaHnx5
import Derived.Test.YtjplalkgabpinaaC
namespace Go.Proofs.Ytjplalkgabpinaa.Pure
open Go.RowKit Go.Proofs.Ytjplalkgabpinaa.Hn Go.Proofs.YtjplalkgabpinaaW.PrintWords Go.Proofs.YtjplalkgabpinaaW.PrintLast Go.Proofs.YtjplalkgabpinaaW.PrintMore

theorem wrap_succ {n : Nat} (h : n < 9223372036854775807) : wrap64 ((n : Int) + 1) = ((n + 1 : Nat) : Int) := by unfold wrap64; omega
theorem ev_val {α β : Type} {f : Nat → α → Option β} {a : α} {r : β} {x : Option α} (h : x = some a) (k : Ev (fun n => f n a) r) : Ev (fun n => x.bind (f n)) r := by
  subst h; exact k
/-- Two lists that are the same are the same. -/
theorem ints_l0 (l : List Int) (hl : l.length ≤ 4611686018427387904) (d : Nat) : ∀ i : Nat, i + d = l.length → Ev (fun k => shawmref02_Ints.l0 k l l (l.length : Int) (i : Int)) true := by
  induction d with
  | zero =>
    intro i hi
    refine Ev.step (f := fun _ => some true) (fun k => ?_) (Ev.now _)
    simp only [shawmref02_Ints.l0]
    rw [if_neg (by omega)]
  | succ d ih =>
    intro i hi
    refine Ev.step (fun k => ?_) (ih (i + 1) (by omega))
    simp only [shawmref02_Ints.l0]
    rw [if_pos (by omega), if_pos (by omega), if_pos (by omega), if_pos (by omega), if_pos trivial, wrap_succ (by omega)]
theorem ints_same (l : List Int) (hl : l.length ≤ 4611686018427387904) : Ev (fun k => shawmref02_Ints.f k l l) true := by
  refine Ev.congr (fun k => ?_) (ints_l0 l hl l.length 0 (by omega))
  unfold shawmref02_Ints.f
  rw [if_pos rfl]
  rfl
/-- What Gains answers. -/
def gainsV (l r ws : List Int) : List Int × Int := if chkV l r ws 2097152 = 0 then (gainL l r ws (List.range ws.length), 0) else ([], chkV l r ws 2097152)
theorem gains_some {l r ws : List Int} (h : chkV l r ws 2097152 = 0) : stereo_gains.f l r ws = some (gainL l r ws (List.range ws.length)) := by
  obtain ⟨h0, h1, h2, h3, h4⟩ := chkV_ok h
  unfold stereo_gains.f
  rw [if_pos ⟨h0, h1, h2, h3, h4⟩]
theorem gains_ev (l r ws : List Int) (hw : ws.length ≤ 1000) : Ev (fun k => stereo_Gains.f k l r ws) (gainsV l r ws) := by
  unfold stereo_Gains.f
  refine Ev.bind (chk_ev l r ws 2097152 (by omega) (by omega) hw) ?_
  unfold gainsV
  by_cases h : chkV l r ws 2097152 = 0
  · rw [if_pos h]
    refine Ev.congr (fun k => ?_) (Ev.now _)
    rw [if_pos h, gains_some h]
    rfl
  · rw [if_neg h]
    refine Ev.congr (fun k => ?_) (Ev.now _)
    rw [if_neg h]
/-- What Choose answers. -/
def chooseV (l r ws : List Int) : List Bool × Int := if chkV l r ws 2097152 = 0 then ((gainL l r ws (List.range ws.length)).map (fun g => decide (g > 0)), 0) else ([], chkV l r ws 2097152)
theorem choose_l0 (g : List Int) (hg : g.length ≤ 1000) (d : Nat) : ∀ (i : Nat) (out : List Bool), i + d = g.length → out.length = i → Ev (fun k => stereo_Choose.l0 k out g (g.length : Int) (i : Int)) (out ++ (g.drop i).map (fun g => decide (g > 0)), 0) := by
  induction d with
  | zero =>
    intro i out hi ho
    rw [List.drop_of_length_le (by omega), List.map_nil, List.append_nil]
    refine Ev.step (f := fun _ => some (out, 0)) (fun k => ?_) (Ev.now _)
    simp only [stereo_Choose.l0]
    rw [if_neg (by omega)]
  | succ d ih =>
    intro i out hi ho
    have hx := rd_get g i (by omega)
    have e : out ++ (g.drop i).map (fun g => decide (g > 0)) = (out ++ [decide (rd g (i : Int) > 0)]) ++ (g.drop (i + 1)).map (fun g => decide (g > 0)) := by
      rw [List.drop_eq_getElem_cons (show i < g.length by omega), hx, List.map_cons, List.append_assoc]
      rfl
    rw [e]
    refine Ev.step (fun k => ?_) (ih (i + 1) _ (by omega) (by simp [ho]))
    simp only [stereo_Choose.l0]
    rw [if_pos (by omega), if_pos (by omega), if_pos (by omega), if_pos (by omega), wrap_succ (by omega)]
theorem choose_ev (l r ws : List Int) (hw : ws.length ≤ 1000) : Ev (fun k => stereo_Choose.f k l r ws) (chooseV l r ws) := by
  unfold stereo_Choose.f
  refine Ev.bind (chk_ev l r ws 2097152 (by omega) (by omega) hw) ?_
  unfold chooseV
  by_cases h : chkV l r ws 2097152 = 0
  · rw [if_pos h]
    have hk := choose_l0 (gainL l r ws (List.range ws.length)) (by rw [gainL_length, List.length_range]; exact hw) _ 0 [] (by rw [Nat.zero_add]) rfl
    rw [List.drop_zero, List.nil_append] at hk
    refine Ev.congr (fun k => ?_) hk
    rw [if_pos h, gains_some h]
    rfl
  · rw [if_neg h]
    refine Ev.congr (fun k => ?_) (Ev.now _)
    rw [if_neg h]
end Go.Proofs.Ytjplalkgabpinaa.Pure
