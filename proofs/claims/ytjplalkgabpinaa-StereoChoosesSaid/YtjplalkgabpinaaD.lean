/- Plain facts on what Couple and Part answer. Conditions: none beyond each lemma's own. -/
import Derived.Test.YtjplalkgabpinaaHnx2
import Derived.Test.YtjplalkgabpinaaHnx11
import Derived.Test.YtjplalkgabpinaaB
namespace Go.Proofs.Ytjplalkgabpinaa.Pure
open Go.RowKit Go.Proofs.Ytjplalkgabpinaa.Hn Go.Proofs.YtjplalkgabpinaaW.PrintWords Go.Proofs.YtjplalkgabpinaaW.PrintLast Go.Proofs.YtjplalkgabpinaaW.PrintMore

theorem cplV_ok {P : Int → Int → Int × Int} {m : Int} {l r ws : List Int} {mid : List Bool} (h : (cplV P m l r ws mid).2.2 = 0) : chkV l r ws m = 0 ∧ mid.length = ws.length ∧ cplV P m l r ws mid = ((cSt P l r ws mid (List.range ws.length)).2.1, (cSt P l r ws mid (List.range ws.length)).2.2, 0) := by
  unfold cplV at h ⊢
  by_cases h1 : chkV l r ws m = 1
  · rw [if_pos h1] at h; simp at h
  · rw [if_neg h1] at h ⊢
    by_cases h2 : mid.length ≠ ws.length
    · rw [if_pos h2] at h; simp at h
    · rw [if_neg h2] at h ⊢
      by_cases h3 : chkV l r ws m ≠ 0
      · rw [if_pos h3] at h; exact absurd h h3
      · rw [if_neg h3]
        exact ⟨Classical.not_not.1 h3, Classical.not_not.1 h2, rfl⟩
theorem cplV_no {P : Int → Int → Int × Int} {m : Int} {l r ws : List Int} {mid : List Bool} (h : (cplV P m l r ws mid).2.2 ≠ 0) : (cplV P m l r ws mid).1 = [] ∧ (cplV P m l r ws mid).2.1 = [] := by
  unfold cplV at h ⊢
  split
  · exact ⟨rfl, rfl⟩
  · rename_i h1
    rw [if_neg h1] at h
    split
    · exact ⟨rfl, rfl⟩
    · rename_i h2
      rw [if_neg h2] at h
      split
      · exact ⟨rfl, rfl⟩
      · rename_i h3
        rw [if_neg h3] at h
        simp at h
theorem cplV_at {P : Int → Int → Int × Int} {m : Int} {l r ws : List Int} {mid : List Bool} (h : chkV l r ws m = 0) (hm : mid.length = ws.length) : cplV P m l r ws mid = ((cSt P l r ws mid (List.range ws.length)).2.1, (cSt P l r ws mid (List.range ws.length)).2.2, 0) := by
  unfold cplV
  rw [if_neg (by omega), if_neg (by simp [hm]), if_neg (by simp [h])]
theorem chkV_mk {l r ws : List Int} {m : Int} (hw : WOk ws) (hl : l.length = 128) (hr : r.length = 128) (h0 : Inm m l) (h1 : Inm m r) : chkV l r ws m = 0 := by
  unfold chkV
  rw [if_pos hw, if_pos hl, if_pos hr, if_pos ⟨h0, h1⟩]
theorem few_val (l r ws : List Int) (mid : List Bool) : shawmlaw13_few.f l r ws mid = some (decide (l.length ≤ 300 ∧ r.length ≤ 300 ∧ ws.length ≤ 200 ∧ mid.length ≤ 200)) := by
  unfold shawmlaw13_few.f
  by_cases h1 : l.length ≤ 300
  · rw [if_pos (by omega)]
    by_cases h2 : r.length ≤ 300
    · rw [if_pos (by omega)]
      by_cases h3 : ws.length ≤ 200
      · rw [if_pos (by omega)]
        congr 1
        rw [Bool.eq_iff_iff, decide_eq_true_eq, decide_eq_true_eq]
        omega
      · rw [if_neg (by omega), decide_eq_false (by omega)]
    · rw [if_neg (by omega), decide_eq_false (by omega)]
  · rw [if_neg (by omega), decide_eq_false (by omega)]
theorem awake_val {f : Bool → Option Bool} : (shawmlaw13_awake.f).bind f = f true := rfl
end Go.Proofs.Ytjplalkgabpinaa.Pure
