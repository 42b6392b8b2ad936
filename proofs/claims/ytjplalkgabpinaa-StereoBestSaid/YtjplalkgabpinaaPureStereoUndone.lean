/- For all channels, widths and choices: what is coupled is parted exactly. Conditions: those of the given statement, no others. -/
import Derived.Test.YtjplalkgabpinaaHnx16
import Derived.Test.YtjplalkgabpinaaB
namespace Go.Proofs.Ytjplalkgabpinaa.Pure
open Go.RowKit Go.Proofs.Ytjplalkgabpinaa.Hn Go.Proofs.YtjplalkgabpinaaW.PrintWords Go.Proofs.YtjplalkgabpinaaW.PrintLast Go.Proofs.YtjplalkgabpinaaW.PrintMore

theorem cplV_ok {P : Int → Int → Int × Int} {m : Int} {l r ws : List Int} {mid : List Bool} (h : (cplV P m l r ws mid).2.2 = 0) : chkV l r ws m = 0 ∧ mid.length = ws.length ∧ cplV P m l r ws mid = ((cSt P l r ws mid (List.range ws.length)).2.1, (cSt P l r ws mid (List.range ws.length)).2.2, 0) := by
  unfold cplV at h ⊢
  by_cases h1 : chkV l r ws m = 1
  · rw [if_pos h1] at h; simp at h
  · rw [if_neg h1] at h ⊢
    by_cases h2 : mid.length ≠ ws.length
    · rw [if_pos h2] at h; simp at h
    · rw [if_neg h2] at h ⊢
      by_cases h3 : chkV l r ws m ≠ 0
      · rw [if_pos h3] at h; exact absurd h h3
      · rw [if_neg h3]
        exact ⟨Classical.not_not.1 h3, Classical.not_not.1 h2, rfl⟩
theorem cplV_no {P : Int → Int → Int × Int} {m : Int} {l r ws : List Int} {mid : List Bool} (h : (cplV P m l r ws mid).2.2 ≠ 0) : (cplV P m l r ws mid).1 = [] ∧ (cplV P m l r ws mid).2.1 = [] := by
  unfold cplV at h ⊢
  split
  · exact ⟨rfl, rfl⟩
  · rename_i h1
    rw [if_neg h1] at h
    split
    · exact ⟨rfl, rfl⟩
    · rename_i h2
      rw [if_neg h2] at h
      split
      · exact ⟨rfl, rfl⟩
      · rename_i h3
        rw [if_neg h3] at h
        simp at h
theorem cplV_at {P : Int → Int → Int × Int} {m : Int} {l r ws : List Int} {mid : List Bool} (h : chkV l r ws m = 0) (hm : mid.length = ws.length) : cplV P m l r ws mid = ((cSt P l r ws mid (List.range ws.length)).2.1, (cSt P l r ws mid (List.range ws.length)).2.2, 0) := by
  unfold cplV
  rw [if_neg (by omega), if_neg (by simp [hm]), if_neg (by simp [h])]
theorem chkV_mk {l r ws : List Int} {m : Int} (hw : WOk ws) (hl : l.length = 128) (hr : r.length = 128) (h0 : Inm m l) (h1 : Inm m r) : chkV l r ws m = 0 := by
  unfold chkV
  rw [if_pos hw, if_pos hl, if_pos hr, if_pos ⟨h0, h1⟩]
theorem few_val (l r ws : List Int) (mid : List Bool) : shawmlaw13_few.f l r ws mid = some (decide (l.length ≤ 300 ∧ r.length ≤ 300 ∧ ws.length ≤ 200 ∧ mid.length ≤ 200)) := by
  unfold shawmlaw13_few.f
  by_cases h1 : l.length ≤ 300
  · rw [if_pos (by omega)]
    by_cases h2 : r.length ≤ 300
    · rw [if_pos (by omega)]
      by_cases h3 : ws.length ≤ 200
      · rw [if_pos (by omega)]
        congr 1
        rw [Bool.eq_iff_iff, decide_eq_true_eq, decide_eq_true_eq]
        omega
      · rw [if_neg (by omega), decide_eq_false (by omega)]
    · rw [if_neg (by omega), decide_eq_false (by omega)]
  · rw [if_neg (by omega), decide_eq_false (by omega)]
theorem awake_val {f : Bool → Option Bool} : (shawmlaw13_awake.f).bind f = f true := rfl
theorem StereoUndone (l r ws : List Int) (mid : List Bool) : ∃ k, shawmlaw13_StereoUndone.f k l r ws mid = some true := by
  refine Ev.rounds (g := fun k => shawmlaw13_StereoUndone.f k l r ws mid) ?_
  unfold shawmlaw13_StereoUndone.f
  refine ev_val (few_val l r ws mid) ?_
  by_cases hf : l.length ≤ 300 ∧ r.length ≤ 300 ∧ ws.length ≤ 200 ∧ mid.length ≤ 200
  · simp only [decide_eq_true hf, if_true]
    have hc : stereo_Couple.f l r ws mid = some (cplV midP 2097152 l r ws mid) := by unfold stereo_Couple.f; rw [if_pos (by omega)]
    refine ev_val hc ?_
    by_cases he : (cplV midP 2097152 l r ws mid).2.2 = 0
    · obtain ⟨h1, h2, h3⟩ := cplV_ok he
      obtain ⟨hw, hl, hr, i0, i1⟩ := chkV_ok h1
      rw [h3]
      simp only [if_true]
      have hlen := cpl_len midP l r ws mid hl hr ws.length
      have hin := mid_inm (mid := mid) hl hr hw i0 i1 ws.length
      have hp : stereo_Part.f (cSt midP l r ws mid (List.range ws.length)).2.1 (cSt midP l r ws mid (List.range ws.length)).2.2 ws mid = some (l, r, 0) := by
        unfold stereo_Part.f
        rw [if_pos (by omega), cplV_at (chkV_mk hw hlen.1 hlen.2 hin.1 hin.2) h2, undone hl hr hw]
      refine ev_val hp ?_
      simp only [if_true]
      refine Ev.bind (ints_same l (by omega)) ?_
      simp only [if_true]
      refine Ev.bind (ints_same r (by omega)) ?_
      simp only [if_true]
      exact Ev.now _
    · obtain ⟨e1, e2⟩ := cplV_no he
      refine Ev.congr (fun k => ?_) (Ev.now true)
      rw [if_neg he, e1, e2, if_pos (by unfold wrap64; simp)]
      rfl
  · refine Ev.congr (fun k => ?_) (Ev.now true)
    rw [decide_eq_false hf]
    rfl
end Go.Proofs.Ytjplalkgabpinaa.Pure
