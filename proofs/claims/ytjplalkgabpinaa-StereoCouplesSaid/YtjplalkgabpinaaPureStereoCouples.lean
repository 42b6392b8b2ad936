/- For all channels, widths and choices: Couple and Part answer as the reference does. Conditions: those of the given statement, no others. -/
import Derived.Test.YtjplalkgabpinaaHnx22
import Derived.Test.YtjplalkgabpinaaHnx20
import Derived.Test.YtjplalkgabpinaaHnx21
import Derived.Test.YtjplalkgabpinaaH
namespace Go.Proofs.Ytjplalkgabpinaa.Pure
open Go.RowKit Go.Proofs.Ytjplalkgabpinaa.Hn Go.Proofs.YtjplalkgabpinaaW.PrintWords Go.Proofs.YtjplalkgabpinaaW.PrintLast Go.Proofs.YtjplalkgabpinaaW.PrintMore

/-- Of each place, whether its band is mid. -/
def eachL (ws : List Int) (mid : List Bool) (m : Nat) : List Bool := (List.range m).map (inM ws mid ws.length)
theorem eachL_length (ws : List Int) (mid : List Bool) (m : Nat) : (eachL ws mid m).length = m := by simp [eachL]
theorem eachL_rd (ws : List Int) (mid : List Bool) (m i : Nat) (h : i < m) : rdOf false (eachL ws mid m) (i : Int) = inM ws mid ws.length i := by
  unfold rdOf eachL
  simp [List.getD_eq_getElem?_getD, h]
theorem eachL_succ (ws : List Int) (mid : List Bool) (m : Nat) : eachL ws mid (m + 1) = eachL ws mid m ++ [inM ws mid ws.length m] := by simp [eachL, List.range_succ]
theorem each_l1 {ws : List Int} {mid : List Bool} (hw : WOk ws) (hm : mid.length = ws.length) (b : Nat) (hb : b < ws.length)
    (next : Ev (fun k => shawmref13_each.l0 k mid (eachL ws mid (offN ws (b + 1))) ws (ws.length : Int) ((b + 1 : Nat) : Int)) (eachL ws mid 128)) (d : Nat) : ∀ j : Nat, offN ws b + j + d = offN ws (b + 1) →
    Ev (fun k => shawmref13_each.l1 k mid (eachL ws mid (offN ws b + j)) (b : Int) ws (ws.length : Int) (b : Int) (rd ws (b : Int)) (j : Int)) (eachL ws mid 128) := by
  have hlen : ws.length ≤ 32 := hw.2.2.2
  have ho := offN_succ hw.1 hb
  have h128 := offN_le hw (b + 1)
  induction d with
  | zero =>
    intro j hj
    refine Ev.step (fun k => ?_) next
    simp only [shawmref13_each.l1]
    rw [if_neg (by omega), wrap_succ (by omega), show offN ws b + j = offN ws (b + 1) by omega]
  | succ d ih =>
    intro j hj
    have e : eachL ws mid (offN ws b + j) ++ [rdOf false mid (b : Int)] = eachL ws mid (offN ws b + (j + 1)) := by
      rw [← Nat.add_assoc, eachL_succ, inM_band hb (by omega) (by omega)]
    refine Ev.step (fun k => ?_) (ih (j + 1) (by omega))
    simp only [shawmref13_each.l1]
    rw [if_pos (by omega), if_pos (by omega), if_pos (by omega), if_pos (by rw [eachL_length]; omega), e, wrap_succ (by omega)]
theorem each_l0 {ws : List Int} {mid : List Bool} (hw : WOk ws) (hm : mid.length = ws.length) (d : Nat) : ∀ b : Nat, b + d = ws.length →
    Ev (fun k => shawmref13_each.l0 k mid (eachL ws mid (offN ws b)) ws (ws.length : Int) (b : Int)) (eachL ws mid 128) := by
  have hlen : ws.length ≤ 32 := hw.2.2.2
  induction d with
  | zero =>
    intro b hb
    have h128 : offN ws b = 128 := by
      obtain rfl : b = ws.length := by omega
      have := offN_sum hw.1; have := hw.2.1; omega
    refine Ev.step (f := fun _ => some (eachL ws mid 128)) (fun k => ?_) (Ev.now _)
    simp only [shawmref13_each.l0]
    rw [if_neg (by omega), h128]
  | succ d ih =>
    intro b hb
    have h1 := each_l1 hw hm b (by omega) (ih (b + 1) (by omega)) (offN ws (b + 1) - offN ws b) 0 (by have := offN_mono ws b; omega)
    refine Ev.step (fun k => ?_) h1
    simp only [shawmref13_each.l0, Nat.add_zero]
    rw [if_pos (by omega), if_pos (by omega), if_pos (by omega)]
    rfl
theorem each_ev {ws : List Int} {mid : List Bool} (hw : WOk ws) (hm : mid.length = ws.length) : Ev (fun k => shawmref13_each.f k ws mid) (eachL ws mid 128) := by
  have h := each_l0 hw hm ws.length 0 (by omega)
  rw [offN_zero] at h
  exact Ev.congr (fun k => rfl) h
theorem refsid_ev (a b : Int) (h0 : -8388608 ≤ a ∧ a ≤ 8388608) (h1 : -8388608 ≤ b ∧ b ≤ 8388608) : Ev (fun k => shawmref06_Sides.f k a b) ((sidP a b).1, (sidP a b).2, 0) := by
  unfold shawmref06_Sides.f
  refine Ev.bind (within2_ev a b 4294967296 (by omega) (by omega) (by omega) (by omega)) ?_
  simp only [if_true]
  refine Ev.congr (fun k => ?_) (Ev.now _)
  rw [down_two b (by omega) (by omega), Option.bind_some]
  unfold sidP
  dsimp only
  rw [show wrap64 (a - b / 2) = a - b / 2 by unfold wrap64; omega, show wrap64 (a - b / 2 + b) = a - b / 2 + b by unfold wrap64; omega]
theorem take_snoc (X : List Int) (i : Nat) (h : i < X.length) : X.take i ++ [rd X (i : Int)] = X.take (i + 1) := by
  rw [List.take_succ_eq_append_getElem h, rd_get X i h]
theorem rcouple_l0 {l r ws : List Int} {mid : List Bool} (hl : l.length = 128) (hr : r.length = 128) (hw : WOk ws) (i0 : Inm 8388608 l) (i1 : Inm 8388608 r) (X Y : List Int) (hX : X = (cSt midP l r ws mid (List.range ws.length)).2.1) (hY : Y = (cSt midP l r ws mid (List.range ws.length)).2.2) (d : Nat) : ∀ i : Nat, i + d = 128 →
    Ev (fun k => shawmref13_Couple.l0 k l r (X.take i) (Y.take i) (eachL ws mid 128) ((eachL ws mid 128).length : Int) (i : Int)) (X, Y, 0) := by
  have hlen := cpl_len midP l r ws mid hl hr ws.length
  rw [← hX, ← hY] at hlen
  have hel := eachL_length ws mid 128
  induction d with
  | zero =>
    intro i hi
    rw [List.take_of_length_le (by omega), List.take_of_length_le (by omega)]
    refine Ev.step (f := fun _ => some (X, Y, 0)) (fun k => ?_) (Ev.now _)
    simp only [shawmref13_Couple.l0]
    rw [if_neg (by omega)]
  | succ d ih =>
    intro i hi
    have hx := rd_of_inm i0 i (by omega)
    have hy := rd_of_inm i1 i (by omega)
    have hrd := cSt_rd midP l r ws mid hl hr hw ws.length i
    rw [← hX, ← hY] at hrd
    have t1 := take_snoc X i (by omega)
    have t2 := take_snoc Y i (by omega)
    have lx : (X.take i).length < 17592186044416 := by rw [List.length_take]; omega
    have ly : (Y.take i).length < 17592186044416 := by rw [List.length_take]; omega
    have he := eachL_rd ws mid 128 i (by omega)
    cases hin : inM ws mid ws.length i with
    | true =>
      rw [hin, if_pos rfl, if_pos rfl] at hrd
      refine Ev.step (f := fun k => (shawmref06_Mid.f k (rd l (i : Int)) (rd r (i : Int))).bind fun bt => shawmref13_Couple.l0 k l r (X.take i ++ [bt.1]) (Y.take i ++ [bt.2.1]) (eachL ws mid 128) ((eachL ws mid 128).length : Int) ((i + 1 : Nat) : Int)) (fun k => ?_) (Ev.bind (refmid_ev _ _ hx hy) ?_)
      · simp only [shawmref13_Couple.l0]
        rw [if_pos (by omega), if_pos (by omega), if_pos (by omega), if_pos (by omega), if_pos (by omega), he, if_pos hin, wrap_succ (by omega)]
        congr 1
        funext bt
        rw [if_pos lx, if_pos ly]
      · refine Ev.congr (fun k => ?_) (ih (i + 1) (by omega))
        dsimp only
        rw [← hrd.1, ← hrd.2, t1, t2]
    | false =>
      rw [hin, if_neg (by simp), if_neg (by simp)] at hrd
      refine Ev.step (fun k => ?_) (ih (i + 1) (by omega))
      simp only [shawmref13_Couple.l0]
      rw [if_pos (by omega), if_pos (by omega), if_pos (by omega), if_pos (by omega), if_pos (by omega), he, if_neg (by simp [hin]), if_pos lx, if_pos ly, wrap_succ (by omega), ← hrd.1, ← hrd.2, t1, t2]
theorem rcouple_ev (l r ws : List Int) (mid : List Bool) (hl : l.length ≤ 1000) (hr : r.length ≤ 1000) (hwl : ws.length ≤ 1000) : Ev (fun k => shawmref13_Couple.f k l r ws mid) (cplV midP 2097152 l r ws mid) := by
  unfold shawmref13_Couple.f cplV
  refine Ev.bind (widths_ev ws (by omega)) ?_
  by_cases c0 : WOk ws
  · have hne : chkV l r ws 2097152 ≠ 1 := by
      unfold chkV
      rw [if_pos c0]
      split
      · split
        · split <;> omega
        · omega
      · omega
    rw [if_neg hne]
    simp only [decide_eq_true c0, if_true]
    by_cases c1 : mid.length = ws.length
    · rw [if_neg (by simp [c1])]
      refine Ev.congr (f := fun k => (shawmref13_channels.f k l r ws 2097152).bind fun t => (if t = 0 then ((shawmref13_each.f k ws mid).bind fun t254 => (shawmref13_Couple.l0 k l r ([] : List Int) ([] : List Int) t254 (t254.length : Int) 0)) else (some (([] : List Int), ([] : List Int), t)))) (fun k => by rw [if_pos (by omega)]) ?_
      refine Ev.bind (channels_ev l r ws 2097152 (by omega) (by omega) hl hr hwl) ?_
      by_cases c2 : chkV l r ws 2097152 = 0
      · obtain ⟨_, hl', hr', i0, i1⟩ := chkV_ok c2
        rw [if_neg (by simp [c2])]
        refine Ev.congr (f := fun k => (shawmref13_each.f k ws mid).bind fun t254 => (shawmref13_Couple.l0 k l r ([] : List Int) ([] : List Int) t254 (t254.length : Int) 0)) (fun k => by rw [if_pos c2]) ?_
        refine Ev.bind (each_ev c0 c1) ?_
        have h := rcouple_l0 hl' hr' c0 (fun x hx => by have := i0 x hx; omega) (fun x hx => by have := i1 x hx; omega) _ _ rfl rfl 128 0 (by omega) (mid := mid)
        rw [List.take_zero, List.take_zero] at h
        exact h
      · rw [if_pos c2]
        refine Ev.congr (fun k => ?_) (Ev.now _)
        rw [if_neg c2]
    · rw [if_pos c1]
      refine Ev.congr (fun k => ?_) (Ev.now _)
      rw [if_neg (by omega)]
  · rw [if_pos (by unfold chkV; rw [if_neg c0])]
    refine Ev.congr (fun k => ?_) (Ev.now _)
    rw [decide_eq_false c0, if_neg (by simp)]
theorem rpart_l0 {l r ws : List Int} {mid : List Bool} (hl : l.length = 128) (hr : r.length = 128) (hw : WOk ws) (i0 : Inm 8388608 l) (i1 : Inm 8388608 r) (X Y : List Int) (hX : X = (cSt sidP l r ws mid (List.range ws.length)).2.1) (hY : Y = (cSt sidP l r ws mid (List.range ws.length)).2.2) (d : Nat) : ∀ i : Nat, i + d = 128 →
    Ev (fun k => shawmref13_Part.l0 k l r (X.take i) (Y.take i) (eachL ws mid 128) ((eachL ws mid 128).length : Int) (i : Int)) (X, Y, 0) := by
  have hlen := cpl_len sidP l r ws mid hl hr ws.length
  rw [← hX, ← hY] at hlen
  have hel := eachL_length ws mid 128
  induction d with
  | zero =>
    intro i hi
    rw [List.take_of_length_le (by omega), List.take_of_length_le (by omega)]
    refine Ev.step (f := fun _ => some (X, Y, 0)) (fun k => ?_) (Ev.now _)
    simp only [shawmref13_Part.l0]
    rw [if_neg (by omega)]
  | succ d ih =>
    intro i hi
    have hx := rd_of_inm i0 i (by omega)
    have hy := rd_of_inm i1 i (by omega)
    have hrd := cSt_rd sidP l r ws mid hl hr hw ws.length i
    rw [← hX, ← hY] at hrd
    have t1 := take_snoc X i (by omega)
    have t2 := take_snoc Y i (by omega)
    have lx : (X.take i).length < 17592186044416 := by rw [List.length_take]; omega
    have ly : (Y.take i).length < 17592186044416 := by rw [List.length_take]; omega
    have he := eachL_rd ws mid 128 i (by omega)
    cases hin : inM ws mid ws.length i with
    | true =>
      rw [hin, if_pos rfl, if_pos rfl] at hrd
      refine Ev.step (f := fun k => (shawmref06_Sides.f k (rd l (i : Int)) (rd r (i : Int))).bind fun bt => shawmref13_Part.l0 k l r (X.take i ++ [bt.1]) (Y.take i ++ [bt.2.1]) (eachL ws mid 128) ((eachL ws mid 128).length : Int) ((i + 1 : Nat) : Int)) (fun k => ?_) (Ev.bind (refsid_ev _ _ hx hy) ?_)
      · simp only [shawmref13_Part.l0]
        rw [if_pos (by omega), if_pos (by omega), if_pos (by omega), if_pos (by omega), if_pos (by omega), he, if_pos hin, wrap_succ (by omega)]
        congr 1
        funext bt
        rw [if_pos lx, if_pos ly]
      · refine Ev.congr (fun k => ?_) (ih (i + 1) (by omega))
        dsimp only
        rw [← hrd.1, ← hrd.2, t1, t2]
    | false =>
      rw [hin, if_neg (by simp), if_neg (by simp)] at hrd
      refine Ev.step (fun k => ?_) (ih (i + 1) (by omega))
      simp only [shawmref13_Part.l0]
      rw [if_pos (by omega), if_pos (by omega), if_pos (by omega), if_pos (by omega), if_pos (by omega), he, if_neg (by simp [hin]), if_pos lx, if_pos ly, wrap_succ (by omega), ← hrd.1, ← hrd.2, t1, t2]
theorem rpart_ev (l r ws : List Int) (mid : List Bool) (hl : l.length ≤ 1000) (hr : r.length ≤ 1000) (hwl : ws.length ≤ 1000) : Ev (fun k => shawmref13_Part.f k l r ws mid) (cplV sidP 8388608 l r ws mid) := by
  unfold shawmref13_Part.f cplV
  refine Ev.bind (widths_ev ws (by omega)) ?_
  by_cases c0 : WOk ws
  · have hne : chkV l r ws 8388608 ≠ 1 := by
      unfold chkV
      rw [if_pos c0]
      split
      · split
        · split <;> omega
        · omega
      · omega
    rw [if_neg hne]
    simp only [decide_eq_true c0, if_true]
    by_cases c1 : mid.length = ws.length
    · rw [if_neg (by simp [c1])]
      refine Ev.congr (f := fun k => (shawmref13_channels.f k l r ws 8388608).bind fun t => (if t = 0 then ((shawmref13_each.f k ws mid).bind fun t254 => (shawmref13_Part.l0 k l r ([] : List Int) ([] : List Int) t254 (t254.length : Int) 0)) else (some (([] : List Int), ([] : List Int), t)))) (fun k => by rw [if_pos (by omega)]) ?_
      refine Ev.bind (channels_ev l r ws 8388608 (by omega) (by omega) hl hr hwl) ?_
      by_cases c2 : chkV l r ws 8388608 = 0
      · obtain ⟨_, hl', hr', i0, i1⟩ := chkV_ok c2
        rw [if_neg (by simp [c2])]
        refine Ev.congr (f := fun k => (shawmref13_each.f k ws mid).bind fun t254 => (shawmref13_Part.l0 k l r ([] : List Int) ([] : List Int) t254 (t254.length : Int) 0)) (fun k => by rw [if_pos c2]) ?_
        refine Ev.bind (each_ev c0 c1) ?_
        have h := rpart_l0 hl' hr' c0 (fun x hx => by have := i0 x hx; omega) (fun x hx => by have := i1 x hx; omega) _ _ rfl rfl 128 0 (by omega) (mid := mid)
        rw [List.take_zero, List.take_zero] at h
        exact h
      · rw [if_pos c2]
        refine Ev.congr (fun k => ?_) (Ev.now _)
        rw [if_neg c2]
    · rw [if_pos c1]
      refine Ev.congr (fun k => ?_) (Ev.now _)
      rw [if_neg (by omega)]
  · rw [if_pos (by unfold chkV; rw [if_neg c0])]
    refine Ev.congr (fun k => ?_) (Ev.now _)
    rw [decide_eq_false c0, if_neg (by simp)]
theorem cplV_short {P : Int → Int → Int × Int} {m : Int} {l r ws : List Int} {mid : List Bool} : (cplV P m l r ws mid).1.length ≤ 1000 ∧ (cplV P m l r ws mid).2.1.length ≤ 1000 := by
  by_cases he : (cplV P m l r ws mid).2.2 = 0
  · obtain ⟨h1, _, h3⟩ := cplV_ok he
    obtain ⟨_, hl, hr, _⟩ := chkV_ok h1
    have := cpl_len P l r ws mid hl hr ws.length
    rw [h3]
    exact ⟨by simp only; omega, by simp only; omega⟩
  · obtain ⟨e1, e2⟩ := cplV_no he
    rw [e1, e2]
    simp
theorem StereoCouples (l r ws : List Int) (mid : List Bool) : ∃ k, shawmlaw13_StereoCouples.f k l r ws mid = some true := by
  refine Ev.rounds (g := fun k => shawmlaw13_StereoCouples.f k l r ws mid) ?_
  unfold shawmlaw13_StereoCouples.f
  refine ev_val (few_val l r ws mid) ?_
  by_cases hf : l.length ≤ 300 ∧ r.length ≤ 300 ∧ ws.length ≤ 200 ∧ mid.length ≤ 200
  · simp only [decide_eq_true hf, if_true]
    have hc : stereo_Couple.f l r ws mid = some (cplV midP 2097152 l r ws mid) := by unfold stereo_Couple.f; rw [if_pos (by omega)]
    have hp : stereo_Part.f l r ws mid = some (cplV sidP 8388608 l r ws mid) := by unfold stereo_Part.f; rw [if_pos (by omega)]
    refine ev_val hc ?_
    refine Ev.bind (rcouple_ev l r ws mid (by omega) (by omega) (by omega)) ?_
    refine ev_val hp ?_
    refine Ev.bind (rpart_ev l r ws mid (by omega) (by omega) (by omega)) ?_
    have s1 := cplV_short (P := midP) (m := 2097152) (l := l) (r := r) (ws := ws) (mid := mid)
    have s2 := cplV_short (P := sidP) (m := 8388608) (l := l) (r := r) (ws := ws) (mid := mid)
    refine Ev.bind (ints_same _ (by omega)) ?_
    simp only [if_true]
    refine Ev.bind (ints_same _ (by omega)) ?_
    simp only [if_true]
    refine Ev.bind (ints_same _ (by omega)) ?_
    simp only [if_true]
    refine Ev.bind (ints_same _ (by omega)) ?_
    simp only [if_true]
    exact Ev.now _
  · refine Ev.congr (fun k => ?_) (Ev.now true)
    rw [decide_eq_false hf]
    rfl
end Go.Proofs.Ytjplalkgabpinaa.Pure
