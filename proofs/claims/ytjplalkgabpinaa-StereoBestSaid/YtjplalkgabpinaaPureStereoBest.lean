/- For all channels and widths: bands are chosen just where coupling saves, and the cost goes down by just what is saved. Conditions: those of the given statement, no others. -/
import Derived.Test.YtjplalkgabpinaaHnx14
import Derived.Test.YtjplalkgabpinaaLOG
namespace Go.Proofs.Ytjplalkgabpinaa.Pure
open Go.RowKit Go.Proofs.Ytjplalkgabpinaa.Hn Go.Proofs.YtjplalkgabpinaaW.PrintWords Go.Proofs.YtjplalkgabpinaaW.PrintLast Go.Proofs.YtjplalkgabpinaaW.PrintMore

/-- The sum of f at the first n places. -/
def sumTo (f : Nat → Int) : Nat → Int
  | 0 => 0
  | n + 1 => sumTo f n + f n
theorem cost_sumTo (l : List Int) (n : Nat) (hn : n ≤ l.length) : costL (l.take n) = sumTo (fun i => costV (rd l (i : Int))) n := by
  induction n with
  | zero => rfl
  | succ n ih =>
    rw [List.take_succ_eq_append_getElem (by omega)]
    unfold costL at ih ⊢
    rw [List.map_append, List.sum_append, ih (by omega)]
    simp [sumTo, rd_get l n (by omega)]
theorem cost_is (l : List Int) (hl : l.length = 128) : costL l = sumTo (fun i => costV (rd l (i : Int))) 128 := by
  rw [← cost_sumTo l 128 (by omega), List.take_of_length_le (by omega)]
theorem sumTo_four (f g h k : Nat → Int) (n : Nat) : sumTo f n + sumTo g n - sumTo h n - sumTo k n = sumTo (fun i => f i + g i - h i - k i) n := by
  induction n with
  | zero => rfl
  | succ n ih => simp only [sumTo]; omega
theorem sumTo_congr {f g : Nat → Int} (n : Nat) (h : ∀ i, i < n → f i = g i) : sumTo f n = sumTo g n := by
  induction n with
  | zero => rfl
  | succ n ih => simp only [sumTo]; rw [ih (fun i hi => h i (by omega)), h n (by omega)]
theorem inM_band {ws : List Int} {mid : List Bool} {n b i : Nat} (hb : b < n) (h1 : offN ws b ≤ i) (h2 : i < offN ws (b + 1)) : inM ws mid n i = rdOf false mid (b : Int) := by
  induction n with
  | zero => omega
  | succ n ih =>
    simp only [inM]
    by_cases e : b = n
    · subst e
      have hno : inM ws mid b i = false := by
        cases h : inM ws mid b i with
        | false => rfl
        | true => have := inM_lt h; omega
      rw [hno]
      simp [h1, h2]
    · have hm := offN_mono' ws (a := b + 1) (b := n) (by omega)
      rw [ih (by omega)]
      have : ¬ offN ws n ≤ i := by omega
      simp [this]
/-- What coupling saves at a place. -/
def saved (l r ws : List Int) (mid : List Bool) (n i : Nat) : Int := costV (rd l (i : Int)) + costV (rd r (i : Int)) - costV (rd (cSt midP l r ws mid (List.range n)).2.1 (i : Int)) - costV (rd (cSt midP l r ws mid (List.range n)).2.2 (i : Int))
theorem saved_is {l r ws : List Int} {mid : List Bool} (hl : l.length = 128) (hr : r.length = 128) (hw : WOk ws) (n i : Nat) : saved l r ws mid n i = if inM ws mid n i = true then pairG (rd l (i : Int)) (rd r (i : Int)) else 0 := by
  unfold saved
  rw [(cSt_rd midP l r ws mid hl hr hw n i).1, (cSt_rd midP l r ws mid hl hr hw n i).2]
  by_cases h : inM ws mid n i = true
  · simp only [h, if_true]
    unfold midP pairG
    dsimp only
    omega
  · rw [if_neg h, if_neg h, if_neg h]
    omega
theorem band_saved {l r ws : List Int} {mid : List Bool} (hl : l.length = 128) (hr : r.length = 128) (hw : WOk ws) (n b : Nat) (hb : b < n) (m : Nat) (hm : offN ws b + m ≤ offN ws (b + 1)) :
    sumTo (saved l r ws mid n) (offN ws b + m) = sumTo (saved l r ws mid n) (offN ws b) + if rdOf false mid (b : Int) = true then bandSum l r (offN ws b) m else 0 := by
  induction m with
  | zero => simp [bandSum]
  | succ m ih =>
    have h1 := ih (by omega)
    rw [← Nat.add_assoc]
    simp only [sumTo]
    rw [h1, saved_is hl hr hw, inM_band hb (by omega) (by omega)]
    by_cases hc : rdOf false mid (b : Int) = true
    · rw [if_pos hc, if_pos hc, if_pos hc]
      simp only [bandSum]
      omega
    · rw [if_neg hc, if_neg hc, if_neg hc]
      omega
/-- What the bands save together. -/
def savedTo (l r ws : List Int) (b : Nat) : Int := sumTo (fun k => mx 0 (bandG l r ws k)) b
/-- Which bands are mid. -/
def chosen (l r ws : List Int) : List Bool := (gainL l r ws (List.range ws.length)).map (fun g => decide (g > 0))
theorem chosen_length (l r ws : List Int) : (chosen l r ws).length = ws.length := by simp [chosen, gainL_length]
theorem chosen_rd (l r ws : List Int) (b : Nat) (hb : b < ws.length) : rdOf false (chosen l r ws) (b : Int) = decide (bandG l r ws b > 0) := by
  unfold rdOf chosen gainL
  simp [List.getD_eq_getElem?_getD, hb]
theorem rd_gain (l r ws : List Int) (b : Nat) (hb : b < ws.length) : rd (gainL l r ws (List.range ws.length)) (b : Int) = bandG l r ws b := by
  rw [rd_get _ b (by rw [gainL_length, List.length_range]; exact hb)]
  simp [gainL]
theorem all_saved {l r ws : List Int} (hl : l.length = 128) (hr : r.length = 128) (hw : WOk ws) (b : Nat) (hb : b ≤ ws.length) : sumTo (saved l r ws (chosen l r ws) ws.length) (offN ws b) = savedTo l r ws b := by
  induction b with
  | zero => rw [offN_zero]; rfl
  | succ b ih =>
    have hm := offN_mono ws b
    have h1 := band_saved (mid := chosen l r ws) hl hr hw ws.length b (by omega) (offN ws (b + 1) - offN ws b) (by omega)
    rw [show offN ws b + (offN ws (b + 1) - offN ws b) = offN ws (b + 1) by omega, ih (by omega), chosen_rd l r ws b (by omega)] at h1
    rw [h1]
    unfold savedTo
    simp only [sumTo]
    have e : bandSum l r (offN ws b) (offN ws (b + 1) - offN ws b) = bandG l r ws b := rfl
    rw [e, mx_eq]
    by_cases hc : bandG l r ws b > 0
    · rw [if_pos (decide_eq_true hc)]; omega
    · rw [if_neg (by simpa using hc)]; omega
theorem gain_bound {l r ws : List Int} (hl : Coefs 2097152 l) (hr : Coefs 2097152 r) (hw : WOk ws) (b : Nat) : -2097152 ≤ bandG l r ws b ∧ bandG l r ws b ≤ 2097152 := by
  have h := bandSum_bound hl hr (offN ws b) (offN ws (b + 1) - offN ws b)
  have := offN_le hw (b + 1)
  unfold bandG
  omega
theorem savedTo_bound {l r ws : List Int} (hl : Coefs 2097152 l) (hr : Coefs 2097152 r) (hw : WOk ws) (b : Nat) : 0 ≤ savedTo l r ws b ∧ savedTo l r ws b ≤ 2097152 * (b : Int) := by
  induction b with
  | zero => simp [savedTo, sumTo]
  | succ b ih =>
    have h := gain_bound hl hr hw b
    unfold savedTo at ih ⊢
    simp only [sumTo]
    rw [mx_eq]
    omega
theorem best_l0 {l r ws : List Int} (hl : l.length = 128) (hr : r.length = 128) (hw : WOk ws) (i0 : Inm 2097152 l) (i1 : Inm 2097152 r) (X Y : List Int) (hX : X = (cSt midP l r ws (chosen l r ws) (List.range ws.length)).2.1) (hY : Y = (cSt midP l r ws (chosen l r ws) (List.range ws.length)).2.2) (d : Nat) : ∀ b : Nat, b + d = ws.length →
    Ev (fun k => shawmlaw13_StereoBest.l0 k (chosen l r ws) X Y (savedTo l r ws b) (gainL l r ws (List.range ws.length)) ((gainL l r ws (List.range ws.length)).length : Int) (b : Int) l r) true := by
  have hlen : ws.length ≤ 32 := hw.2.2.2
  have hc0 : Coefs 2097152 l := coefs_of (by omega) i0
  have hc1 : Coefs 2097152 r := coefs_of (by omega) i1
  have hgl : (gainL l r ws (List.range ws.length)).length = ws.length := by rw [gainL_length, List.length_range]
  have hcl := chosen_length l r ws
  induction d with
  | zero =>
    intro b hb
    obtain rfl : b = ws.length := by omega
    have hin := mid_inm (mid := chosen l r ws) hl hr hw i0 i1 ws.length
    have hxl := cpl_len midP l r ws (chosen l r ws) hl hr ws.length
    rw [← hX, ← hY] at hin hxl
    have k0 := lawcost_ev l (by omega) (fun x hx => by have := i0 x hx; omega)
    have k1 := lawcost_ev r (by omega) (fun x hx => by have := i1 x hx; omega)
    have k2 := lawcost_ev X (by omega) hin.1
    have k3 := lawcost_ev Y (by omega) hin.2
    have hcb : ∀ m : List Int, m.length = 128 → Inm 8388608 m → 0 ≤ costL m ∧ costL m ≤ 1048576 := fun m hm hi => by
      have key : ∀ m : List Int, Inm 8388608 m → 0 ≤ costL m ∧ costL m ≤ 8192 * (m.length : Int) := by
        intro m
        induction m with
        | nil => intro _; simp [costL]
        | cons x m ih =>
          intro hi
          have h1 := hi x (by simp)
          have h2 := ih (fun y hy => hi y (by simp [hy]))
          have h3 := costV_bound h1.1 h1.2
          unfold costL at h2 ⊢
          rw [List.map_cons, List.sum_cons, List.length_cons]
          omega
      have := key m hi
      omega
    have q0 := hcb l hl (fun x hx => by have := i0 x hx; omega)
    have q1 := hcb r hr (fun x hx => by have := i1 x hx; omega)
    have q2 := hcb X hxl.1 hin.1
    have q3 := hcb Y hxl.2 hin.2
    have hsum : costL l + costL r - costL X - costL Y = savedTo l r ws ws.length := by
      rw [← all_saved hl hr hw ws.length (Nat.le_refl _)]
      have h128 : offN ws ws.length = 128 := by have := offN_sum hw.1; have := hw.2.1; omega
      rw [h128, cost_is l hl, cost_is r hr, cost_is X hxl.1, cost_is Y hxl.2, sumTo_four]
      refine sumTo_congr 128 fun i _ => ?_
      unfold saved
      rw [← hX, ← hY]
    refine Ev.step (f := fun k => (shawmlaw13_cost.f k l).bind fun t156 => ((shawmlaw13_cost.f k r).bind fun t157 => ((shawmlaw13_cost.f k X).bind fun t158 => ((shawmlaw13_cost.f k Y).bind fun t159 => (if (wrap64 ((wrap64 ((wrap64 (t156 + t157)) - t158)) - t159)) = savedTo l r ws ws.length then ((shawmlaw13_awake.f).bind fun t160 => (some t160)) else (none)))))) (fun k => ?_) (Ev.bind k0 (Ev.bind k1 (Ev.bind k2 (Ev.bind k3 ?_))))
    · simp only [shawmlaw13_StereoBest.l0]
      rw [if_neg (by omega)]
    · refine Ev.congr (fun k => ?_) (Ev.now true)
      rw [if_pos (by rw [← hsum]; unfold wrap64; omega)]
      rfl
  | succ d ih =>
    intro b hb
    have hg := rd_gain l r ws b (by omega)
    have hch := chosen_rd l r ws b (by omega)
    have hsb := savedTo_bound hc0 hc1 hw b
    have hgb := gain_bound hc0 hc1 hw b
    have e : wrap64 (savedTo l r ws b + mx 0 (bandG l r ws b)) = savedTo l r ws (b + 1) := by
      have e1 : savedTo l r ws (b + 1) = savedTo l r ws b + mx 0 (bandG l r ws b) := rfl
      rw [e1, mx_eq]
      unfold wrap64
      omega
    refine Ev.step (fun k => ?_) (ih (b + 1) (by omega))
    simp only [shawmlaw13_StereoBest.l0]
    rw [if_pos (by omega), if_pos (by omega), if_pos (by omega), if_pos (by omega), hg, hch, if_neg (by simp), e, wrap_succ (by omega)]
theorem StereoBest (l r ws : List Int) : ∃ k, shawmlaw13_StereoBest.f k l r ws = some true := by
  refine Ev.rounds (g := fun k => shawmlaw13_StereoBest.f k l r ws) ?_
  unfold shawmlaw13_StereoBest.f
  refine ev_val (few_val l r ws []) ?_
  by_cases hf : l.length ≤ 300 ∧ r.length ≤ 300 ∧ ws.length ≤ 200 ∧ ([] : List Bool).length ≤ 200
  · simp only [decide_eq_true hf, if_true]
    have hwl : ws.length ≤ 1000 := by omega
    refine Ev.bind (choose_ev l r ws hwl) ?_
    refine Ev.bind (gains_ev l r ws hwl) ?_
    by_cases hc : chkV l r ws 2097152 = 0
    · obtain ⟨hw, hl, hr, i0, i1⟩ := chkV_ok hc
      have e1 : chooseV l r ws = (chosen l r ws, 0) := by unfold chooseV chosen; rw [if_pos hc]
      have e2 : gainsV l r ws = (gainL l r ws (List.range ws.length), 0) := by unfold gainsV; rw [if_pos hc]
      rw [e1, e2]
      simp only [if_true]
      have hgl : (gainL l r ws (List.range ws.length)).length = ws.length := by rw [gainL_length, List.length_range]
      have hcl := chosen_length l r ws
      have hco : stereo_Couple.f l r ws (chosen l r ws) = some ((cSt midP l r ws (chosen l r ws) (List.range ws.length)).2.1, (cSt midP l r ws (chosen l r ws) (List.range ws.length)).2.2, 0) := by
        unfold stereo_Couple.f
        rw [if_pos (by omega), cplV_at hc hcl]
      obtain ⟨X, hX⟩ : ∃ X, X = (cSt midP l r ws (chosen l r ws) (List.range ws.length)).2.1 := ⟨_, rfl⟩
      obtain ⟨Y, hY⟩ : ∃ Y, Y = (cSt midP l r ws (chosen l r ws) (List.range ws.length)).2.2 := ⟨_, rfl⟩
      have hin := mid_inm (mid := chosen l r ws) hl hr hw i0 i1 ws.length
      have hxl := cpl_len midP l r ws (chosen l r ws) hl hr ws.length
      rw [← hX, ← hY] at hco hin hxl
      have hfin := best_l0 hl hr hw i0 i1 X Y hX hY ws.length 0 (by omega)
      have hj1 : Ev (fun k => shawmlaw13_StereoBest.j1 k (chosen l r ws) (gainL l r ws (List.range ws.length)) X Y false l r) true := by
        refine Ev.step (fun k => ?_) hfin
        simp only [shawmlaw13_StereoBest.j1]
        rw [if_neg (by simp)]
        rfl
      refine Ev.step (f := fun k => (shawmref06_Within.f k 8388608 X).bind fun t152 => (if t152 = true then ((shawmref06_Within.f k 8388608 Y).bind fun t153 => (shawmlaw13_StereoBest.j1 k (chosen l r ws) (gainL l r ws (List.range ws.length)) X Y (!t153) l r)) else (shawmlaw13_StereoBest.j1 k (chosen l r ws) (gainL l r ws (List.range ws.length)) X Y true l r))) (fun k => ?_) (Ev.bind (within_ev X 8388608 (by omega) (by omega) (by omega)) ?_)
      · simp only [shawmlaw13_StereoBest.j0]
        rw [if_neg (by simp), hco, Option.bind_some]
        simp only [if_true]
        rw [if_pos (by omega)]
      · simp only [decide_eq_true hin.1, if_true]
        refine Ev.bind (within_ev Y 8388608 (by omega) (by omega) (by omega)) ?_
        simp only [decide_eq_true hin.2, Bool.not_true]
        exact hj1
    · have e1 : chooseV l r ws = ([], chkV l r ws 2097152) := by unfold chooseV; rw [if_neg hc]
      have e2 : gainsV l r ws = ([], chkV l r ws 2097152) := by unfold gainsV; rw [if_neg hc]
      rw [e1, e2]
      refine Ev.step (f := fun _ => some true) (fun k => ?_) (Ev.now _)
      rw [if_neg hc]
      simp only [shawmlaw13_StereoBest.j0]
      simp only [if_true]
      rfl
  · refine Ev.congr (fun k => ?_) (Ev.now true)
    rw [decide_eq_false hf]
    rfl
end Go.Proofs.Ytjplalkgabpinaa.Pure
