/- For all channels and widths: Choose, Gains and Cross answer as the reference does. Conditions: those of the given statement, no others. -/
import Derived.Test.YtjplalkgabpinaaHnx27
import Derived.Test.YtjplalkgabpinaaHnx24
import Derived.Test.YtjplalkgabpinaaHnx25
import Derived.Test.YtjplalkgabpinaaHnx26
import Derived.Test.YtjplalkgabpinaaH
namespace Go.Proofs.Ytjplalkgabpinaa.Pure
open Go.RowKit Go.Proofs.Ytjplalkgabpinaa.Hn Go.Proofs.YtjplalkgabpinaaW.PrintWords Go.Proofs.YtjplalkgabpinaaW.PrintLast Go.Proofs.YtjplalkgabpinaaW.PrintMore

/-- A list told place by place. -/
def tell (f : Nat → Int) (n : Nat) : List Int := (List.range n).map f
theorem tell_length (f : Nat → Int) (n : Nat) : (tell f n).length = n := by simp [tell]
theorem tell_rd (f : Nat → Int) (n i : Nat) (h : i < n) : rd (tell f n) (i : Int) = f i := by
  rw [rd_get _ i (by rw [tell_length]; exact h)]
  simp [tell]
theorem tell_take (f : Nat → Int) (n i : Nat) (h : i ≤ n) : (tell f n).take i = tell f i := by
  refine rd_ext (by rw [List.length_take, tell_length, tell_length]; omega) fun j hj => ?_
  rw [List.length_take, tell_length] at hj
  rw [tell_rd f i j (by omega), rd_get _ j (by rw [List.length_take, tell_length]; omega), List.getElem_take, ← rd_get _ j (by rw [tell_length]; omega), tell_rd f n j (by omega)]
theorem tell_succ (f : Nat → Int) (n : Nat) : tell f (n + 1) = tell f n ++ [f n] := by simp [tell, List.range_succ]
theorem cost_tell (f : Nat → Int) (n : Nat) : costL (tell f n) = sumTo (fun i => costV (f i)) n := by
  induction n with
  | zero => rfl
  | succ n ih =>
    rw [tell_succ]
    unfold costL at ih ⊢
    rw [List.map_append, List.sum_append, ih]
    simp [sumTo]
theorem sub_is (l : List Int) (o w : Nat) (h : o + w ≤ l.length) : (l.take (o + w)).drop o = tell (fun j => rd l ((o + j : Nat) : Int)) w := by
  refine rd_ext (by rw [List.length_drop, List.length_take, tell_length]; omega) fun j hj => ?_
  rw [List.length_drop, List.length_take] at hj
  rw [tell_rd _ w j (by omega), rd_get _ j (by rw [List.length_drop, List.length_take]; omega), List.getElem_drop, List.getElem_take, rd_get l (o + j) (by omega)]
theorem inm_tell {f : Nat → Int} {m : Int} {n : Nat} (h : ∀ i, i < n → -m ≤ f i ∧ f i ≤ m) : Inm m (tell f n) := inm_of_rd fun i hi => by
  rw [tell_length] at hi
  rw [tell_rd f n i hi]
  exact h i hi
theorem rcost_l0 (l : List Int) (hl : l.length ≤ 1000) (hb : Inm 8388608 l) (d : Nat) : ∀ (i : Nat) (s : Int), i + d = l.length → 0 ≤ s → s + 8192 * (d : Int) ≤ 1099511627776 →
    Ev (fun k => shawmref13_cost.l0 k s l (l.length : Int) (i : Int)) (s + costL (l.drop i)) := by
  induction d with
  | zero =>
    intro i s hi h0 h1
    have e : s + costL (l.drop i) = s := by rw [List.drop_of_length_le (by omega)]; simp [costL]
    rw [e]
    refine Ev.step (f := fun _ => some s) (fun k => ?_) (Ev.now _)
    simp only [shawmref13_cost.l0]
    rw [if_neg (by omega)]
  | succ d ih =>
    intro i s hi h0 h1
    have hr := rd_get l i (by omega)
    have hx := hb l[i] (List.getElem_mem (by omega))
    have hc := costV_bound hx.1 hx.2
    have e : s + costL (l.drop i) = (s + costV (rd l (i : Int))) + costL (l.drop (i + 1)) := by
      rw [List.drop_eq_getElem_cons (by omega), hr]; unfold costL; rw [List.map_cons, List.sum_cons]; omega
    rw [e]
    rw [← hr] at hc hx
    have e1 : wrap64 (-rd l (i : Int)) = -rd l (i : Int) := by unfold wrap64; omega
    have e2 : wrap64 (mx (rd l (i : Int)) (-rd l (i : Int)) + 1) = mx (rd l (i : Int)) (-rd l (i : Int)) + 1 := by unfold mx wrap64; split <;> omega
    have hlv := level_ev (mx (rd l (i : Int)) (-rd l (i : Int)) + 1) (by unfold mx; split <;> omega) (by unfold mx; split <;> omega)
    refine Ev.step (f := fun k => (shawmref03_Level.f k (mx (rd l (i : Int)) (-rd l (i : Int)) + 1)).bind fun t => shawmref13_cost.l0 k (wrap64 (s + t)) l (l.length : Int) ((i + 1 : Nat) : Int)) (fun k => ?_) (Ev.bind hlv ?_)
    · simp only [shawmref13_cost.l0]
      rw [if_pos (by omega), if_pos (by omega), if_pos (by omega), e1, e2, wrap_succ (by omega)]
    · have := ih (i + 1) (s + costV (rd l (i : Int))) (by omega) (by omega) (by omega)
      refine Ev.congr (fun k => ?_) this
      have e3 : wrap64 (s + logB (mx (rd l (i : Int)) (-rd l (i : Int)) + 1)) = s + costV (rd l (i : Int)) := by
        show wrap64 (s + costV (rd l (i : Int))) = _
        unfold wrap64; omega
      rw [e3]
theorem rcost_ev (l : List Int) (hl : l.length ≤ 1000) (hb : Inm 8388608 l) : Ev (fun k => shawmref13_cost.f k l) (costL l) := by
  have h := rcost_l0 l hl hb l.length 0 0 (by omega) (by omega) (by omega)
  rw [List.drop_zero, Int.zero_add] at h
  exact Ev.congr (fun k => rfl) h
theorem sides_l0 (a b : List Int) (hn : a.length ≤ 1000) (hab : b.length = a.length) (ha : Inm 8388608 a) (hb : Inm 8388608 b) (d : Nat) : ∀ i : Nat, i + d = a.length →
    Ev (fun k => shawmref13_sides.l0 k a b (tell (fun j => (midP (rd a (j : Int)) (rd b (j : Int))).1) i) (tell (fun j => (midP (rd a (j : Int)) (rd b (j : Int))).2) i) (a.length : Int) (i : Int)) (tell (fun j => (midP (rd a (j : Int)) (rd b (j : Int))).1) a.length, tell (fun j => (midP (rd a (j : Int)) (rd b (j : Int))).2) a.length) := by
  induction d with
  | zero =>
    intro i hi
    obtain rfl : i = a.length := by omega
    refine Ev.step (f := fun _ => some _) (fun k => ?_) (Ev.now _)
    simp only [shawmref13_sides.l0]
    rw [if_neg (by omega)]
  | succ d ih =>
    intro i hi
    have h0 := rd_of_inm ha i (by omega)
    have h1 := rd_of_inm hb i (by omega)
    refine Ev.step (f := fun k => (shawmref06_Mid.f k (rd a (i : Int)) (rd b (i : Int))).bind fun bt => shawmref13_sides.l0 k a b (tell (fun j => (midP (rd a (j : Int)) (rd b (j : Int))).1) i ++ [bt.1]) (tell (fun j => (midP (rd a (j : Int)) (rd b (j : Int))).2) i ++ [bt.2.1]) (a.length : Int) ((i + 1 : Nat) : Int)) (fun k => ?_) (Ev.bind (refmid_ev _ _ h0 h1) ?_)
    · simp only [shawmref13_sides.l0]
      rw [if_pos (by omega), if_pos (by omega), if_pos (by omega), if_pos (by omega), wrap_succ (by omega)]
      congr 1
      funext bt
      rw [if_pos (by rw [tell_length]; omega), if_pos (by rw [tell_length]; omega)]
    · refine Ev.congr (fun k => ?_) (ih (i + 1) (by omega))
      dsimp only
      rw [tell_succ, tell_succ]
theorem sides_ev (a b : List Int) (hn : a.length ≤ 1000) (hab : b.length = a.length) (ha : Inm 8388608 a) (hb : Inm 8388608 b) : Ev (fun k => shawmref13_sides.f k a b) (tell (fun j => (midP (rd a (j : Int)) (rd b (j : Int))).1) a.length, tell (fun j => (midP (rd a (j : Int)) (rd b (j : Int))).2) a.length) :=
  Ev.congr (fun k => rfl) (sides_l0 a b hn hab ha hb a.length 0 (by omega))
theorem band_cost (l r : List Int) (o w : Nat) : sumTo (fun j => costV (rd l ((o + j : Nat) : Int))) w + sumTo (fun j => costV (rd r ((o + j : Nat) : Int))) w - sumTo (fun j => costV (midP (rd l ((o + j : Nat) : Int)) (rd r ((o + j : Nat) : Int))).1) w - sumTo (fun j => costV (midP (rd l ((o + j : Nat) : Int)) (rd r ((o + j : Nat) : Int))).2) w = bandSum l r o w := by
  induction w with
  | zero => rfl
  | succ w ih =>
    simp only [sumTo, bandSum]
    rw [← ih]
    unfold pairG midP
    dsimp only
    omega
theorem rgains_l0 {l r ws : List Int} (hl : l.length = 128) (hr : r.length = 128) (hw : WOk ws) (i0 : Inm 2097152 l) (i1 : Inm 2097152 r) (d : Nat) : ∀ b : Nat, b + d = ws.length →
    Ev (fun k => shawmref13_Gains.l0 k l r (gainL l r ws (List.range b)) (offN ws b : Int) ws (ws.length : Int) (b : Int)) (gainL l r ws (List.range ws.length), 0) := by
  have hlen : ws.length ≤ 32 := hw.2.2.2
  have hc0 : Coefs 2097152 l := coefs_of (by omega) i0
  have hc1 : Coefs 2097152 r := coefs_of (by omega) i1
  induction d with
  | zero =>
    intro b hb
    obtain rfl : b = ws.length := by omega
    refine Ev.step (f := fun _ => some (gainL l r ws (List.range ws.length), 0)) (fun k => ?_) (Ev.now _)
    simp only [shawmref13_Gains.l0]
    rw [if_neg (by omega)]
  | succ d ih =>
    intro b hb
    have ho := offN_succ hw.1 (show b < ws.length by omega)
    have h128 := offN_le hw (b + 1)
    have hmono := offN_mono ws b
    obtain ⟨o, hoe⟩ : ∃ o, o = offN ws b := ⟨_, rfl⟩
    obtain ⟨w, hwe⟩ : ∃ w, w = offN ws (b + 1) - offN ws b := ⟨_, rfl⟩
    have hn : offN ws (b + 1) = o + w := by omega
    have hbg : bandG l r ws b = bandSum l r o w := by rw [hoe, hwe]; rfl
    have hgb := gain_bound hc0 hc1 hw b
    have hwr : wrap64 ((offN ws b : Int) + rd ws (b : Int)) = ((o + w : Nat) : Int) := by
      rw [← hn]
      unfold wrap64
      omega
    have hnext := ih (b + 1) (by omega)
    rw [hn] at hnext h128 ho
    rw [← hoe] at hwr ho ⊢
    have sl := sub_is l o w (by omega)
    have sr := sub_is r o w (by omega)
    have ta : Inm 8388608 (tell (fun j => rd l ((o + j : Nat) : Int)) w) := inm_tell fun i _ => by have := hc0 (o + i); omega
    have tb : Inm 8388608 (tell (fun j => rd r ((o + j : Nat) : Int)) w) := inm_tell fun i _ => by have := hc1 (o + i); omega
    have hs := sides_ev (tell (fun j => rd l ((o + j : Nat) : Int)) w) (tell (fun j => rd r ((o + j : Nat) : Int)) w) (by rw [tell_length]; omega) (by rw [tell_length, tell_length]) ta tb
    rw [tell_length] at hs
    have em1 : tell (fun j => (midP (rd (tell (fun j => rd l ((o + j : Nat) : Int)) w) (j : Int)) (rd (tell (fun j => rd r ((o + j : Nat) : Int)) w) (j : Int))).1) w = tell (fun j => (midP (rd l ((o + j : Nat) : Int)) (rd r ((o + j : Nat) : Int))).1) w := by
      refine rd_ext (by rw [tell_length, tell_length]) fun j hj => ?_
      rw [tell_length] at hj
      rw [tell_rd _ w j hj, tell_rd _ w j hj, tell_rd _ w j hj, tell_rd _ w j hj]
    have em2 : tell (fun j => (midP (rd (tell (fun j => rd l ((o + j : Nat) : Int)) w) (j : Int)) (rd (tell (fun j => rd r ((o + j : Nat) : Int)) w) (j : Int))).2) w = tell (fun j => (midP (rd l ((o + j : Nat) : Int)) (rd r ((o + j : Nat) : Int))).2) w := by
      refine rd_ext (by rw [tell_length, tell_length]) fun j hj => ?_
      rw [tell_length] at hj
      rw [tell_rd _ w j hj, tell_rd _ w j hj, tell_rd _ w j hj, tell_rd _ w j hj]
    rw [em1, em2] at hs
    have k1 := rcost_ev (tell (fun j => rd l ((o + j : Nat) : Int)) w) (by rw [tell_length]; omega) ta
    have k2 := rcost_ev (tell (fun j => rd r ((o + j : Nat) : Int)) w) (by rw [tell_length]; omega) tb
    have k3 := rcost_ev (tell (fun j => (midP (rd l ((o + j : Nat) : Int)) (rd r ((o + j : Nat) : Int))).1) w) (by rw [tell_length]; omega) (inm_tell fun i _ => by have := hc0 (o + i); have := hc1 (o + i); unfold midP; dsimp only; omega)
    have k4 := rcost_ev (tell (fun j => (midP (rd l ((o + j : Nat) : Int)) (rd r ((o + j : Nat) : Int))).2) w) (by rw [tell_length]; omega) (inm_tell fun i _ => by have := hc0 (o + i); have := hc1 (o + i); unfold midP; dsimp only; omega)
    have sb : ∀ f : Nat → Int, (∀ i, -8388608 ≤ f i ∧ f i ≤ 8388608) → ∀ n : Nat, n ≤ 128 → 0 ≤ sumTo (fun j => costV (f j)) n ∧ sumTo (fun j => costV (f j)) n ≤ 8192 * (n : Int) := by
      intro f hf n hn
      induction n with
      | zero => simp [sumTo]
      | succ n ihn =>
        have := ihn (by omega)
        have := costV_bound (hf n).1 (hf n).2
        simp only [sumTo]
        omega
    have b1 := sb (fun j => rd l ((o + j : Nat) : Int)) (fun i => by have := hc0 (o + i); omega) w (by omega)
    have b2 := sb (fun j => rd r ((o + j : Nat) : Int)) (fun i => by have := hc1 (o + i); omega) w (by omega)
    have b3 := sb (fun j => (midP (rd l ((o + j : Nat) : Int)) (rd r ((o + j : Nat) : Int))).1) (fun i => by have := hc0 (o + i); have := hc1 (o + i); unfold midP; dsimp only; omega) w (by omega)
    have b4 := sb (fun j => (midP (rd l ((o + j : Nat) : Int)) (rd r ((o + j : Nat) : Int))).2) (fun i => by have := hc0 (o + i); have := hc1 (o + i); unfold midP; dsimp only; omega) w (by omega)
    have hbc := band_cost l r o w
    rw [← hbg] at hbc
    rw [cost_tell] at k1 k2 k3 k4
    have HWR := Aside0.mk hwr
    clear hwr
    refine Ev.step (f := fun k => (shawmref13_sides.f k (tell (fun j => rd l ((o + j : Nat) : Int)) w) (tell (fun j => rd r ((o + j : Nat) : Int)) w)).bind fun bt356 => ((shawmref13_cost.f k (tell (fun j => rd l ((o + j : Nat) : Int)) w)).bind fun t362 => ((shawmref13_cost.f k (tell (fun j => rd r ((o + j : Nat) : Int)) w)).bind fun t363 => ((shawmref13_cost.f k bt356.1).bind fun t364 => ((shawmref13_cost.f k bt356.2).bind fun t365 => shawmref13_Gains.l0 k l r (gainL l r ws (List.range b) ++ [wrap64 ((wrap64 ((wrap64 (t362 + t363)) - t364)) - t365)]) ((o + w : Nat) : Int) ws (ws.length : Int) ((b + 1 : Nat) : Int)))))) (fun k => ?_) (Ev.bind hs (Ev.bind k1 (Ev.bind k2 (Ev.bind k3 (Ev.bind k4 ?_)))))
    · simp only [shawmref13_Gains.l0]
      rw [HWR.out, Int.toNat_natCast, Int.toNat_natCast, sl, sr]
      rw [if_pos (by omega), if_pos (by omega), if_pos (by omega), if_pos (by omega), if_pos (by omega), if_pos (by omega), if_pos (by omega), wrap_succ (by omega)]
      simp only [if_pos (show (gainL l r ws (List.range b)).length < 17592186044416 by rw [gainL_length, List.length_range]; omega)]
    · refine Ev.congr (fun k => ?_) hnext
      have ev : wrap64 (wrap64 (wrap64 (sumTo (fun j => costV (rd l ((o + j : Nat) : Int))) w + sumTo (fun j => costV (rd r ((o + j : Nat) : Int))) w) - sumTo (fun j => costV (midP (rd l ((o + j : Nat) : Int)) (rd r ((o + j : Nat) : Int))).1) w) - sumTo (fun j => costV (midP (rd l ((o + j : Nat) : Int)) (rd r ((o + j : Nat) : Int))).2) w) = bandG l r ws b := by
        rw [← hbc]
        unfold wrap64
        omega
      rw [ev, ← gainL_snoc, ← List.range_succ]
theorem rgains_ev (l r ws : List Int) (hl : l.length ≤ 1000) (hr : r.length ≤ 1000) (hwl : ws.length ≤ 1000) : Ev (fun k => shawmref13_Gains.f k l r ws) (gainsV l r ws) := by
  unfold shawmref13_Gains.f gainsV
  refine Ev.bind (channels_ev l r ws 2097152 (by omega) (by omega) hl hr hwl) ?_
  by_cases h : chkV l r ws 2097152 = 0
  · obtain ⟨hw, hl', hr', i0, i1⟩ := chkV_ok h
    rw [if_pos h]
    have hg := rgains_l0 hl' hr' hw i0 i1 ws.length 0 (by omega)
    rw [offN_zero] at hg
    refine Ev.congr (fun k => ?_) hg
    rw [if_pos h]
    rfl
  · rw [if_neg h]
    refine Ev.congr (fun k => ?_) (Ev.now _)
    rw [if_neg h]
theorem rchoose_l0 (g : List Int) (hg : g.length ≤ 1000) (d : Nat) : ∀ (i : Nat) (out : List Bool), i + d = g.length → out.length = i → Ev (fun k => shawmref13_Choose.l0 k out g (g.length : Int) (i : Int)) (out ++ (g.drop i).map (fun g => decide (g > 0)), 0) := by
  induction d with
  | zero =>
    intro i out hi ho
    rw [List.drop_of_length_le (by omega), List.map_nil, List.append_nil]
    refine Ev.step (f := fun _ => some (out, 0)) (fun k => ?_) (Ev.now _)
    simp only [shawmref13_Choose.l0]
    rw [if_neg (by omega)]
  | succ d ih =>
    intro i out hi ho
    have hx := rd_get g i (by omega)
    have e : out ++ (g.drop i).map (fun g => decide (g > 0)) = (out ++ [decide (rd g (i : Int) > 0)]) ++ (g.drop (i + 1)).map (fun g => decide (g > 0)) := by
      rw [List.drop_eq_getElem_cons (show i < g.length by omega), hx, List.map_cons, List.append_assoc]
      rfl
    rw [e]
    refine Ev.step (fun k => ?_) (ih (i + 1) _ (by omega) (by simp [ho]))
    simp only [shawmref13_Choose.l0]
    rw [if_pos (by omega), if_pos (by omega), if_pos (by omega), if_pos (by omega), wrap_succ (by omega)]
theorem rchoose_ev (l r ws : List Int) (hl : l.length ≤ 1000) (hr : r.length ≤ 1000) (hwl : ws.length ≤ 1000) : Ev (fun k => shawmref13_Choose.f k l r ws) (chooseV l r ws) := by
  unfold shawmref13_Choose.f
  refine Ev.bind (rgains_ev l r ws hl hr hwl) ?_
  unfold chooseV gainsV
  by_cases h : chkV l r ws 2097152 = 0
  · rw [if_pos h, if_pos h]
    simp only [if_true]
    have hk := rchoose_l0 (gainL l r ws (List.range ws.length)) (by rw [gainL_length, List.length_range]; exact hwl) _ 0 [] (by rw [Nat.zero_add]) rfl
    rw [List.drop_zero, List.nil_append] at hk
    exact hk
  · rw [if_neg h, if_neg h]
    refine Ev.congr (fun k => ?_) (Ev.now _)
    rw [if_neg h]
/-- How alike a band is, as the reference reckons it. -/
theorem crossV_ref (a b x : Int) (ha : 0 ≤ a) (ha1 : a ≤ 1125899906842624) (hb : 0 ≤ b) (hb1 : b ≤ 1125899906842624) (hx0 : -1125899906842624 ≤ x) (hx1 : x ≤ 1125899906842624) :
    (¬ (a > 0 ∧ b > 0) → crossV a b x = 0) ∧ (a > 0 → b > 0 → mx (mx a b) (mx x (wrap64 (-x))) ≠ 0 ∧
      (x < 0 → wrap64 (-(wrap64 (Int.tdiv (wrap64 (256 * (mx x (wrap64 (-x))))) (mx (mx a b) (mx x (wrap64 (-x))))))) = crossV a b x) ∧
      (¬ x < 0 → wrap64 (Int.tdiv (wrap64 (256 * (mx x (wrap64 (-x))))) (mx (mx a b) (mx x (wrap64 (-x))))) = crossV a b x)) := by
  refine ⟨fun h => ?_, fun h1 h2 => ?_⟩
  · unfold crossV
    by_cases h1 : a = 0
    · rw [if_pos h1]
    · rw [if_neg h1, if_pos (by omega)]
  · have e1 : wrap64 (-x) = -x := by unfold wrap64; omega
    rw [e1]
    have e2 : mx (mx (mx a b) x) (-x) = mx (mx a b) (mx x (-x)) := by simp only [mx_eq]; omega
    have hm : 0 ≤ mx x (-x) := by rw [mx_eq]; omega
    have hm1 : mx x (-x) ≤ 1125899906842624 := by rw [mx_eq]; omega
    have hM : 1 ≤ mx (mx a b) (mx x (-x)) := by simp only [mx_eq]; omega
    unfold crossV
    rw [if_neg (by omega), if_neg (by omega), e2]
    generalize mx x (-x) = m at *
    generalize mx (mx a b) m = M at *
    have e3 : wrap64 (256 * m) = 256 * m := by unfold wrap64; omega
    have hq := quo_bd hm hm1 hM
    rw [e3, Int.tdiv_eq_ediv_of_nonneg (by omega)]
    generalize 256 * m / M = q at *
    refine ⟨by omega, fun h => ?_, fun h => ?_⟩
    · rw [if_pos h]
      unfold wrap64
      omega
    · rw [if_neg h]
      unfold wrap64
      omega
theorem rc_l1 {l r ws : List Int} (hl : l.length = 128) (hr : r.length = 128) (hw : WOk ws) (i0 : Inm 2097152 l) (i1 : Inm 2097152 r) (b : Nat) (hb : b < ws.length) (res : List Int × Int)
    (next : Ev (fun k => shawmref13_Cross.l0 k l r (crossL l r ws (b + 1)) (offN ws (b + 1) : Int) ws (ws.length : Int) ((b + 1 : Nat) : Int)) res) (d : Nat) : ∀ n : Nat, offN ws b + n + d = offN ws (b + 1) →
    Ev (fun k => shawmref13_Cross.l1 k l r (crossL l r ws b) (offN ws b : Int) (rd ws (b : Int)) (prodSum l l (offN ws b) n) (prodSum r r (offN ws b) n) (prodSum l r (offN ws b) n) ((offN ws b + n : Nat) : Int) ws (ws.length : Int) (b : Int)) res := by
  have hlen : ws.length ≤ 32 := hw.2.2.2
  have hc0 : Coefs 2097152 l := coefs_of (by omega) i0
  have hc1 : Coefs 2097152 r := coefs_of (by omega) i1
  have ho := offN_succ hw.1 hb
  have h128 := offN_le hw (b + 1)
  have hmono := offN_mono ws b
  have HWR := Aside0.mk (show wrap64 ((offN ws b : Int) + rd ws (b : Int)) = (offN ws (b + 1) : Int) by unfold wrap64; omega)
  have hcl := crossL_length l r ws b
  induction d with
  | zero =>
    intro n hn
    have en : n = offN ws (b + 1) - offN ws b := by omega
    have hbd := bandS_bound hc0 hc1 hw b
    have hB : bandS l r ws b = (prodSum l l (offN ws b) n, prodSum r r (offN ws b) n, prodSum l r (offN ws b) n) := by rw [en]; rfl
    have hcb : crossB l r ws b = crossV (prodSum l l (offN ws b) n) (prodSum r r (offN ws b) n) (prodSum l r (offN ws b) n) := by unfold crossB; rw [hB]
    rw [hB] at hbd
    obtain ⟨a0, a1, b0, b1, x0, x1⟩ := hbd
    dsimp only at a0 a1 b0 b1 x0 x1
    have hcr := crossV_ref _ _ _ a0 a1 b0 b1 x0 x1
    rw [crossL_succ, hcb] at next
    generalize prodSum l l (offN ws b) n = A at *
    generalize prodSum r r (offN ws b) n = B at *
    generalize prodSum l r (offN ws b) n = X at *
    have HC := Aside0.mk hcr
    clear hcr
    have key : ∀ t : Bool, t = decide (A > 0 ∧ B > 0) → Ev (fun k => shawmref13_Cross.j2 k l r (crossL l r ws b) (offN ws (b + 1) : Int) A B X 0 ws (ws.length : Int) (b : Int) t) res := by
      intro t ht
      refine Ev.step (fun k => ?_) next
      simp only [shawmref13_Cross.j2]
      by_cases hp : A > 0 ∧ B > 0
      · rw [ht, decide_eq_true hp, if_pos rfl]
        obtain ⟨g1, g2, g3⟩ := HC.out.2 hp.1 hp.2
        rw [if_neg g1]
        by_cases hx : X < 0
        · rw [if_pos hx, if_pos (by omega), g2 hx, wrap_succ (by omega)]
        · rw [if_neg hx, if_pos (by omega), g3 hx, wrap_succ (by omega)]
      · rw [ht, decide_eq_false hp, if_neg (by simp), if_pos (by omega), HC.out.1 hp, wrap_succ (by omega)]
    by_cases hA : A > 0
    · refine Ev.step (fun k => ?_) (key (decide (B > 0)) (by rw [Bool.eq_iff_iff, decide_eq_true_eq, decide_eq_true_eq]; exact ⟨fun h => ⟨hA, h⟩, fun h => h.2⟩))
      simp only [shawmref13_Cross.l1]
      rw [HWR.out, if_neg (by omega), if_pos hA]
    · refine Ev.step (fun k => ?_) (key false (by rw [decide_eq_false (fun h => hA h.1)]))
      simp only [shawmref13_Cross.l1]
      rw [HWR.out, if_neg (by omega), if_neg hA]
  | succ d ih =>
    intro n hn
    have h1 := ih (n + 1) (by omega)
    have s1 := prodSum_bound hc0 hc0 (offN ws b) n
    have s2 := prodSum_bound hc1 hc1 (offN ws b) n
    have s3 := prodSum_bound hc0 hc1 (offN ws b) n
    have g0 := hc0 (offN ws b + n)
    have g1 := hc1 (offN ws b + n)
    have m1 := mul_bd g0.1 g0.2 g0.1 g0.2
    have m2 := mul_bd g1.1 g1.2 g1.1 g1.2
    have m3 := mul_bd g0.1 g0.2 g1.1 g1.2
    simp only [prodSum] at h1
    refine Ev.step (fun k => ?_) h1
    simp only [shawmref13_Cross.l1]
    rw [HWR.out, if_pos (by omega), if_pos (by omega), if_pos (by omega), if_pos (by omega)]
    generalize rd l ((offN ws b + n : Nat) : Int) * rd l ((offN ws b + n : Nat) : Int) = p1 at *
    generalize rd r ((offN ws b + n : Nat) : Int) * rd r ((offN ws b + n : Nat) : Int) = p2 at *
    generalize rd l ((offN ws b + n : Nat) : Int) * rd r ((offN ws b + n : Nat) : Int) = p3 at *
    generalize prodSum l l (offN ws b) n = A at *
    generalize prodSum r r (offN ws b) n = B at *
    generalize prodSum l r (offN ws b) n = X at *
    clear HWR
    rw [show wrap64 p1 = p1 by unfold wrap64; omega, show wrap64 p2 = p2 by unfold wrap64; omega, show wrap64 p3 = p3 by unfold wrap64; omega, show wrap64 (A + p1) = A + p1 by unfold wrap64; omega, show wrap64 (B + p2) = B + p2 by unfold wrap64; omega, show wrap64 (X + p3) = X + p3 by unfold wrap64; omega, show wrap64 (((offN ws b + n : Nat) : Int) + 1) = ((offN ws b + (n + 1) : Nat) : Int) by unfold wrap64; omega]
theorem rc_l0 {l r ws : List Int} (hl : l.length = 128) (hr : r.length = 128) (hw : WOk ws) (i0 : Inm 2097152 l) (i1 : Inm 2097152 r) (d : Nat) : ∀ b : Nat, b + d = ws.length →
    Ev (fun k => shawmref13_Cross.l0 k l r (crossL l r ws b) (offN ws b : Int) ws (ws.length : Int) (b : Int)) (crossL l r ws ws.length, 0) := by
  have hlen : ws.length ≤ 32 := hw.2.2.2
  induction d with
  | zero =>
    intro b hb
    obtain rfl : b = ws.length := by omega
    refine Ev.step (f := fun _ => some (crossL l r ws ws.length, 0)) (fun k => ?_) (Ev.now _)
    simp only [shawmref13_Cross.l0]
    rw [if_neg (by omega)]
  | succ d ih =>
    intro b hb
    have h1 := rc_l1 hl hr hw i0 i1 b (by omega) _ (ih (b + 1) (by omega)) (offN ws (b + 1) - offN ws b) 0 (by have := offN_mono ws b; omega)
    simp only [prodSum, Nat.add_zero] at h1
    refine Ev.step (fun k => ?_) h1
    simp only [shawmref13_Cross.l0]
    rw [if_pos (by omega), if_pos (by omega), if_pos (by omega)]
theorem rcross_ev (l r ws : List Int) (hl : l.length ≤ 1000) (hr : r.length ≤ 1000) (hwl : ws.length ≤ 1000) : Ev (fun k => shawmref13_Cross.f k l r ws) (crossA l r ws) := by
  unfold shawmref13_Cross.f crossA
  refine Ev.bind (channels_ev l r ws 2097152 (by omega) (by omega) hl hr hwl) ?_
  by_cases h : chkV l r ws 2097152 = 0
  · obtain ⟨hw, hl', hr', i0, i1⟩ := chkV_ok h
    rw [if_pos h]
    have hg := rc_l0 hl' hr' hw i0 i1 ws.length 0 (by omega)
    rw [offN_zero] at hg
    refine Ev.congr (fun k => ?_) hg
    rw [if_pos h]
    rfl
  · rw [if_neg h]
    refine Ev.congr (fun k => ?_) (Ev.now _)
    rw [if_neg h]
theorem bools_l0 (l : List Bool) (hl : l.length ≤ 4611686018427387904) (d : Nat) : ∀ i : Nat, i + d = l.length → Ev (fun k => shawmref09_Bools.l0 k l l (l.length : Int) (i : Int)) true := by
  induction d with
  | zero =>
    intro i hi
    refine Ev.step (f := fun _ => some true) (fun k => ?_) (Ev.now _)
    simp only [shawmref09_Bools.l0]
    rw [if_neg (by omega)]
  | succ d ih =>
    intro i hi
    refine Ev.step (fun k => ?_) (ih (i + 1) (by omega))
    simp only [shawmref09_Bools.l0]
    rw [if_pos (by omega), if_pos (by omega), if_pos (by omega), if_pos (by omega), if_neg (by simp), wrap_succ (by omega)]
theorem bools_same (l : List Bool) (hl : l.length ≤ 4611686018427387904) : Ev (fun k => shawmref09_Bools.f k l l) true := by
  refine Ev.congr (fun k => ?_) (bools_l0 l hl l.length 0 (by omega))
  unfold shawmref09_Bools.f
  rw [if_pos rfl]
  rfl
theorem StereoChooses (l r ws : List Int) : ∃ k, shawmlaw13_StereoChooses.f k l r ws = some true := by
  refine Ev.rounds (g := fun k => shawmlaw13_StereoChooses.f k l r ws) ?_
  unfold shawmlaw13_StereoChooses.f
  refine ev_val (few_val l r ws []) ?_
  by_cases hf : l.length ≤ 300 ∧ r.length ≤ 300 ∧ ws.length ≤ 200 ∧ ([] : List Bool).length ≤ 200
  · simp only [decide_eq_true hf, if_true]
    have hwl : ws.length ≤ 1000 := by omega
    refine Ev.bind (choose_ev l r ws hwl) ?_
    refine Ev.bind (rchoose_ev l r ws (by omega) (by omega) hwl) ?_
    refine Ev.bind (gains_ev l r ws hwl) ?_
    refine Ev.bind (rgains_ev l r ws (by omega) (by omega) hwl) ?_
    refine ev_val (cross_some l r ws hwl) ?_
    refine Ev.bind (rcross_ev l r ws (by omega) (by omega) hwl) ?_
    have s1 : (chooseV l r ws).1.length ≤ 1000 := by
      unfold chooseV
      split
      · simp [gainL_length]; exact hwl
      · simp
    have s2 : (gainsV l r ws).1.length ≤ 1000 := by
      unfold gainsV
      split
      · simp [gainL_length]; exact hwl
      · simp
    have s3 : (crossA l r ws).1.length ≤ 1000 := by
      unfold crossA
      split
      · simp only [crossL_length]; exact hwl
      · simp
    refine Ev.bind (bools_same _ (by omega)) ?_
    simp only [if_true]
    refine Ev.bind (ints_same _ (by omega)) ?_
    simp only [if_true]
    refine Ev.bind (ints_same _ (by omega)) ?_
    simp only [if_true]
    exact Ev.now _
  · refine Ev.congr (fun k => ?_) (Ev.now true)
    rw [decide_eq_false hf]
    rfl
end Go.Proofs.Ytjplalkgabpinaa.Pure
