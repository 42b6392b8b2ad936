/- Plain lemmas on the transform back: of a list of the size it is a list of the size, and of zeros it is zeros. No conditions beyond each lemma's own. -/
import Derived.Test.YtooipbjdpajmmaaV
import Derived.Test.YtooipbjdpajmmaaHlx16
namespace Go.Proofs.Ytooipbjdpajmmaa.Laps
open Go.RowKit Go.Proofs.Ytooipbjdpajmmaa.Hl Go.Proofs.YtooipbjdpajmmaaW.PrintWords Go.Proofs.YtooipbjdpajmmaaW.PrintLast

theorem back_ev (q a b x y : Int) (hq : q ≤ 100) : ∃ u, Ev (fun k => shawmref06_Factors_Back.f k q a b x y) u ∧ (x = 0 → y = 0 → u = (0, 0)) := by
  obtain ⟨u, hu⟩ := back_some q a b x y hq
  refine ⟨u, Ev.of (fun k => shawmref06_Factors_Back.mono q a b x y k) hu, fun h1 h2 => ?_⟩
  rw [h1, h2, back_zero q a b hq] at hu
  injection hu with hu
  exact hu.symm
/-- All of a list is 0. -/
def AllZ (x : List Int) : Prop := ∀ j : Nat, rd x (j : Int) = 0
theorem allz_rep (n : Nat) : AllZ (List.replicate n 0) := by
  intro j
  rw [rd_nat]
  by_cases h : j < n
  · simp [List.getD_eq_getElem?_getD, h]
  · rw [List.getD_eq_getElem?_getD, List.getElem?_eq_none (by simpa using h)]; rfl
theorem allz_set {x : List Int} (h : AllZ x) (a : Nat) : AllZ (x.set a 0) := by
  intro j
  by_cases e : j = a
  · subst e
    by_cases hl : j < x.length
    · exact rd_set_at _ _ _ hl
    · rw [List.set_eq_of_length_le (by omega)]; exact h j
  · rw [rd_set _ _ _ _ e]; exact h j
theorem wrap_neg_zero : wrap64 (-(0 : Int)) = 0 := by decide +kernel
/-- Rows' lists, one behind the other. -/
theorem weave_ev (Z : Prop) (h : Nat) (hh : h ≤ 1000) (a b c d : List Int) (ha : a.length = h) (hb : b.length = h) (hc : c.length = h) (hd : d.length = h) (hz : Z → AllZ a ∧ AllZ b ∧ AllZ c ∧ AllZ d) :
    ∀ (e : Nat) (i : Nat) (x y : List Int), i + e = h → x.length = 2 * h → y.length = 2 * h → (Z → AllZ x ∧ AllZ y) →
      ∃ r, Ev (fun k => shawmref07_rows_unmixed.l1 k a b c d x y (h : Int) (i : Int)) r ∧ r.1.length = 2 * h ∧ r.2.length = 2 * h ∧ (Z → AllZ r.1 ∧ AllZ r.2) := by
  intro e
  induction e with
  | zero =>
    intro i x y hi hx hy hxy
    refine ⟨(x, y), Ev.step (fun k => by rw [shawmref07_rows_unmixed.l1]) ?_, hx, hy, hxy⟩
    exact ev_neg (by omega) (Ev.now _)
  | succ e ih =>
    intro i x y hi hx hy hxy
    obtain ⟨r, hr, h1, h2, h3⟩ := ih (i + 1) ((x.set (2 * i) (rd a (i : Int))).set (2 * i + 1) (rd c (i : Int))) ((y.set (2 * i) (rd b (i : Int))).set (2 * i + 1) (rd d (i : Int))) (by omega) (by simp [hx]) (by simp [hy])
      (fun z => by
        obtain ⟨z1, z2, z3, z4⟩ := hz z
        rw [z1 i, z2 i, z3 i, z4 i]
        exact ⟨allz_set (allz_set (hxy z).1 _) _, allz_set (allz_set (hxy z).2 _) _⟩)
    refine ⟨r, Ev.step (fun k => by rw [shawmref07_rows_unmixed.l1]) ?_, h1, h2, h3⟩
    have E1 := Aside0.mk (show wrap64 (2 * (i : Int)) = ((2 * i : Nat) : Int) from wrap_in (by omega) (by omega))
    have E2 := Aside0.mk (show wrap64 (((2 * i : Nat) : Int) + 1) = ((2 * i + 1 : Nat) : Int) from wrap_in (by omega) (by omega))
    have E3 := Aside0.mk (show wrap64 ((i : Int) + 1) = ((i + 1 : Nat) : Int) from wrap_succ (by omega))
    simp only [E1.out, E2.out, E3.out, Int.toNat_natCast]
    refine ev_pos (by omega) (ev_pos (by omega) (ev_pos (by omega) (ev_pos (by omega) (ev_pos (by omega) (ev_pos (by omega) (ev_pos (by omega) (ev_pos (by omega) (ev_pos (by omega) (ev_pos (by omega) (ev_pos (by omega) (ev_pos (by omega) hr)))))))))))
theorem by_ev (c h : Nat) (parts : List S70) (hp : Turns parts (h * c)) (e0 e1 e2 : Int) (hc : 0 < c) (hM : 2 * h * c ≤ 1000) (i : Nat) (hi : i < h) :
    ∃ u : Int × Int × Int, shawmref07_rows_by.f ((2 * h * c : Nat) : Int) parts e0 e1 e2 (i : Int) ((2 * h : Nat) : Int) = some u ∧ u.1 ≤ 100 := by
  have h1 : Int.tdiv ((2 * h * c : Nat) : Int) ((2 * h : Nat) : Int) = (c : Int) := by
    rw [Int.natCast_mul (2 * h) c, Int.mul_comm]
    exact Int.mul_tdiv_cancel _ (by omega)
  have hc1 : c ≤ 2 * h * c := Nat.le_mul_of_pos_left c (by omega)
  have h2 : wrap64 (c : Int) = (c : Int) := wrap_in (by omega) (by omega)
  have h3 : i * c < h * c := Nat.mul_lt_mul_of_pos_right hi hc
  have h5 : h * c ≤ 1000 := by
    have : 2 * h * c = 2 * (h * c) := Nat.mul_assoc 2 h c
    omega
  have h4 : wrap64 ((i : Int) * (c : Int)) = ((i * c : Nat) : Int) := by
    rw [← Int.natCast_mul]
    exact wrap_nat (by omega)
  unfold shawmref07_rows_by.f
  rw [h1, h2, h4, if_neg (by omega), if_pos (by omega), if_pos (by rw [hp.1]; omega)]
  exact ⟨_, rfl, hp.2 (i * c) (by rw [hp.1]; exact h3)⟩
theorem rows_ev (parts : List S70) (rm e0 e1 e2 : Int) (he : e0 ≤ 100) (Q : List Int × List Int → Prop) (h : Nat) (hh : h ≤ 1000) (x1 x2 : List Int) (hx1 : x1.length = 2 * h) (hx2 : x2.length = 2 * h)
    (hby : ∀ i : Nat, i < h → ∃ u : Int × Int × Int, shawmref07_rows_by.f rm parts e0 e1 e2 (i : Int) ((2 * h : Nat) : Int) = some u ∧ u.1 ≤ 100) (Z : Prop) (hz : Z → AllZ x1 ∧ AllZ x2)
    (hcont : ∀ a b c d : List Int, a.length = h → b.length = h → c.length = h → d.length = h → (Z → AllZ a ∧ AllZ b ∧ AllZ c ∧ AllZ d) →
      ∃ r, Ev (fun k => ((shawmref07_rows_unmixed.f k rm parts e0 e1 e2 a b).bind fun bt229 => ((shawmref07_rows_unmixed.f k rm parts e0 e1 e2 c d).bind fun bt235 => (if (0 : Int) ≤ ((2 * h : Nat) : Int) then (if (((2 * h : Nat) : Int) : Int).toNat ≤ 35184372088832 then (shawmref07_rows_unmixed.l1 k bt229.1 bt229.2 bt235.1 bt235.2 (List.replicate (((2 * h : Nat) : Int) : Int).toNat 0) (List.replicate (((2 * h : Nat) : Int) : Int).toNat 0) (h : Int) 0) else (none)) else (none))))) r ∧ Q r) :
    ∀ (e i : Nat) (a b c d : List Int), i + e = h → a.length = h → b.length = h → c.length = h → d.length = h → (Z → AllZ a ∧ AllZ b ∧ AllZ c ∧ AllZ d) →
      ∃ r, Ev (fun k => shawmref07_rows_unmixed.l0 k x1 x2 ((2 * h : Nat) : Int) a b c d (h : Int) (i : Int) rm parts e0 e1 e2) r ∧ Q r := by
  have e4 : wrap64 (Int.tdiv ((2 * h : Nat) : Int) 2) = (h : Int) := by
    rw [Int.tdiv_eq_ediv_of_nonneg (by omega)]
    unfold wrap64
    omega
  have E4 := Aside0.mk e4
  clear e4
  intro e
  induction e with
  | zero =>
    intro i a b c d hi ha hb hc hd hzz
    obtain ⟨r, hr, hq⟩ := hcont a b c d ha hb hc hd hzz
    refine ⟨r, Ev.step (fun k => by rw [shawmref07_rows_unmixed.l0]) ?_, hq⟩
    simp only [E4.out]
    exact ev_neg (by omega) hr
  | succ e ih =>
    intro i a b c d hi ha hb hc hd hzz
    obtain ⟨u1, hu1, z1⟩ := back_ev e0 e1 e2 (rd x1 (i : Int)) (wrap64 (-(rd x1 ((i + h : Nat) : Int)))) he
    obtain ⟨u2, hu2, z2⟩ := back_ev e0 e1 e2 (rd x2 (i : Int)) (wrap64 (-(rd x2 ((i + h : Nat) : Int)))) he
    obtain ⟨t, ht, htq⟩ := hby i (by omega)
    obtain ⟨u3, hu3, z3⟩ := back_ev t.1 t.2.1 t.2.2 u1.2 u2.2 htq
    have hzu : Z → u1 = (0, 0) ∧ u2 = (0, 0) ∧ u3 = (0, 0) := by
      intro z
      obtain ⟨g1, g2⟩ := hz z
      have q1 := z1 (g1 i) (by rw [g1 (i + h)]; exact wrap_neg_zero)
      have q2 := z2 (g2 i) (by rw [g2 (i + h)]; exact wrap_neg_zero)
      exact ⟨q1, q2, z3 (by rw [q1]) (by rw [q2])⟩
    obtain ⟨r, hr, hq⟩ := ih (i + 1) (a.set i u1.1) (b.set i u2.1) (c.set i u3.1) (d.set i u3.2) (by omega) (by simp [ha]) (by simp [hb]) (by simp [hc]) (by simp [hd]) (fun z => by
      obtain ⟨q1, q2, q3⟩ := hzu z
      obtain ⟨k1, k2, k3, k4⟩ := hzz z
      rw [q1, q2, q3]
      exact ⟨allz_set k1 i, allz_set k2 i, allz_set k3 i, allz_set k4 i⟩)
    clear hzu z1 z2 z3 hcont ih
    refine ⟨r, Ev.step (fun k => by rw [shawmref07_rows_unmixed.l0]) ?_, hq⟩
    have E5 := Aside0.mk (show wrap64 ((i : Int) + (h : Int)) = ((i + h : Nat) : Int) from by rw [← Int.natCast_add]; exact wrap_nat (by omega))
    have E3 := Aside0.mk (show wrap64 ((i : Int) + 1) = ((i + 1 : Nat) : Int) from wrap_succ (by omega))
    simp only [E4.out, E5.out, E3.out, Int.toNat_natCast]
    have HR := Aside0.mk hr
    have HU1 := Aside0.mk hu1
    have HU2 := Aside0.mk hu2
    have HU3 := Aside0.mk hu3
    have HT := Aside0.mk ht
    clear hr hu1 hu2 hu3 ht hby hz hzz he htq
    refine ev_pos (by omega) ?_
    refine ev_pos (by omega) ?_
    refine ev_pos (by omega) ?_
    refine ev_pos (by omega) ?_
    refine ev_pos (by omega) ?_
    refine Ev.bind HU1.out ?_
    refine ev_pos (by omega) ?_
    refine ev_pos (by omega) ?_
    refine Ev.bind HU2.out ?_
    refine ev_pos (by omega) ?_
    refine ev_pos (by omega) ?_
    refine ev_val HT.out ?_
    refine Ev.bind HU3.out ?_
    refine ev_pos (by omega) ?_
    refine ev_pos (by omega) ?_
    exact HR.out
theorem unmixed_ev (parts : List S70) (P : Nat) (hp : Turns parts P) (hP : P ≤ 500) (e0 e1 e2 : Int) (he : e0 ≤ 100) : ∀ (j c : Nat), 0 < c → 2 ^ j * c = 2 * P → ∀ x1 x2 : List Int, x1.length = 2 ^ j → x2.length = 2 ^ j →
    ∃ r, Ev (fun k => shawmref07_rows_unmixed.f k ((2 * P : Nat) : Int) parts e0 e1 e2 x1 x2) r ∧ r.1.length = 2 ^ j ∧ r.2.length = 2 ^ j ∧ (AllZ x1 ∧ AllZ x2 → AllZ r.1 ∧ AllZ r.2) := by
  intro j
  induction j with
  | zero =>
    intro c hc hM x1 x2 h1 h2
    refine ⟨([rd x1 0], [rd x2 0]), Ev.step (fun k => by rw [shawmref07_rows_unmixed.f]) ?_, rfl, rfl, fun z => ?_⟩
    · have h1' : x1.length = 1 := h1
      have h2' : x2.length = 1 := h2
      refine ev_pos (by omega) (ev_pos (by omega) (ev_pos (by omega) (Ev.now _)))
    · have z1 : rd x1 0 = 0 := z.1 0
      have z2 : rd x2 0 = 0 := z.2 0
      rw [z1, z2]
      exact ⟨allz_rep 1, allz_rep 1⟩
  | succ j ih =>
    intro c hc hM x1 x2 h1 h2
    obtain ⟨h, hh⟩ : ∃ h, h = 2 ^ j := ⟨_, rfl⟩
    have hpos : 0 < h := by rw [hh]; exact Nat.pow_pos (by omega)
    have e2h : 2 ^ (j + 1) = 2 * h := by rw [Nat.pow_succ, hh, Nat.mul_comm]
    rw [e2h] at hM h1 h2 ⊢
    rw [← hh] at ih
    have hM2 : h * (2 * c) = 2 * P := by rw [← hM, Nat.mul_comm 2 h, Nat.mul_assoc]
    have hhc : h * c = P := by
      have : 2 * (h * c) = 2 * P := by rw [← hM, Nat.mul_assoc]
      omega
    have hle : h ≤ h * c := Nat.le_mul_of_pos_right h hc
    have hh5 : h ≤ 500 := by omega
    have hf := rows_ev parts ((2 * P : Nat) : Int) e0 e1 e2 he (fun r => r.1.length = 2 * h ∧ r.2.length = 2 * h ∧ (AllZ x1 ∧ AllZ x2 → AllZ r.1 ∧ AllZ r.2)) h (by omega) x1 x2 h1 h2
      (fun i hi => by
        have := by_ev c h parts (by rw [hhc]; exact hp) e0 e1 e2 hc (by rw [hM]; omega) i hi
        rw [hM] at this
        exact this)
      (AllZ x1 ∧ AllZ x2) (fun z => z) (fun a b c' d ha hb hc' hd hz => by
        obtain ⟨r1, g1, l1, l2, z1⟩ := ih (2 * c) (by omega) hM2 a b ha hb
        obtain ⟨r2, g2, l3, l4, z2⟩ := ih (2 * c) (by omega) hM2 c' d hc' hd
        obtain ⟨r, g, l5, l6, z⟩ := weave_ev (AllZ x1 ∧ AllZ x2) h (by omega) r1.1 r1.2 r2.1 r2.2 l1 l2 l3 l4 (fun z => ⟨(z1 ⟨(hz z).1, (hz z).2.1⟩).1, (z1 ⟨(hz z).1, (hz z).2.1⟩).2, (z2 ⟨(hz z).2.2.1, (hz z).2.2.2⟩).1, (z2 ⟨(hz z).2.2.1, (hz z).2.2.2⟩).2⟩)
          h 0 (List.replicate (2 * h) 0) (List.replicate (2 * h) 0) (by omega) (by simp) (by simp) (fun _ => ⟨allz_rep _, allz_rep _⟩)
        refine ⟨r, ?_, l5, l6, z⟩
        have G := Aside0.mk g
        have G1 := Aside0.mk g1
        have G2 := Aside0.mk g2
        clear g g1 g2 z z1 z2 hz ih
        refine Ev.bind G1.out ?_
        refine Ev.bind G2.out ?_
        refine ev_pos (by omega) ?_
        refine ev_pos (by rw [Int.toNat_natCast]; omega) ?_
        rw [Int.toNat_natCast]
        exact G.out)
      h 0 (List.replicate h 0) (List.replicate h 0) (List.replicate h 0) (List.replicate h 0) (by omega) (by simp) (by simp) (by simp) (by simp) (fun _ => ⟨allz_rep _, allz_rep _, allz_rep _, allz_rep _⟩)
    obtain ⟨r, hr, hq⟩ := hf
    refine ⟨r, Ev.step (fun k => by rw [shawmref07_rows_unmixed.f]) ?_, hq⟩
    have HR := Aside0.mk hr
    clear hr hq ih
    have E1 := Aside0.mk (show wrap64 ((x1.length : Int) / 2) = (h : Int) from by rw [h1]; unfold wrap64; omega)
    simp only [E1.out, Int.toNat_natCast]
    refine ev_neg (by omega) ?_
    refine ev_pos (by omega) ?_
    refine ev_pos (by omega) ?_
    rw [h1]
    exact HR.out
/-- The last step of a transform back. -/
theorem ends_ev (ends : List S70) (H : Nat) (hH : H ≤ 1000) (hE : Turns ends H) (m : Int) (parts : List S70) (e0 e1 e2 : Int) (Z : Prop) (a b : List Int) (ha : a.length = H) (hb : b.length = H) (hz : Z → AllZ a ∧ AllZ b) :
    ∀ (e i : Nat) (x : List Int), i + e = H → x.length = 2 * H → (Z → AllZ x) →
      ∃ r, Ev (fun k => shawmref07_Plan_Back.l1 k ((2 * H : Nat) : Int) a b x (H : Int) (i : Int) ends m parts e0 e1 e2) r ∧ r.length = 2 * H ∧ (Z → AllZ r) := by
  intro e
  induction e with
  | zero =>
    intro i x hi hx hxz
    refine ⟨x, Ev.step (fun k => by rw [shawmref07_Plan_Back.l1]) ?_, hx, hxz⟩
    exact ev_neg (by omega) (Ev.now _)
  | succ e ih =>
    intro i x hi hx hxz
    obtain ⟨u, hu, zu⟩ := back_ev (rd_T70 ends (i : Int)).f0 (rd_T70 ends (i : Int)).f1 (rd_T70 ends (i : Int)).f2 (rd a (i : Int)) (rd b (i : Int)) (hE.2 i (by rw [hE.1]; omega))
    obtain ⟨r, hr, h1, h2⟩ := ih (i + 1) ((x.set (2 * i) u.1).set (2 * H - 1 - 2 * i) u.2) (by omega) (by simp [hx]) (fun z => by
      rw [zu ((hz z).1 i) ((hz z).2 i)]
      exact allz_set (allz_set (hxz z) _) _)
    refine ⟨r, Ev.step (fun k => by rw [shawmref07_Plan_Back.l1]) ?_, h1, h2⟩
    have HE := hE.1
    have HR := Aside0.mk hr
    have HU := Aside0.mk hu
    clear hr hu zu hz hxz ih hE
    have E1 := Aside0.mk (show wrap64 (2 * (i : Int)) = ((2 * i : Nat) : Int) from wrap_in (by omega) (by omega))
    have E2 := Aside0.mk (show wrap64 (wrap64 (((2 * H : Nat) : Int) - 1) - ((2 * i : Nat) : Int)) = ((2 * H - 1 - 2 * i : Nat) : Int) from by
      rw [show wrap64 (((2 * H : Nat) : Int) - 1) = ((2 * H : Nat) : Int) - 1 from wrap_in (by omega) (by omega), wrap_in (by omega) (by omega)]
      omega)
    have E3 := Aside0.mk (show wrap64 ((i : Int) + 1) = ((i + 1 : Nat) : Int) from wrap_succ (by omega))
    simp only [E1.out, E2.out, E3.out, Int.toNat_natCast]
    refine ev_pos (by omega) ?_
    refine ev_pos (by omega) ?_
    refine ev_pos (by omega) ?_
    refine ev_pos (by omega) ?_
    refine ev_pos (by omega) ?_
    refine Ev.bind HU.out ?_
    refine ev_pos (by omega) ?_
    refine ev_pos (by omega) ?_
    refine ev_pos (by omega) ?_
    refine ev_pos (by omega) ?_
    exact HR.out
/-- The first steps of a transform back. -/
theorem begin_ev (ends : List S70) (H : Nat) (hH : H ≤ 1000) (hE : Turns ends H) (m : Int) (parts : List S70) (e0 e1 e2 : Int) (c : List Int) (hc : c.length = 2 * H)
    (hun : ∀ a b : List Int, a.length = H → b.length = H → ∃ r, Ev (fun k => shawmref07_rows_unmixed.f k m parts e0 e1 e2 a b) r ∧ r.1.length = H ∧ r.2.length = H ∧ (AllZ a ∧ AllZ b → AllZ r.1 ∧ AllZ r.2)) :
    ∀ (e i : Nat) (a b : List Int), i + e = H → a.length = H → b.length = H → (AllZ c → AllZ a ∧ AllZ b) →
      ∃ r, Ev (fun k => shawmref07_Plan_Back.l0 k c ((2 * H : Nat) : Int) a b (H : Int) (i : Int) ends m parts e0 e1 e2) r ∧ r.length = 2 * H ∧ (AllZ c → AllZ r) := by
  intro e
  induction e with
  | zero =>
    intro i a b hi ha hb hab
    obtain ⟨r1, g1, l1, l2, z1⟩ := hun a b ha hb
    obtain ⟨r, g, l3, z⟩ := ends_ev ends H hH hE m parts e0 e1 e2 (AllZ c) r1.1 r1.2 l1 l2 (fun z => z1 (hab z)) H 0 (List.replicate (2 * H) 0) (by omega) (by simp) (fun _ => allz_rep _)
    refine ⟨r, Ev.step (fun k => by rw [shawmref07_Plan_Back.l0]) ?_, l3, z⟩
    have G := Aside0.mk g
    have G1 := Aside0.mk g1
    clear g g1 z z1 hun hab
    have E4 := Aside0.mk (show wrap64 (Int.tdiv ((2 * H : Nat) : Int) 2) = (H : Int) from by
      rw [Int.tdiv_eq_ediv_of_nonneg (by omega)]
      unfold wrap64
      omega)
    simp only [E4.out, Int.toNat_natCast]
    refine ev_neg (by omega) ?_
    refine Ev.bind G1.out ?_
    refine ev_pos (by omega) ?_
    refine ev_pos (by omega) ?_
    exact G.out
  | succ e ih =>
    intro i a b hi ha hb hab
    obtain ⟨u, hu, zu⟩ := back_ev (rd_T70 ends (i : Int)).f0 (rd_T70 ends (i : Int)).f1 (rd_T70 ends (i : Int)).f2 (rd c ((2 * i : Nat) : Int)) (wrap64 (-(rd c ((2 * H - 1 - 2 * i : Nat) : Int)))) (hE.2 i (by rw [hE.1]; omega))
    obtain ⟨r, hr, h1, h2⟩ := ih (i + 1) (a.set i u.1) (b.set i u.2) (by omega) (by simp [ha]) (by simp [hb]) (fun z => by
      rw [zu (z _) (by rw [z]; exact wrap_neg_zero)]
      exact ⟨allz_set (hab z).1 _, allz_set (hab z).2 _⟩)
    refine ⟨r, Ev.step (fun k => by rw [shawmref07_Plan_Back.l0]) ?_, h1, h2⟩
    have HE := hE.1
    have HR := Aside0.mk hr
    have HU := Aside0.mk hu
    clear hr hu zu hab ih hE hun
    have E1 := Aside0.mk (show wrap64 (2 * (i : Int)) = ((2 * i : Nat) : Int) from wrap_in (by omega) (by omega))
    have E2 := Aside0.mk (show wrap64 (wrap64 (((2 * H : Nat) : Int) - 1) - ((2 * i : Nat) : Int)) = ((2 * H - 1 - 2 * i : Nat) : Int) from by
      rw [show wrap64 (((2 * H : Nat) : Int) - 1) = ((2 * H : Nat) : Int) - 1 from wrap_in (by omega) (by omega), wrap_in (by omega) (by omega)]
      omega)
    have E3 := Aside0.mk (show wrap64 ((i : Int) + 1) = ((i + 1 : Nat) : Int) from wrap_succ (by omega))
    simp only [E1.out, E2.out, E3.out, Int.toNat_natCast]
    refine ev_pos (by omega) ?_
    refine ev_pos (by omega) ?_
    refine ev_pos (by omega) ?_
    refine ev_pos (by omega) ?_
    refine ev_pos (by omega) ?_
    refine ev_pos (by omega) ?_
    refine ev_pos (by omega) ?_
    refine Ev.bind HU.out ?_
    refine ev_pos (by omega) ?_
    refine ev_pos (by omega) ?_
    exact HR.out
def backOf (p : PlanT) (k : Nat) (c : List Int) : Option (List Int) := shawmref07_Plan_Back.f k p.1 p.2.1 p.2.2.1 p.2.2.2.1 p.2.2.2.2.1 p.2.2.2.2.2 c
/-- The transform back of a list of the size. -/
theorem planback_ev (p : PlanT) (h j : Nat) (hp : Plan p h) (hj : 2 ^ j = 2 * h) (hh : h ≤ 500) (c : List Int) (hc : c.length = 4 * h) : ∃ r, Ev (fun k => backOf p k c) r ∧ r.length = 4 * h ∧ (AllZ c → AllZ r) := by
  have h4 : 4 * h = 2 * (2 * h) := by omega
  rw [h4] at hc ⊢
  obtain ⟨r, hr, h1, h2⟩ := begin_ev p.1 (2 * h) (by omega) hp.ends ((2 * h : Nat) : Int) p.2.2.1 p.2.2.2.1 p.2.2.2.2.1 p.2.2.2.2.2 c hc
    (fun a b ha hb => by
      have := unmixed_ev p.2.2.1 h hp.parts hh p.2.2.2.1 p.2.2.2.2.1 p.2.2.2.2.2 hp.eight j 1 (by omega) (by omega) a b (by omega) (by omega)
      rw [hj] at this
      exact this)
    (2 * h) 0 (List.replicate (2 * h) 0) (List.replicate (2 * h) 0) (by omega) (by simp) (by simp) (fun _ => ⟨allz_rep _, allz_rep _⟩)
  refine ⟨r, ?_, h1, h2⟩
  have HR := Aside0.mk hr
  clear hr h2
  unfold backOf shawmref07_Plan_Back.f
  have E1 := Aside0.mk (show wrap64 ((c.length : Int) / 2) = ((2 * h : Nat) : Int) from by rw [hc]; unfold wrap64; omega)
  simp only [E1.out, Int.toNat_natCast, hp.m]
  refine ev_pos (by omega) ?_
  refine ev_pos (by omega) ?_
  rw [hc]
  exact HR.out
end Go.Proofs.Ytooipbjdpajmmaa.Laps
