/- Plain lemmas on folding: where pairs are turned, what is 0 stays 0 beside the places that other numbers reach. No conditions beyond each lemma's own. -/
import Derived.Test.YtooipbjdpajmmaaS
import Derived.Test.YtooipbjdpajmmaaHlx18
namespace Go.Proofs.Ytooipbjdpajmmaa.Laps
open Go.RowKit Go.Proofs.Ytooipbjdpajmmaa.Hl Go.Proofs.YtooipbjdpajmmaaW.PrintWords Go.Proofs.YtooipbjdpajmmaaW.PrintLast

theorem down_some (v : Int) : ∃ r, shawmref03_Down.f v 16384 = some r := by
  unfold shawmref03_Down.f
  rw [if_neg (by decide)]
  split <;> exact ⟨_, rfl⟩
theorem R_some (v : Int) : ∃ r, shawmref06_R.f v = some r := by
  obtain ⟨d, hd⟩ := down_some v
  unfold shawmref06_R.f shawmref03_Near.f
  rw [hd]
  simp only [Option.bind_some]
  split <;> exact ⟨_, rfl⟩
theorem R_zero : shawmref06_R.f 0 = some 0 := by decide +kernel
theorem wrap_zero : wrap64 0 = 0 := by decide +kernel
theorem quarters_some (q : Int) (hq : q ≤ 100) : ∀ (d k : Nat) (x y i : Int), 0 ≤ i → q - i ≤ (d : Int) → d < k → ∃ r, shawmref06_Factors_Back.l0 k x y q i = some r ∧ (x = 0 → y = 0 → r = (0, 0)) := by
  intro d
  induction d with
  | zero =>
    intro k x y i hi hd hk
    obtain ⟨k, rfl⟩ : ∃ m, k = m + 1 := ⟨k - 1, by omega⟩
    refine ⟨(x, y), ?_, fun h1 h2 => by rw [h1, h2]⟩
    rw [shawmref06_Factors_Back.l0, if_neg (by omega)]
  | succ d ih =>
    intro k x y i hi hd hk
    obtain ⟨k, rfl⟩ : ∃ m, k = m + 1 := ⟨k - 1, by omega⟩
    by_cases h : i < q
    · have hw : wrap64 (i + 1) = i + 1 := wrap_in (by omega) (by omega)
      obtain ⟨r, hr, hz⟩ := ih k y (wrap64 (-x)) (i + 1) (by omega) (by omega) (by omega)
      refine ⟨r, ?_, fun h1 h2 => hz h2 ?_⟩
      · rw [shawmref06_Factors_Back.l0, if_pos h, hw, hr]
      · rw [h1]; exact wrap_zero
    · refine ⟨(x, y), ?_, fun h1 h2 => by rw [h1, h2]⟩
      rw [shawmref06_Factors_Back.l0, if_neg h]
theorem back_some (q a b x y : Int) (hq : q ≤ 100) : ∃ u, shawmref06_Factors_Back.f 300 q a b x y = some u := by
  unfold shawmref06_Factors_Back.f
  obtain ⟨r1, h1⟩ := R_some (wrap64 (a * y))
  rw [h1]
  simp only [Option.bind_some]
  obtain ⟨r2, h2⟩ := R_some (wrap64 (b * wrap64 (x + r1)))
  rw [h2]
  simp only [Option.bind_some]
  obtain ⟨r3, h3⟩ := R_some (wrap64 (a * wrap64 (y - r2)))
  rw [h3]
  simp only [Option.bind_some]
  obtain ⟨r, hr, _⟩ := quarters_some q hq 200 300 (wrap64 (wrap64 (x + r1) + r3)) (wrap64 (y - r2)) 0 (by omega) (by omega) (by omega)
  exact ⟨r, hr⟩
theorem back_zero (q a b : Int) (hq : q ≤ 100) : shawmref06_Factors_Back.f 300 q a b 0 0 = some (0, 0) := by
  unfold shawmref06_Factors_Back.f
  obtain ⟨r, hr, hz⟩ := quarters_some q hq 200 300 0 0 0 (by omega) (by omega) (by omega)
  rw [hz rfl rfl] at hr
  simp only [Int.mul_zero, Int.add_zero, Int.sub_zero, wrap_zero, R_zero, Option.bind_some, hr]
/-- What a list holds where one place was set. -/
theorem rd_set (x : List Int) (a j : Nat) (v : Int) (h : j ≠ a) : rd (x.set a v) (j : Int) = rd x (j : Int) := by
  unfold rd
  rw [Int.toNat_natCast, List.getD_eq_getElem?_getD, List.getD_eq_getElem?_getD, List.getElem?_set_ne (by omega)]
theorem rd_set_at (x : List Int) (a : Nat) (v : Int) (h : a < x.length) : rd (x.set a v) (a : Int) = v := by
  unfold rd
  rw [Int.toNat_natCast, List.getD_eq_getElem?_getD, List.getElem?_set_self h]
  rfl
theorem pair_some (t : S70) (hq : t.f0 ≤ 100) (x : List Int) (p i : Int) (h0 : 0 ≤ p - 1 - i) (h1 : p + i < (x.length : Int)) (hi : 0 ≤ i) :
    ∃ y, shawmref08_folded.pair t p i x = some y ∧ y.length = x.length ∧ (∀ j : Nat, (j : Int) ≠ p - 1 - i → (j : Int) ≠ p + i → rd y (j : Int) = rd x (j : Int)) ∧
      (rd x (p - 1 - i) = 0 → rd x (p + i) = 0 → ∀ j : Nat, rd y (j : Int) = rd x (j : Int)) := by
  obtain ⟨a, ha⟩ := Int.eq_ofNat_of_zero_le h0
  obtain ⟨b, hb⟩ := Int.eq_ofNat_of_zero_le (show 0 ≤ p + i by omega)
  obtain ⟨u, hu⟩ := back_some t.f0 t.f1 t.f2 (rd x (p - 1 - i)) (rd x (p + i)) hq
  refine ⟨(x.set a u.1).set b u.2, ?_, by simp, fun j hj1 hj2 => ?_, fun z1 z2 j => ?_⟩
  · unfold shawmref08_folded.pair
    rw [if_pos ⟨h0, h1⟩, hu, ha, hb]
    rfl
  · rw [rd_set _ _ _ _ (by omega), rd_set _ _ _ _ (by omega)]
  · rw [z1, z2, back_zero _ _ _ hq] at hu
    injection hu with hu
    subst hu
    rw [ha] at z1
    rw [hb] at z2
    by_cases e2 : j = b
    · subst e2
      rw [rd_set_at _ _ _ (by simp; omega), z2]
    · rw [rd_set _ _ _ _ e2]
      by_cases e1 : j = a
      · subst e1
        rw [rd_set_at _ _ _ (by omega), z1]
      · rw [rd_set _ _ _ _ e1]
theorem turns_some (ts : List S70) (hq : ∀ i : Nat, i < ts.length → (rd_T70 ts (i : Int)).f0 ≤ 100) (x : List Int) (p : Int) : ∀ n : Nat, n ≤ ts.length → (n : Int) ≤ p → p + (n : Int) ≤ (x.length : Int) →
    ∃ y, shawmref08_folded.turns ts p x n = some y ∧ y.length = x.length ∧ (∀ j : Nat, ¬ (p - (n : Int) ≤ (j : Int) ∧ (j : Int) < p + (n : Int)) → rd y (j : Int) = rd x (j : Int)) ∧
      ((∀ j : Nat, p - (n : Int) ≤ (j : Int) → (j : Int) < p + (n : Int) → rd x (j : Int) = 0) → ∀ j : Nat, rd y (j : Int) = rd x (j : Int)) := by
  intro n
  induction n with
  | zero => intro _ _ _; exact ⟨x, rfl, rfl, fun _ _ => rfl, fun _ _ => rfl⟩
  | succ n ih =>
    intro h1 h2 h3
    obtain ⟨y, hy, hl, hk, hz⟩ := ih (by omega) (by omega) (by omega)
    obtain ⟨z, hz1, hl1, hk1, hz2⟩ := pair_some (rd_T70 ts (n : Int)) (hq n (by omega)) y p (n : Int) (by omega) (by omega) (by omega)
    refine ⟨z, ?_, hl1.trans hl, fun j hj => ?_, fun h j => ?_⟩
    · rw [shawmref08_folded.turns, hy]; exact hz1
    · rw [hk1 j (by omega) (by omega), hk j (by omega)]
    · have hzz := hz (fun j ha hb => h j (by omega) (by omega))
      obtain ⟨a, ha⟩ := Int.eq_ofNat_of_zero_le (show 0 ≤ p - 1 - (n : Int) by omega)
      obtain ⟨b, hb⟩ := Int.eq_ofNat_of_zero_le (show 0 ≤ p + (n : Int) by omega)
      rw [hz2 (by rw [ha, hzz a]; exact h a (by omega) (by omega)) (by rw [hb, hzz b]; exact h b (by omega) (by omega)) j, hzz j]
/-- A list is 0 but for the places from lo to hi. -/
def Zo (x : List Int) (lo hi : Int) : Prop := ∀ j : Nat, ¬ (lo ≤ (j : Int) ∧ (j : Int) < hi) → rd x (j : Int) = 0
/-- How far a lap behind block k reaches. -/
def half (lay : List Int) (k : Nat) : Int := if min (rd lay (k : Int)) (rd lay ((k : Int) + 1)) = 128 then 64 else 8
/-- Where block k begins, and from where to where numbers other than 0 may be once the laps ahead of it are turned, if they were in frame f. -/
def sup (lay : List Int) (f : Int) : Nat → Int × Int × Int
  | 0 => (0, 128 * f, 128 * f + 128)
  | k + 1 =>
    if (sup lay f k).2.1 < (sup lay f k).1 + rd lay (k : Int) + half lay k ∧ (sup lay f k).1 + rd lay (k : Int) - half lay k < (sup lay f k).2.2
    then ((sup lay f k).1 + rd lay (k : Int), min (sup lay f k).2.1 ((sup lay f k).1 + rd lay (k : Int) - half lay k), max (sup lay f k).2.2 ((sup lay f k).1 + rd lay (k : Int) + half lay k))
    else ((sup lay f k).1 + rd lay (k : Int), (sup lay f k).2.1, (sup lay f k).2.2)
/-- The lap behind block k has its places. -/
def okAt (lay : List Int) (f n : Int) (k : Nat) : Prop := (0 ≤ rd lay (k : Int) ∧ rd lay (k : Int) ≤ 65536) ∧ half lay k ≤ (sup lay f k).1 + rd lay (k : Int) ∧ (sup lay f k).1 + rd lay (k : Int) + half lay k ≤ n
/-- What is known of the factors of a lap's turns. -/
def Turns (ts : List S70) (n : Nat) : Prop := ts.length = n ∧ ∀ i : Nat, i < ts.length → (rd_T70 ts (i : Int)).f0 ≤ 100
theorem places_some (ts tl : List S70) (hts : Turns ts 8) (htl : Turns tl 64) (lay x : List Int) (f : Int) (hx : Zo x (128 * f) (128 * f + 128)) : ∀ k : Nat, (∀ j : Nat, j < k → okAt lay f (x.length : Int) j) →
    ∃ y, shawmref08_folded.places ts tl lay x k = some ((sup lay f k).1, y) ∧ y.length = x.length ∧ Zo y (sup lay f k).2.1 (sup lay f k).2.2 := by
  intro k
  induction k with
  | zero => intro _; exact ⟨x, rfl, rfl, hx⟩
  | succ k ih =>
    intro h
    obtain ⟨y, hy, hl, hz⟩ := ih (fun j hj => h j (by omega))
    obtain ⟨⟨b1, b2⟩, b3, b4⟩ := h k (by omega)
    obtain ⟨tt, htt⟩ : ∃ tt, tt = shawmref08_folded.which ts tl lay k := ⟨_, rfl⟩
    have hT : Turns tt (half lay k).toNat ∧ 0 ≤ half lay k := by
      rw [htt]
      unfold shawmref08_folded.which half
      split
      · exact ⟨htl, by omega⟩
      · exact ⟨hts, by omega⟩
    obtain ⟨⟨hn, hq⟩, hh⟩ := hT
    obtain ⟨H, hH⟩ := Int.eq_ofNat_of_zero_le hh
    have hn2 : tt.length = H := by rw [hn, hH]; rfl
    obtain ⟨z, hz1, hl1, hk1, hz2⟩ := turns_some tt hq y ((sup lay f k).1 + rd lay (k : Int)) tt.length (Nat.le_refl _) (by omega) (by omega)
    rw [hn2] at hk1 hz2
    refine ⟨z, ?_, hl1.trans hl, ?_⟩
    · rw [shawmref08_folded.places, hy]
      simp only [Option.bind_some]
      rw [if_pos ⟨b1, b2⟩, ← htt, hz1]
      simp only [Option.bind_some]
      rw [sup]
      split <;> rfl
    · rw [sup]
      rw [hH] at *
      by_cases c : (sup lay f k).2.1 < (sup lay f k).1 + rd lay (k : Int) + (H : Int) ∧ (sup lay f k).1 + rd lay (k : Int) - (H : Int) < (sup lay f k).2.2
      · rw [if_pos c]
        intro j hj
        simp only at hj
        rw [hk1 j (by omega)]
        exact hz j (by omega)
      · rw [if_neg c]
        intro j hj
        simp only at hj
        rw [hz2 (fun i hi1 hi2 => hz i (by omega)) j]
        exact hz j hj
theorem folded_some (ts tl : List S70) (h16 : shawmref08_laps.f 300 16 = some ts) (h128 : shawmref08_laps.f 300 128 = some tl) (hts : Turns ts 8) (htl : Turns tl 64) (lay x : List Int) (f : Int) (hx : Zo x (128 * f) (128 * f + 128))
    (h0 : 0 < x.length) (h1 : x.length ≤ 65536) (h2 : lay.length ≤ 512) (hok : ∀ j : Nat, j < lay.length - 1 → okAt lay f (x.length : Int) j) :
    ∃ y, shawmref08_folded.f x lay true = some y ∧ y.length = x.length ∧ Zo y (sup lay f (lay.length - 1)).2.1 (sup lay f (lay.length - 1)).2.2 := by
  obtain ⟨y, hy, hl, hz⟩ := places_some ts tl hts htl lay x f hx (lay.length - 1) hok
  refine ⟨y, ?_, hl, hz⟩
  unfold shawmref08_folded.f
  rw [if_pos ⟨rfl, ⟨h0, h1⟩, h2⟩, h16, h128]
  simp only [Option.bind_some]
  rw [hy]
  rfl
end Go.Proofs.Ytooipbjdpajmmaa.Laps
