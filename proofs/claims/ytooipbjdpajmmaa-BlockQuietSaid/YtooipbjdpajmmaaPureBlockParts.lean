/- For all samples: the program's energies of parts, attacks and flags are the reference's, or both tell the same error. Conditions: those of the given statement, no others. -/
import Derived.Test.YtooipbjdpajmmaaU
import Derived.Test.YtooipbjdpajmmaaHnx12
namespace Go.Proofs.Ytooipbjdpajmmaa.Pure
open Go.RowKit Go.Proofs.Ytooipbjdpajmmaa.Hn Go.Proofs.YtooipbjdpajmmaaW.PrintWords Go.Proofs.YtooipbjdpajmmaaW.PrintLast Go.Proofs.YtooipbjdpajmmaaW.PrintMore

theorem ev_pos {α : Type} {c : Prop} [Decidable c] {f g : Nat → Option α} {r : α} (hc : c) (h : Ev f r) : Ev (fun k => if c then f k else g k) r := Ev.congr (fun _ => if_pos hc) h
theorem ev_neg {α : Type} {c : Prop} [Decidable c] {f g : Nat → Option α} {r : α} (hc : ¬ c) (h : Ev g r) : Ev (fun k => if c then f k else g k) r := Ev.congr (fun _ => if_neg hc) h
theorem awake_ev : Ev (fun k => (shawmlaw09_awake.f).bind fun t => some t) true := ⟨0, fun _ _ => rfl⟩
/-- What Parts and Attacks come to. -/
def parV (l : List Int) : List Int × Int := if checkB l = 0 then (ensOf l (List.range (l.length / 16)), 0) else ([], checkB l)
def attV (l : List Int) : List Int × Int := if checkB l = 0 then ((aSt l (List.range (l.length / 16))).2, 0) else ([], checkB l)
theorem parV_pos {l : List Int} (h : checkB l = 0) : parV l = (ensOf l (List.range (l.length / 16)), 0) := if_pos h
theorem parV_neg {l : List Int} (h : ¬ checkB l = 0) : parV l = ([], checkB l) := if_neg h
theorem attV_pos {l : List Int} (h : checkB l = 0) : attV l = ((aSt l (List.range (l.length / 16))).2, 0) := if_pos h
theorem attV_neg {l : List Int} (h : ¬ checkB l = 0) : attV l = ([], checkB l) := if_neg h
/-! ### the reference's look at samples -/
theorem within_l0 (l : List Int) (hl : l.length ≤ 8192) (d : Nat) : ∀ i : Nat, i + d = l.length → (∀ j : Nat, j < i → -65536 ≤ rd l (j : Int) ∧ rd l (j : Int) ≤ 65536) → Ev (fun k => shawmref06_within.l0 k 65536 l (l.length : Int) (i : Int)) (decide (Samples l)) := by
  induction d with
  | zero =>
    intro i hi hj
    have hs : Samples l := fun j => by
      by_cases h : j < i
      · exact hj j h
      · rw [rd_out l j (by omega)]; omega
    rw [decide_eq_true hs]
    refine Ev.step (f := fun _ => some true) (fun k => ?_) (Ev.now _)
    simp only [shawmref06_within.l0]
    rw [if_neg (by omega)]
  | succ d ih =>
    intro i hi hj
    have hw : wrap64 (-(65536 : Int)) = -65536 := by unfold wrap64; omega
    by_cases h1 : rd l (i : Int) < -65536
    · rw [decide_eq_false (fun hs : Samples l => by have := hs i; omega)]
      refine Ev.step (f := fun _ => some false) (fun k => ?_) (Ev.now _)
      simp only [shawmref06_within.l0]
      rw [if_pos (by omega), if_pos (by omega), if_pos (by omega), hw, if_pos h1]
    · by_cases h2 : rd l (i : Int) > 65536
      · rw [decide_eq_false (fun hs : Samples l => by have := hs i; omega)]
        refine Ev.step (f := fun _ => some false) (fun k => ?_) (Ev.now _)
        simp only [shawmref06_within.l0]
        rw [if_pos (by omega), if_pos (by omega), if_pos (by omega), hw, if_neg h1, if_pos h2]
      · refine Ev.step (fun k => ?_) (ih (i + 1) (by omega) (fun j hlt => ?_))
        · simp only [shawmref06_within.l0]
          rw [if_pos (by omega), if_pos (by omega), if_pos (by omega), hw, if_neg h1, if_neg h2, wrap_succ (by omega)]
        · by_cases e : j = i
          · subst e; omega
          · exact hj j (by omega)
theorem samples_ev (l : List Int) : Ev (fun k => shawmref09_samples.f k l) (checkB l) := by
  unfold shawmref09_samples.f
  have h1 : ∀ b, b = true → Ev (fun k => shawmref09_samples.j0 k l b) 1 := by
    intro b hb
    subst hb
    refine Ev.step (f := fun _ => some 1) (fun k => ?_) (Ev.now _)
    simp only [shawmref09_samples.j0]
    rw [if_pos trivial]
  by_cases hm : (l.length : Int) % 128 > 0
  · refine ev_pos hm ?_
    have : checkB l = 1 := by unfold checkB; rw [if_neg (fun h => by omega)]
    rw [this]
    exact h1 true rfl
  · refine ev_neg hm ?_
    by_cases hl : l.length ≤ 8192
    · have hd : decide ((l.length : Int) > 8192) = false := decide_eq_false (by omega)
      rw [hd]
      have hc : checkB l = if Samples l then 0 else 6 := by unfold checkB; rw [if_pos ⟨by omega, hl⟩]
      refine Ev.step (f := fun k => (shawmref06_Within.f k 65536 l).bind fun t => (if t = true then (some 0) else (some 6))) (fun k => ?_) ?_
      · simp only [shawmref09_samples.j0]
        rw [if_neg (by simp)]
      · have hw : Ev (fun k => shawmref06_Within.f k 65536 l) (decide (Samples l)) := by
          unfold shawmref06_Within.f
          refine Ev.bind (a := decide (Samples l)) ?_ (Ev.now _)
          exact Ev.congr (fun k => rfl) (within_l0 l hl l.length 0 (by omega) (fun j hj => absurd hj (Nat.not_lt_zero j)))
        refine Ev.bind hw ?_
        rw [hc]
        by_cases hs : Samples l
        · rw [if_pos hs, decide_eq_true hs]; exact ev_pos rfl (Ev.now _)
        · rw [if_neg hs, decide_eq_false hs]; exact ev_neg (by simp) (Ev.now _)
    · have hd : decide ((l.length : Int) > 8192) = true := decide_eq_true (by omega)
      have : checkB l = 1 := by unfold checkB; rw [if_neg (fun h => by omega)]
      rw [hd, this]
      exact h1 true rfl
/-! ### the reference's energies -/
def pAt (l : List Int) (p i : Nat) : List Int := (List.range p).map fun j => partSum l j (min 16 (i - 16 * j))
theorem pAt_length (l : List Int) (p i : Nat) : (pAt l p i).length = p := by simp [pAt]
theorem pAt_rd (l : List Int) (p i j : Nat) (h : j < p) : rd (pAt l p i) (j : Int) = partSum l j (min 16 (i - 16 * j)) := by
  rw [rd_lt _ _ (by rw [pAt_length]; exact h)]; simp [pAt]
theorem pAt_step (l : List Int) (p i : Nat) (h : i < 16 * p) :
    (pAt l p i).set (i / 16) (partSum l (i / 16) (i - 16 * (i / 16)) + (rd l (i : Int) - wasAt l i) * (rd l (i : Int) - wasAt l i)) = pAt l p (i + 1) := by
  have he : partSum l (i / 16) (i - 16 * (i / 16)) + (rd l (i : Int) - wasAt l i) * (rd l (i : Int) - wasAt l i) = partSum l (i / 16) (i - 16 * (i / 16) + 1) := by
    simp only [partSum]
    have : 16 * (i / 16) + (i - 16 * (i / 16)) = i := by omega
    rw [this]
  rw [he]
  refine List.ext_getElem (by rw [List.length_set, pAt_length, pAt_length]) (fun j h1 h2 => ?_)
  rw [List.getElem_set]
  have hj : j < p := by rw [pAt_length] at h2; exact h2
  by_cases e : i / 16 = j
  · rw [if_pos e]
    simp only [pAt, List.getElem_map, List.getElem_range]
    subst e
    congr 1
    omega
  · rw [if_neg e]
    simp only [pAt, List.getElem_map, List.getElem_range]
    congr 1
    omega
theorem parts_l0 (l : List Int) (hs : Samples l) (p : Nat) (hp : l.length = 16 * p) (hp2 : p ≤ 512) (d : Nat) : ∀ i : Nat, i + d = l.length → Ev (fun k => shawmref09_Parts.l0 k (pAt l p i) (wasAt l i) l (l.length : Int) (i : Int)) (pAt l p l.length, 0) := by
  induction d with
  | zero =>
    intro i hi
    obtain rfl : i = l.length := by omega
    refine Ev.step (f := fun _ => some (pAt l p l.length, 0)) (fun k => ?_) (Ev.now _)
    simp only [shawmref09_Parts.l0]
    rw [if_neg (by omega)]
  | succ d ih =>
    intro i hi
    have b1 := hs i
    have b2 := hs.was i
    have b3 := partSum_bound hs (i / 16) (i - 16 * (i / 16))
    have hsq := sq_bound (rd l (i : Int)) (wasAt l i) b1.1 b1.2 b2.1 b2.2
    have e1 : wrap64 (Int.tdiv (i : Int) 16) = ((i / 16 : Nat) : Int) := by
      rw [Int.tdiv_eq_ediv_of_nonneg (by omega)]
      unfold wrap64; omega
    have e2 : wrap64 (rd l (i : Int) - wasAt l i) = rd l (i : Int) - wasAt l i := wrap_in (by omega) (by omega)
    have e3 : wrap64 ((rd l (i : Int) - wasAt l i) * (rd l (i : Int) - wasAt l i)) = (rd l (i : Int) - wasAt l i) * (rd l (i : Int) - wasAt l i) := wrap_in (by omega) (by omega)
    have hm : min 16 (i - 16 * (i / 16)) = i - 16 * (i / 16) := by omega
    have e4 : rd (pAt l p i) ((i / 16 : Nat) : Int) = partSum l (i / 16) (i - 16 * (i / 16)) := by rw [pAt_rd l p i (i / 16) (by omega), hm]
    have e5 : wrap64 (partSum l (i / 16) (i - 16 * (i / 16)) + (rd l (i : Int) - wasAt l i) * (rd l (i : Int) - wasAt l i)) = partSum l (i / 16) (i - 16 * (i / 16)) + (rd l (i : Int) - wasAt l i) * (rd l (i : Int) - wasAt l i) := wrap_in (by omega) (by omega)
    have hw : wasAt l (i + 1) = rd l (i : Int) := by unfold wasAt; rw [if_neg (by omega)]; rfl
    refine Ev.step (fun k => ?_) (ih (i + 1) (by omega))
    simp only [shawmref09_Parts.l0]
    rw [if_pos (by omega), if_pos (by omega), if_pos (by omega), e1, if_pos (by omega), if_pos (by rw [pAt_length]; omega), e2, e3, e4, e5, Int.toNat_natCast, pAt_step l p i (by omega), wrap_succ (by omega), hw]
theorem pAt_zero (l : List Int) (p : Nat) : pAt l p 0 = List.replicate p 0 := by
  refine List.ext_getElem (by simp [pAt]) (fun j h1 h2 => ?_)
  simp [pAt, partSum]
theorem pAt_all (l : List Int) (p : Nat) (hp : l.length = 16 * p) : pAt l p l.length = ensOf l (List.range p) := by
  unfold pAt ensOf
  refine List.map_congr_left (fun j hj => ?_)
  have : j < p := List.mem_range.1 hj
  unfold energyOf
  congr 1
  omega
theorem refParts_ev (l : List Int) : Ev (fun k => shawmref09_Parts.f k l) (parV l) := by
  unfold shawmref09_Parts.f
  refine Ev.bind (samples_ev l) ?_
  by_cases hz : checkB l = 0
  · obtain ⟨hs, hm, hle⟩ := checkB_zero hz
    obtain ⟨p, hp⟩ : ∃ p, l.length = 16 * p := ⟨l.length / 16, by omega⟩
    have hpd : l.length / 16 = p := by omega
    have e1 : wrap64 ((l.length : Int) / 16) = (p : Int) := by unfold wrap64; omega
    rw [parV_pos hz, hpd]
    refine ev_pos hz ?_
    rw [e1, Int.toNat_natCast]
    refine ev_pos (by omega) (ev_pos (by omega) ?_)
    rw [← pAt_all l p hp, ← pAt_zero l p]
    exact Ev.congr (fun k => rfl) (parts_l0 l hs p hp (by omega) l.length 0 (by omega))
  · rw [parV_neg hz]
    exact ev_neg hz (Ev.now _)
/-! ### the reference's attacks -/
def bf (l : List Int) : Nat → Nat → Int
  | 0, _ => 0
  | j + 1, k => if j % 4 = k then energyOf l j else bf l j k
theorem aSt_bf (l : List Int) (j k : Nat) : (aSt l (List.range j)).1 k = bf l j k := by
  induction j with
  | zero => rfl
  | succ j ih => rw [List.range_succ, aSt_snoc]; simp only [aStep, bf]; rw [ih]
/-- The sum of d energies from i on. -/
def sumE (l : List Int) (i : Nat) : Nat → Int
  | 0 => 0
  | d + 1 => energyOf l i + sumE l (i + 1) d
theorem ring_sum (l : List Int) (j : Nat) : bf l j 0 + bf l j 1 + bf l j 2 + bf l j 3 = sumE l (j - 4) (j - (j - 4)) := by
  have h : j = 0 ∨ j = 1 ∨ j = 2 ∨ j = 3 ∨ ∃ m, j = m + 4 := by
    by_cases h4 : 4 ≤ j
    · exact .inr (.inr (.inr (.inr ⟨j - 4, by omega⟩)))
    · omega
  rcases h with rfl | rfl | rfl | rfl | ⟨m, rfl⟩
  · simp [bf, sumE]
  · simp [bf, sumE]
  · simp [bf, sumE]
  · simp [bf, sumE]; omega
  · have e1 : m + 4 - 4 = m := by omega
    have e2 : m + 4 - m = 4 := by omega
    rw [e1, e2]
    have e3 : m + 1 + 1 = m + 2 := rfl
    have e4 : m + 2 + 1 = m + 3 := rfl
    simp only [sumE, e3, e4]
    have hr : m % 4 = 0 ∨ m % 4 = 1 ∨ m % 4 = 2 ∨ m % 4 = 3 := by omega
    rcases hr with hr | hr | hr | hr
    · have h1 : (m + 1) % 4 = 1 := by omega
      have h2 : (m + 2) % 4 = 2 := by omega
      have h3 : (m + 3) % 4 = 3 := by omega
      simp [bf, hr, h1, h2, h3]; omega
    · have h1 : (m + 1) % 4 = 2 := by omega
      have h2 : (m + 2) % 4 = 3 := by omega
      have h3 : (m + 3) % 4 = 0 := by omega
      simp [bf, hr, h1, h2, h3]; omega
    · have h1 : (m + 1) % 4 = 3 := by omega
      have h2 : (m + 2) % 4 = 0 := by omega
      have h3 : (m + 3) % 4 = 1 := by omega
      simp [bf, hr, h1, h2, h3]; omega
    · have h1 : (m + 1) % 4 = 0 := by omega
      have h2 : (m + 2) % 4 = 1 := by omega
      have h3 : (m + 3) % 4 = 2 := by omega
      simp [bf, hr, h1, h2, h3]; omega
theorem sumE_bound {l : List Int} (hs : Samples l) (d : Nat) : ∀ i, 0 ≤ sumE l i d ∧ sumE l i d ≤ 274877906944 * (d : Int) := by
  induction d with
  | zero => intro i; simp [sumE]
  | succ d ih => intro i; have := ih (i + 1); have := energy_bound hs i; simp only [sumE]; omega
theorem ens_rd (l : List Int) (p j : Nat) (h : j < p) : rd (ensOf l (List.range p)) (j : Int) = energyOf l j := by
  rw [rd_lt _ _ (by rw [ensOf_length, List.length_range]; exact h)]; simp [ensOf]
theorem attack_test {s e : Int} (h0 : 0 ≤ s) (h1 : s ≤ 1099511627776) : wrap64 (wrap64 (8 * wrap64 (Int.tdiv s 4)) + 65536) = 8 * (s / 4) + 65536 := by
  rw [Int.tdiv_eq_ediv_of_nonneg h0]
  have : wrap64 (s / 4) = s / 4 := wrap_in (by omega) (by omega)
  rw [this]
  unfold wrap64; omega
theorem refAtt_l1 (l : List Int) (hs : Samples l) (p : Nat) (hp2 : p ≤ 512) (j : Nat) (hj : j < p) (out : List Int) (hout : out.length ≤ 512) (q : Int) (r : List Int × Int) (d : Nat) :
    ∀ (i : Nat) (acc S : Int), i + d = j → 0 ≤ acc → acc + sumE l i d = S → S ≤ 1099511627776 →
    Ev (fun k => shawmref09_Attacks.l0 k (ensOf l (List.range p)) (if 8 * (S / 4) + 65536 < energyOf l j then out ++ [(j : Int)] else out) (p : Int) ((j + 1 : Nat) : Int)) r →
    Ev (fun k => shawmref09_Attacks.l1 k (ensOf l (List.range p)) out (j : Int) acc (i : Int) (p : Int) (j : Int)) r := by
  have hlen : (ensOf l (List.range p)).length = p := by rw [ensOf_length, List.length_range]
  induction d with
  | zero =>
    intro i acc S hi h0 hS h1 hev
    obtain rfl : i = j := by omega
    simp only [sumE, Int.add_zero] at hS
    subst hS
    refine Ev.step (fun k => ?_) hev
    simp only [shawmref09_Attacks.l1]
    rw [if_neg (by omega), if_pos (by omega), if_pos (by rw [hlen]; omega), ens_rd l p i hj, attack_test (e := 0) h0 h1, wrap_succ (by omega)]
    by_cases ht : 8 * (acc / 4) + 65536 < energyOf l i
    · rw [if_pos ht, if_pos (show energyOf l i > _ from ht), if_pos (by omega)]
    · rw [if_neg ht, if_neg (show ¬ energyOf l i > _ from ht)]
  | succ d ih =>
    intro i acc S hi h0 hS h1 hev
    have b := energy_bound hs i
    have b2 := sumE_bound hs d (i + 1)
    simp only [sumE] at hS
    refine Ev.step (fun k => ?_) (ih (i + 1) (acc + energyOf l i) S (by omega) (by omega) (by omega) h1 hev)
    simp only [shawmref09_Attacks.l1]
    rw [if_pos (by omega), if_pos (by omega), if_pos (by rw [hlen]; omega), ens_rd l p i (by omega), wrap_succ (by omega), wrap_in (by omega) (by omega)]
theorem refAtt_l0 (l : List Int) (hs : Samples l) (p : Nat) (hp2 : p ≤ 512) (d : Nat) : ∀ j : Nat, j + d = p → Ev (fun k => shawmref09_Attacks.l0 k (ensOf l (List.range p)) (aSt l (List.range j)).2 (p : Int) (j : Int)) ((aSt l (List.range p)).2, 0) := by
  induction d with
  | zero =>
    intro j hj
    obtain rfl : j = p := by omega
    refine Ev.step (f := fun _ => some ((aSt l (List.range j)).2, 0)) (fun k => ?_) (Ev.now _)
    simp only [shawmref09_Attacks.l0]
    rw [if_neg (by omega)]
  | succ d ih =>
    intro j hj
    have hout := aSt_length l (List.range j)
    rw [List.length_range] at hout
    have b := sumE_bound hs (j - (j - 4)) (j - 4)
    have hrs := ring_sum l j
    refine Ev.step (f := fun k => shawmref09_Attacks.l1 k (ensOf l (List.range p)) (aSt l (List.range j)).2 (j : Int) 0 ((j - 4 : Nat) : Int) (p : Int) (j : Int)) (fun k => ?_) ?_
    · simp only [shawmref09_Attacks.l0]
      have e : mx 0 (wrap64 ((j : Int) - 4)) = ((j - 4 : Nat) : Int) := by unfold mx wrap64; split <;> omega
      rw [if_pos (by omega), e]
    · refine refAtt_l1 l hs p hp2 j (by omega) _ (by omega) 0 _ (j - (j - 4)) (j - 4) 0 (sumE l (j - 4) (j - (j - 4))) (by omega) (by omega) (by omega) (by omega) ?_
      have e : (if 8 * (sumE l (j - 4) (j - (j - 4)) / 4) + 65536 < energyOf l j then (aSt l (List.range j)).2 ++ [(j : Int)] else (aSt l (List.range j)).2) = (aSt l (List.range (j + 1))).2 := by
        rw [List.range_succ, aSt_snoc]
        simp only [aStep, aSt_bf]
        rw [hrs]
      rw [e]
      exact ih (j + 1) (by omega)
theorem refAttacks_ev (l : List Int) : Ev (fun k => shawmref09_Attacks.f k l) (attV l) := by
  unfold shawmref09_Attacks.f
  refine Ev.bind (refParts_ev l) ?_
  by_cases hz : checkB l = 0
  · obtain ⟨hs, hm, hle⟩ := checkB_zero hz
    rw [parV_pos hz, attV_pos hz]
    refine ev_pos rfl ?_
    have hlen : ((ensOf l (List.range (l.length / 16))).length : Int) = ((l.length / 16 : Nat) : Int) := by rw [ensOf_length, List.length_range]
    simp only [hlen]
    exact Ev.congr (fun k => rfl) (refAtt_l0 l hs (l.length / 16) (by omega) (l.length / 16) 0 (by omega))
  · rw [parV_neg hz, attV_neg hz]
    exact ev_neg hz (Ev.now _)
theorem check_ev (l : List Int) : Ev (fun k => block_check.f k l) (checkB l) := by
  obtain ⟨k, h⟩ := check_tells l
  exact Ev.of (fun k => block_check.mono l k) h
theorem attacks_ev (l : List Int) : Ev (fun k => block_Attacks.f k l) (attV l) := by
  unfold block_Attacks.f
  refine Ev.bind (check_ev l) ?_
  by_cases hz : checkB l = 0
  · rw [attV_pos hz]
    refine ev_pos hz (ev_val (a := (aSt l (List.range (l.length / 16))).2) ?_ (Ev.now _))
    unfold block_attacks.f
    rw [if_pos hz]
  · rw [attV_neg hz]
    exact ev_neg hz (Ev.now _)
/-! ### flags -/
def flagAll (xs : List Bool) (L : List Int) : List Bool := L.foldl (fun xs x => xs.set (x.toNat / 8) true) xs
theorem flagAll_cons (xs : List Bool) (L : List Int) (i : Nat) (h : i < L.length) : flagAll xs (L.drop i) = flagAll (xs.set ((rd L (i : Int)).toNat / 8) true) (L.drop (i + 1)) := by
  unfold flagAll
  rw [List.drop_eq_getElem_cons h, List.foldl_cons, rd_lt L i h]
theorem flag_idx {x : Int} {n : Nat} (h0 : 0 ≤ x) (h1 : x ≤ 1000) : wrap64 (Int.tdiv x 8) = ((x.toNat / 8 : Nat) : Int) := by
  rw [Int.tdiv_eq_ediv_of_nonneg h0]
  unfold wrap64; omega
theorem a_flags (L : List Int) (hL : L.length ≤ 512) (n : Nat) (hx : ∀ i : Nat, i < L.length → 0 ≤ rd L (i : Int) ∧ rd L (i : Int) ≤ 1000 ∧ (rd L (i : Int)).toNat / 8 < n) (d : Nat) : ∀ (i : Nat) (xs : List Bool), i + d = L.length → xs.length = n →
    Ev (fun k => block_Flags.l0 k xs L (L.length : Int) (i : Int)) (flagAll xs (L.drop i), 0) ∧ Ev (fun k => shawmref09_Flags.l0 k xs L (L.length : Int) (i : Int)) (flagAll xs (L.drop i), 0) := by
  induction d with
  | zero =>
    intro i xs hi hn
    have e : flagAll xs (L.drop i) = xs := by rw [List.drop_of_length_le (by omega)]; rfl
    rw [e]
    constructor
    · refine Ev.step (f := fun _ => some (xs, 0)) (fun k => ?_) (Ev.now _)
      simp only [block_Flags.l0]
      rw [if_neg (by omega)]
    · refine Ev.step (f := fun _ => some (xs, 0)) (fun k => ?_) (Ev.now _)
      simp only [shawmref09_Flags.l0]
      rw [if_neg (by omega)]
  | succ d ih =>
    intro i xs hi hn
    obtain ⟨h0, h1, h2⟩ := hx i (by omega)
    have e1 := flag_idx (n := 0) h0 h1
    obtain ⟨ha, hb⟩ := ih (i + 1) (xs.set ((rd L (i : Int)).toNat / 8) true) (by omega) (by rw [List.length_set]; exact hn)
    rw [flagAll_cons xs L i (by omega)]
    constructor
    · refine Ev.step (fun k => ?_) ha
      simp only [block_Flags.l0]
      rw [if_pos (by omega), if_pos (by omega), if_pos (by omega), e1, if_pos (by omega), if_pos (by omega), Int.toNat_natCast, wrap_succ (by omega)]
    · refine Ev.step (fun k => ?_) hb
      simp only [shawmref09_Flags.l0]
      rw [if_pos (by omega), if_pos (by omega), if_pos (by omega), e1, if_pos (by omega), if_pos (by omega), Int.toNat_natCast, wrap_succ (by omega)]
theorem aSt_mem (l : List Int) (j : Nat) : ∀ x ∈ (aSt l (List.range j)).2, 0 ≤ x ∧ x < (j : Int) := by
  induction j with
  | zero => intro x hx; simp [aSt] at hx
  | succ j ih =>
    intro x hx
    rw [List.range_succ, aSt_snoc] at hx
    simp only [aStep] at hx
    split at hx
    · simp only [List.mem_append, List.mem_singleton] at hx
      rcases hx with hx | rfl
      · have := ih x hx; omega
      · omega
    · have := ih x hx; omega
theorem flags_both (l : List Int) : ∃ r : List Bool × Int, r.1.length ≤ 64 ∧ Ev (fun k => block_Flags.f k l) r ∧ Ev (fun k => shawmref09_Flags.f k l) r := by
  by_cases hz : checkB l = 0
  · obtain ⟨hs, hm, hle⟩ := checkB_zero hz
    obtain ⟨n, hn⟩ : ∃ n, l.length = 128 * n := ⟨l.length / 128, by omega⟩
    have e1 : wrap64 ((l.length : Int) / 128) = (n : Int) := by unfold wrap64; omega
    have hL := aSt_length l (List.range (l.length / 16))
    rw [List.length_range] at hL
    have key := a_flags (aSt l (List.range (l.length / 16))).2 (by omega) n (fun i hi => by
      have hmem := aSt_mem l (l.length / 16) (rd (aSt l (List.range (l.length / 16))).2 (i : Int)) (by rw [rd_lt _ _ hi]; exact List.getElem_mem hi)
      omega) (aSt l (List.range (l.length / 16))).2.length 0 (List.replicate n false) (by omega) (by simp)
    refine ⟨(flagAll (List.replicate n false) ((aSt l (List.range (l.length / 16))).2.drop 0), 0), ?_, ?_, ?_⟩
    · have : ∀ (L : List Int) (xs : List Bool), (flagAll xs L).length = xs.length := by
        intro L
        induction L with
        | nil => intro xs; rfl
        | cons x L ih => intro xs; unfold flagAll at ih ⊢; rw [List.foldl_cons, ih, List.length_set]
      simp only [this, List.length_replicate]
      omega
    · unfold block_Flags.f
      refine Ev.bind (check_ev l) ?_
      refine ev_pos hz ?_
      rw [e1, Int.toNat_natCast]
      refine ev_pos (by omega) (ev_pos (by omega) (ev_val (a := (aSt l (List.range (l.length / 16))).2) ?_ ?_))
      · unfold block_attacks.f; rw [if_pos hz]
      · exact Ev.congr (fun k => rfl) key.1
    · unfold shawmref09_Flags.f
      refine Ev.bind (refAttacks_ev l) ?_
      rw [attV_pos hz, e1, Int.toNat_natCast]
      refine ev_pos rfl (ev_pos (by omega) (ev_pos (by omega) ?_))
      exact Ev.congr (fun k => rfl) key.2
  · refine ⟨([], checkB l), by simp, ?_, ?_⟩
    · unfold block_Flags.f
      refine Ev.bind (check_ev l) ?_
      exact ev_neg hz (Ev.now _)
    · unfold shawmref09_Flags.f
      refine Ev.bind (refAttacks_ev l) ?_
      rw [attV_neg hz]
      exact ev_neg hz (Ev.now _)
theorem parts_val (l : List Int) : block_Parts.f l = some (parV l) := by
  unfold block_Parts.f parV
  by_cases hz : checkB l = 0
  · rw [if_pos hz, if_pos hz]
  · rw [if_neg hz, if_neg hz]

theorem BlockParts : shawmlaw09_BlockParts.Pure := by
  intro l _ _ _
  refine Ev.rounds ?_
  unfold shawmlaw09_BlockParts.f
  by_cases hlen : (l.length : Int) > 9000
  · exact ev_pos hlen awake_ev
  · refine ev_neg hlen ?_
    obtain ⟨fr, hfl, hfa, hfb⟩ := flags_both l
    have hPl : (parV l).1.length ≤ 9000 := by
      unfold parV
      split
      · simp only [ensOf_length, List.length_range]; omega
      · simp
    have hAl : (attV l).1.length ≤ 9000 := by
      unfold attV
      split
      · have := aSt_length l (List.range (l.length / 16)); rw [List.length_range] at this; simp only; omega
      · simp
    have h1 := parts_val l
    have h2 := refParts_ev l
    have h3 := attacks_ev l
    have h4 := refAttacks_ev l
    generalize parV l = P at *
    generalize attV l = A at *
    refine ev_val h1 ?_
    refine Ev.bind h2 ?_
    refine Ev.bind h3 ?_
    refine Ev.bind h4 ?_
    refine Ev.bind hfa ?_
    refine Ev.bind hfb ?_
    refine Ev.bind (ints_same P.1 (by omega)) ?_
    refine ev_pos rfl (ev_pos rfl ?_)
    refine Ev.bind (ints_same A.1 (by omega)) ?_
    refine ev_pos rfl (ev_pos rfl ?_)
    refine Ev.bind (bools_same fr.1 (by omega)) ?_
    exact ev_pos rfl (ev_pos rfl awake_ev)

end Go.Proofs.Ytooipbjdpajmmaa.Pure
