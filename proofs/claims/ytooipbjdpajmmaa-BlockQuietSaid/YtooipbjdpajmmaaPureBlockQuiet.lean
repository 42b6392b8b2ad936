/- For all samples: those that are all the same have no attack behind the first part; the attacks up to a part hang on the samples up to its end alone. Conditions: those of the given statement, no others. -/
import Derived.Test.YtooipbjdpajmmaaPureBlockParts
namespace Go.Proofs.Ytooipbjdpajmmaa.Pure
open Go.RowKit Go.Proofs.Ytooipbjdpajmmaa.Hn Go.Proofs.YtooipbjdpajmmaaW.PrintWords Go.Proofs.YtooipbjdpajmmaaW.PrintLast Go.Proofs.YtooipbjdpajmmaaW.PrintMore

theorem was_congr {l l' : List Int} {N : Nat} (h : ∀ i : Nat, i < N → rd l (i : Int) = rd l' (i : Int)) (i : Nat) (hi : i < N) : wasAt l i = wasAt l' i := by
  unfold wasAt
  split
  · rfl
  · exact h (i - 1) (by omega)
theorem part_congr {l l' : List Int} {N : Nat} (h : ∀ i : Nat, i < N → rd l (i : Int) = rd l' (i : Int)) (j m : Nat) (hj : 16 * j + m ≤ N) : partSum l j m = partSum l' j m := by
  induction m with
  | zero => rfl
  | succ m ih => simp only [partSum]; rw [ih (by omega), h (16 * j + m) (by omega), was_congr h (16 * j + m) (by omega)]
theorem energy_congr {l l' : List Int} {N : Nat} (h : ∀ i : Nat, i < N → rd l (i : Int) = rd l' (i : Int)) (j : Nat) (hj : 16 * j + 16 ≤ N) : energyOf l j = energyOf l' j := part_congr h j 16 hj
theorem aSt_congr {l l' : List Int} {N : Nat} (h : ∀ i : Nat, i < N → rd l (i : Int) = rd l' (i : Int)) (m : Nat) (hm : 16 * m ≤ N) : aSt l (List.range m) = aSt l' (List.range m) := by
  induction m with
  | zero => rfl
  | succ m ih =>
    rw [List.range_succ, aSt_snoc, aSt_snoc, ih (by omega)]
    unfold aStep
    rw [energy_congr h m (by omega)]
theorem aSt_split (l : List Int) (m d : Nat) : ∃ R, (aSt l (List.range (m + d))).2 = (aSt l (List.range m)).2 ++ R ∧ ∀ x ∈ R, (m : Int) ≤ x := by
  induction d with
  | zero => exact ⟨[], by simp, by simp⟩
  | succ d ih =>
    obtain ⟨R, h1, h2⟩ := ih
    rw [show m + (d + 1) = (m + d) + 1 from rfl, List.range_succ, aSt_snoc]
    simp only [aStep]
    split
    · refine ⟨R ++ [((m + d : Nat) : Int)], by rw [h1, List.append_assoc], fun x hx => ?_⟩
      simp only [List.mem_append, List.mem_singleton] at hx
      rcases hx with hx | rfl
      · exact h2 x hx
      · omega
    · exact ⟨R, h1, h2⟩
/-- What the count of the attacks up to a part comes to. -/
theorem count_front (l : List Int) (p part : Nat) (hp : part < p) (B D : List Int) (hB : B = (aSt l (List.range p)).2) (hD : D = (aSt l (List.range (part + 1))).2) :
    D.length ≤ B.length ∧ B.take D.length = D ∧ ∀ i : Nat, i < B.length → (rd B (i : Int) ≤ (part : Int) ↔ i < D.length) := by
  obtain ⟨R, h1, h2⟩ := aSt_split l (part + 1) (p - (part + 1))
  have e : part + 1 + (p - (part + 1)) = p := by omega
  rw [e, ← hB, ← hD] at h1
  subst h1
  refine ⟨by simp, by simp, fun i hi => ?_⟩
  rw [rd_lt _ _ hi]
  by_cases hlt : i < D.length
  · rw [List.getElem_append_left hlt]
    have hm : D[i] ∈ (aSt l (List.range (part + 1))).2 := by rw [← hD]; exact List.getElem_mem hlt
    have := aSt_mem l (part + 1) _ hm
    omega
  · rw [List.getElem_append_right (by omega)]
    have hm : R[i - D.length]'(by rw [List.length_append] at hi; omega) ∈ R := List.getElem_mem _
    have := h2 _ hm
    omega
/-! ### the same sample all along -/
theorem rd_rep (v : Int) (n i : Nat) (h : i < n) : rd (List.replicate n v) (i : Int) = v := by rw [rd_lt _ _ (by simpa using h)]; simp
theorem energy_rep (v : Int) (n j : Nat) (h : 16 * j + 16 ≤ n) (hj : 0 < j) : energyOf (List.replicate n v) j = 0 := by
  have key : ∀ m, m ≤ 16 → partSum (List.replicate n v) j m = 0 := by
    intro m
    induction m with
    | zero => intro _; rfl
    | succ m ih =>
      intro hm
      simp only [partSum]
      have e : wasAt (List.replicate n v) (16 * j + m) = v := by
        unfold wasAt
        rw [if_neg (by omega)]
        exact rd_rep v n _ (by omega)
      rw [ih (by omega), e, rd_rep v n _ (by omega)]
      simp
  exact key 16 (by omega)
theorem samples_rep (v : Int) (n : Nat) (h1 : -65536 ≤ v) (h2 : v ≤ 65536) : Samples (List.replicate n v) := by
  intro i
  by_cases h : i < n
  · rw [rd_rep v n i h]; exact ⟨h1, h2⟩
  · rw [rd_out _ _ (by simpa using h)]; omega
theorem aSt_rep (v : Int) (n p : Nat) (hn : 16 * p ≤ n) (h1 : -65536 ≤ v) (h2 : v ≤ 65536) (d : Nat) (hd : d + 1 ≤ p) : (aSt (List.replicate n v) (List.range (1 + d))).2 = (aSt (List.replicate n v) (List.range 1)).2 := by
  induction d with
  | zero => rfl
  | succ d ih =>
    have hs := samples_rep v n h1 h2
    rw [show 1 + (d + 1) = (1 + d) + 1 from rfl, List.range_succ, aSt_snoc]
    simp only [aStep]
    have e := energy_rep v n (1 + d) (by omega) (by omega)
    have b0 := aSt_bound hs (List.range (1 + d)) 0
    have b1 := aSt_bound hs (List.range (1 + d)) 1
    have b2 := aSt_bound hs (List.range (1 + d)) 2
    have b3 := aSt_bound hs (List.range (1 + d)) 3
    rw [e, if_neg (by omega)]
    exact ih (by omega)
theorem quiet_list (v : Int) (n p : Nat) (hn : 16 * p ≤ n) (hp : 0 < p) (h1 : -65536 ≤ v) (h2 : v ≤ 65536) : (aSt (List.replicate n v) (List.range p)).2 = [] ∨ (aSt (List.replicate n v) (List.range p)).2 = [0] := by
  have e := aSt_rep v n p hn h1 h2 (p - 1) (by omega)
  rw [show 1 + (p - 1) = p by omega] at e
  rw [e, show List.range 1 = [] ++ [0] from rfl, aSt_snoc]
  simp only [aStep]
  split
  · exact .inr rfl
  · exact .inl rfl
/-! ### the law -/
theorem within_ev (l : List Int) (hl : l.length ≤ 8192) : Ev (fun k => shawmref06_Within.f k 65536 l) (decide (Samples l)) := by
  unfold shawmref06_Within.f
  refine Ev.bind (a := decide (Samples l)) ?_ (Ev.now _)
  exact Ev.congr (fun k => rfl) (within_l0 l hl l.length 0 (by omega) (fun j hj => absurd hj (Nat.not_lt_zero j)))
/-- The samples up to the end of a part, others behind it. -/
def mixL (l : List Int) (v : Int) (c : Nat) : List Int := l.take c ++ List.replicate (l.length - c) v
theorem mixL_length (l : List Int) (v : Int) (c : Nat) (h : c ≤ l.length) : (mixL l v c).length = l.length := by unfold mixL; simp; omega
theorem mixL_rd (l : List Int) (v : Int) (c : Nat) (h : c ≤ l.length) (i : Nat) : rd (mixL l v c) (i : Int) = if i < c then rd l (i : Int) else if i < l.length then v else 0 := by
  by_cases h1 : i < c
  · rw [if_pos h1, rd_lt _ _ (by rw [mixL_length l v c h]; omega), rd_lt _ _ (by omega)]
    unfold mixL
    rw [List.getElem_append_left (by rw [List.length_take]; omega), List.getElem_take]
  · rw [if_neg h1]
    by_cases h2 : i < l.length
    · rw [if_pos h2, rd_lt _ _ (by rw [mixL_length l v c h]; omega)]
      unfold mixL
      rw [List.getElem_append_right (by rw [List.length_take]; omega)]
      simp
    · rw [if_neg h2, rd_out _ _ (by rw [mixL_length l v c h]; omega)]
theorem attV_of {l : List Int} {p : Nat} (hp : l.length = 16 * p) (hm : (l.length : Int) % 128 = 0) (hle : l.length ≤ 8192) (hs : Samples l) : attV l = ((aSt l (List.range p)).2, 0) := by
  have hc : checkB l = 0 := by unfold checkB; rw [if_pos ⟨hm, hle⟩, if_pos hs]
  rw [attV_pos hc, show l.length / 16 = p by omega]
theorem BlockQuiet (l : List Int) (v : Int) (p part : Nat) (hp : l.length = 16 * p) (hm : (l.length : Int) % 128 = 0) (hle : l.length ≤ 8192) (hs : Samples l) (h1 : -65536 ≤ v) (h2 : v ≤ 65536) (hpart : part < p) :
    ∃ (k : Nat) (A B C : List Int) (n0 : Nat), block_Attacks.f k (List.replicate l.length v) = some (A, 0) ∧ (A = [] ∨ A = [0]) ∧ block_Attacks.f k l = some (B, 0) ∧ block_Attacks.f k (mixL l v (16 * part + 16)) = some (C, 0) ∧
      n0 ≤ B.length ∧ n0 ≤ C.length ∧ B.length ≤ 512 ∧ C.length ≤ 512 ∧ (∀ i : Nat, i < B.length → (rd B (i : Int) ≤ (part : Int) ↔ i < n0)) ∧ (∀ i : Nat, i < C.length → (rd C (i : Int) ≤ (part : Int) ↔ i < n0)) ∧
      shawmref02_Ints.f k (B.take n0) (C.take n0) = some true ∧ shawmref06_Within.f k 65536 l = some true := by
  have hc16 : 16 * part + 16 ≤ l.length := by omega
  have hml := mixL_length l v (16 * part + 16) hc16
  have hsm : Samples (mixL l v (16 * part + 16)) := by
    intro i
    rw [mixL_rd l v _ hc16]
    split
    · exact hs i
    · split <;> omega
  obtain ⟨kA, hA⟩ := attacks_ev (List.replicate l.length v)
  obtain ⟨kB, hB⟩ := attacks_ev l
  obtain ⟨kC, hC⟩ := attacks_ev (mixL l v (16 * part + 16))
  rw [attV_of (p := p) (by simpa using hp) (by simpa using hm) (by simpa using hle) (samples_rep v _ h1 h2)] at hA
  rw [attV_of hp hm hle hs] at hB
  rw [attV_of (p := p) (by rw [hml]; exact hp) (by rw [hml]; exact hm) (by rw [hml]; exact hle) hsm] at hC
  have eD : aSt (mixL l v (16 * part + 16)) (List.range (part + 1)) = aSt l (List.range (part + 1)) :=
    aSt_congr (N := 16 * part + 16) (fun i hi => by rw [mixL_rd l v _ hc16, if_pos hi]) (part + 1) (by omega)
  obtain ⟨b1, b2, b3⟩ := count_front l p part hpart _ _ rfl rfl
  obtain ⟨c1, c2, c3⟩ := count_front (mixL l v (16 * part + 16)) p part hpart _ _ rfl rfl
  rw [eD] at c1 c2 c3
  have lB := aSt_length l (List.range p)
  have lC := aSt_length (mixL l v (16 * part + 16)) (List.range p)
  have lD := aSt_length l (List.range (part + 1))
  rw [List.length_range] at lB lC lD
  obtain ⟨kI, hI⟩ := ints_same (aSt l (List.range (part + 1))).2 (by omega)
  obtain ⟨kW, hW⟩ := within_ev l hle
  rw [decide_eq_true hs] at hW
  refine ⟨kA + kB + kC + kI + kW, _, _, _, (aSt l (List.range (part + 1))).2.length, hA _ (by omega), quiet_list v l.length p (by omega) (by omega) h1 h2, hB _ (by omega), hC _ (by omega), b1, c1, by omega, by omega, b3, c3, ?_, hW _ (by omega)⟩
  rw [b2, c2]
  exact hI _ (by omega)

end Go.Proofs.Ytooipbjdpajmmaa.Pure
