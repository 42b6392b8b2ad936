/- For all energies and every number v: the program's groups are the reference's (or both tell the same error), they add up to eight, and eight energies v make one group. Conditions: those of the given statement, no others. -/
import Derived.Test.YtooipbjdpajmmaaU
import Derived.Test.YtooipbjdpajmmaaHnx8
namespace Go.Proofs.Ytooipbjdpajmmaa.Pure
open Go.RowKit Go.Proofs.Ytooipbjdpajmmaa.Hn Go.Proofs.YtooipbjdpajmmaaW.PrintWords Go.Proofs.YtooipbjdpajmmaaW.PrintLast Go.Proofs.YtooipbjdpajmmaaW.PrintMore

/-- Two energies near each other, as the program reckons. -/
def near (x y : Int) : Prop := mx x y ≤ wrap64 (wrap64 (2 * mn x y) + 1024)
instance (x y : Int) : Decidable (near x y) := by unfold near; infer_instance
theorem near_le {x y : Int} (h : near x y) : mx x y ≤ wrap64 (wrap64 (2 * mn x y) + 1024) := h
theorem near_no {x y : Int} (h : ¬ near x y) : ¬ mx x y ≤ wrap64 (wrap64 (2 * mn x y) + 1024) := h
theorem near_comm (x y : Int) : near x y ↔ near y x := by
  unfold near mx mn
  have h : (if x < y then y else x) = (if y < x then x else y) := by split <;> split <;> omega
  have h' : (if y < x then y else x) = (if x < y then x else y) := by split <;> split <;> omega
  rw [h, h']
/-- The groups of the first n + 1 blocks: all but the last, and the last. -/
def grp (l : List Int) : Nat → List Int × Nat
  | 0 => ([], 1)
  | n + 1 => if near (rd l (n : Int)) (rd l ((n + 1 : Nat) : Int)) then ((grp l n).1, (grp l n).2 + 1) else ((grp l n).1 ++ [((grp l n).2 : Int)], 1)
def grpL (l : List Int) (n : Nat) : List Int := (grp l n).1 ++ [((grp l n).2 : Int)]
theorem grp_le (l : List Int) (n : Nat) : (grp l n).2 ≤ n + 1 ∧ (grp l n).1.length ≤ n := by
  induction n with
  | zero => simp [grp]
  | succ n ih =>
    simp only [grp]
    split
    · simp only; omega
    · simp only [List.length_append, List.length_singleton]; omega
theorem grp_sum (l : List Int) (n : Nat) : (grpL l n).sum = ((n + 1 : Nat) : Int) := by
  unfold grpL
  induction n with
  | zero => simp [grp]
  | succ n ih =>
    simp only [grp]
    split
    · simp only [List.sum_append, List.sum_cons, List.sum_nil] at ih ⊢; omega
    · simp only [List.sum_append, List.sum_cons, List.sum_nil] at ih ⊢; omega
def engOk (l : List Int) : Prop := ∀ j : Nat, j < 8 → 0 ≤ rd l (j : Int) ∧ rd l (j : Int) ≤ 1125899906842624
theorem set_last (xs : List Int) (v u : Int) : (xs ++ [v]).set xs.length u = xs ++ [u] := by
  rw [List.set_append_right _ _ (Nat.le_refl _), Nat.sub_self]; rfl
theorem rd_last (xs : List Int) (v : Int) : rd (xs ++ [v]) (xs.length : Int) = v := by
  rw [rd_nat]; simp [List.getD_eq_getElem?_getD]
/-- One block more in the last group, as both programs do it. -/
theorem bump_eq (xs : List Int) (m : Nat) (hm : m ≤ 100) (hx : xs.length ≤ 100) :
    (xs ++ [(m : Int)]).set ((wrap64 (((xs ++ [(m : Int)]).length : Int) - 1)) : Int).toNat (wrap64 ((rd (xs ++ [(m : Int)]) (wrap64 (((xs ++ [(m : Int)]).length : Int) - 1))) + 1)) = xs ++ [((m + 1 : Nat) : Int)] := by
  have e : wrap64 (((xs ++ [(m : Int)]).length : Int) - 1) = (xs.length : Int) := by rw [List.length_append, List.length_singleton]; unfold wrap64; omega
  rw [e, Int.toNat_natCast, rd_last, set_last, wrap_succ (by omega)]
theorem a_l1 (l : List Int) (hl : l.length = 8) (d : Nat) : ∀ n : Nat, n + d = 7 → Ev (fun k => block_Groups.l1 k l (grpL l n) ((n + 1 : Nat) : Int)) (grpL l 7, 0) := by
  induction d with
  | zero =>
    intro n hn
    obtain rfl : n = 7 := by omega
    refine Ev.step (f := fun _ => some (grpL l 7, 0)) (fun k => ?_) (Ev.now _)
    simp only [block_Groups.l1]
    rw [if_neg (by omega)]
  | succ d ih =>
    intro n hn
    have hle := grp_le l n
    refine Ev.step (fun k => ?_) (ih (n + 1) (by omega))
    have e1 : wrap64 (((n + 1 : Nat) : Int) - 1) = (n : Int) := wrap_pred (by omega)
    have e2 : wrap64 (((n + 1 : Nat) : Int) + 1) = ((n + 1 + 1 : Nat) : Int) := wrap_succ (by omega)
    have e3 : wrap64 (((grpL l n).length : Int) - 1) = ((grp l n).1.length : Int) := by unfold grpL; rw [List.length_append, List.length_singleton]; unfold wrap64; omega
    simp only [block_Groups.l1]
    rw [if_pos (by omega), e1, if_pos (by omega), if_pos (show (n : Int) < (l.length : Int) by omega), if_pos (by omega)]
    by_cases hnear : near (rd l (n : Int)) (rd l ((n + 1 : Nat) : Int))
    · rw [if_pos (near_le hnear), if_pos (by rw [e3]; omega), if_pos (by rw [e3]; unfold grpL; rw [List.length_append, List.length_singleton]; omega), e2]
      have : grpL l (n + 1) = (grp l n).1 ++ [(((grp l n).2 + 1 : Nat) : Int)] := by unfold grpL; simp only [grp]; rw [if_pos hnear]
      rw [this, ← bump_eq (grp l n).1 (grp l n).2 (by omega) (by omega)]
      rfl
    · rw [if_neg (near_no hnear), if_pos (by unfold grpL; rw [List.length_append, List.length_singleton]; omega), e2]
      have : grpL l (n + 1) = grpL l n ++ [1] := by unfold grpL; simp only [grp]; rw [if_neg hnear]; rfl
      rw [this]
theorem b_l1 (l : List Int) (hl : l.length = 8) (d : Nat) : ∀ n : Nat, n + d = 7 → Ev (fun k => shawmref09_Groups.l1 k l (grpL l n) l (l.length : Int) ((n + 1 : Nat) : Int)) (grpL l 7, 0) := by
  induction d with
  | zero =>
    intro n hn
    obtain rfl : n = 7 := by omega
    refine Ev.step (f := fun _ => some (grpL l 7, 0)) (fun k => ?_) (Ev.now _)
    simp only [shawmref09_Groups.l1]
    rw [if_neg (by omega)]
  | succ d ih =>
    intro n hn
    have hle := grp_le l n
    refine Ev.step (fun k => ?_) (ih (n + 1) (by omega))
    have e1 : wrap64 (((n + 1 : Nat) : Int) - 1) = (n : Int) := wrap_pred (by omega)
    have e2 : wrap64 (((n + 1 : Nat) : Int) + 1) = ((n + 1 + 1 : Nat) : Int) := wrap_succ (by omega)
    have e3 : wrap64 (((grpL l n).length : Int) - 1) = ((grp l n).1.length : Int) := by unfold grpL; rw [List.length_append, List.length_singleton]; unfold wrap64; omega
    simp only [shawmref09_Groups.l1]
    rw [if_pos (by omega), if_pos (by omega), if_pos (by omega), if_pos (show ((n + 1 : Nat) : Int) > 0 by omega), e1, if_pos (by omega), if_pos (show (n : Int) < (l.length : Int) by omega)]
    by_cases hnear : near (rd l (n : Int)) (rd l ((n + 1 : Nat) : Int))
    · have hn2 : near (rd l ((n + 1 : Nat) : Int)) (rd l (n : Int)) := (near_comm _ _).1 hnear
      rw [if_pos (near_le hn2), if_pos (by rw [e3]; omega), if_pos (by rw [e3]; unfold grpL; rw [List.length_append, List.length_singleton]; omega), e2]
      have : grpL l (n + 1) = (grp l n).1 ++ [(((grp l n).2 + 1 : Nat) : Int)] := by unfold grpL; simp only [grp]; rw [if_pos hnear]
      rw [this, ← bump_eq (grp l n).1 (grp l n).2 (by omega) (by omega)]
      rfl
    · have hn2 : ¬ near (rd l ((n + 1 : Nat) : Int)) (rd l (n : Int)) := fun h => hnear ((near_comm _ _).1 h)
      rw [if_neg (near_no hn2), if_pos (by unfold grpL; rw [List.length_append, List.length_singleton]; omega), e2]
      have : grpL l (n + 1) = grpL l n ++ [1] := by unfold grpL; simp only [grp]; rw [if_neg hnear]; rfl
      rw [this]
theorem a_ok (l : List Int) (hl : l.length = 8) (h : engOk l) (d : Nat) : ∀ i : Nat, i + d = 8 → Ev (fun k => block_Groups.l0 k l l (l.length : Int) (i : Int)) (grpL l 7, 0) := by
  induction d with
  | zero =>
    intro i hi
    refine Ev.step (fun k => ?_) (a_l1 l hl 7 0 (by omega))
    simp only [block_Groups.l0]
    rw [if_neg (by omega)]
    rfl
  | succ d ih =>
    intro i hi
    have := h i (by omega)
    refine Ev.step (fun k => ?_) (ih (i + 1) (by omega))
    simp only [block_Groups.l0]
    rw [if_pos (by omega), if_pos (by omega), if_pos (by omega), if_neg (by omega), if_neg (by omega), wrap_succ (by omega)]
theorem b_ok (l : List Int) (hl : l.length = 8) (h : engOk l) (d : Nat) : ∀ i : Nat, i + d = 8 → Ev (fun k => shawmref09_Groups.l0 k l l (l.length : Int) (i : Int)) (grpL l 7, 0) := by
  induction d with
  | zero =>
    intro i hi
    refine Ev.step (fun k => ?_) (Ev.step (g := fun k => shawmref09_Groups.l1 k l [] l (l.length : Int) 0) (fun k => ?_) (b_l1 l hl 7 0 (by omega)))
    · simp only [shawmref09_Groups.l0]
      rw [if_neg (by omega)]
    · simp only [shawmref09_Groups.l1]
      rw [if_pos (by omega), if_pos (by omega), if_pos (by omega), if_neg (by omega), if_pos (by simp), show wrap64 ((0 : Int) + 1) = 1 by unfold wrap64; omega]
      rfl
  | succ d ih =>
    intro i hi
    have := h i (by omega)
    refine Ev.step (fun k => ?_) (ih (i + 1) (by omega))
    simp only [shawmref09_Groups.l0]
    rw [if_pos (by omega), if_pos (by omega), if_pos (by omega), if_neg (by omega), if_neg (by omega), wrap_succ (by omega)]
theorem a_no (l : List Int) (hl : l.length = 8) (h : ¬ engOk l) (d : Nat) : ∀ i : Nat, i + d = 8 → (∀ j : Nat, j < i → 0 ≤ rd l (j : Int) ∧ rd l (j : Int) ≤ 1125899906842624) → Ev (fun k => block_Groups.l0 k l l (l.length : Int) (i : Int)) ([], 1) := by
  induction d with
  | zero => intro i hi hj; exact absurd (fun j h8 => hj j (by omega)) h
  | succ d ih =>
    intro i hi hj
    by_cases h1 : rd l (i : Int) < 0
    · refine Ev.step (f := fun _ => some ([], 1)) (fun k => ?_) (Ev.now _)
      simp only [block_Groups.l0]
      rw [if_pos (by omega), if_pos (by omega), if_pos (by omega), if_pos h1]
    · by_cases h2 : rd l (i : Int) > 1125899906842624
      · refine Ev.step (f := fun _ => some ([], 1)) (fun k => ?_) (Ev.now _)
        simp only [block_Groups.l0]
        rw [if_pos (by omega), if_pos (by omega), if_pos (by omega), if_neg h1, if_pos h2]
      · refine Ev.step (fun k => ?_) (ih (i + 1) (by omega) (fun j hlt => ?_))
        · simp only [block_Groups.l0]
          rw [if_pos (by omega), if_pos (by omega), if_pos (by omega), if_neg h1, if_neg h2, wrap_succ (by omega)]
        · by_cases e : j = i
          · subst e; omega
          · exact hj j (by omega)
theorem b_no (l : List Int) (hl : l.length = 8) (h : ¬ engOk l) (d : Nat) : ∀ i : Nat, i + d = 8 → (∀ j : Nat, j < i → 0 ≤ rd l (j : Int) ∧ rd l (j : Int) ≤ 1125899906842624) → Ev (fun k => shawmref09_Groups.l0 k l l (l.length : Int) (i : Int)) ([], 1) := by
  induction d with
  | zero => intro i hi hj; exact absurd (fun j h8 => hj j (by omega)) h
  | succ d ih =>
    intro i hi hj
    by_cases h1 : rd l (i : Int) < 0
    · refine Ev.step (f := fun _ => some ([], 1)) (fun k => ?_) (Ev.now _)
      simp only [shawmref09_Groups.l0]
      rw [if_pos (by omega), if_pos (by omega), if_pos (by omega), if_pos h1]
    · by_cases h2 : rd l (i : Int) > 1125899906842624
      · refine Ev.step (f := fun _ => some ([], 1)) (fun k => ?_) (Ev.now _)
        simp only [shawmref09_Groups.l0]
        rw [if_pos (by omega), if_pos (by omega), if_pos (by omega), if_neg h1, if_pos h2]
      · refine Ev.step (fun k => ?_) (ih (i + 1) (by omega) (fun j hlt => ?_))
        · simp only [shawmref09_Groups.l0]
          rw [if_pos (by omega), if_pos (by omega), if_pos (by omega), if_neg h1, if_neg h2, wrap_succ (by omega)]
        · by_cases e : j = i
          · subst e; omega
          · exact hj j (by omega)
/-- Both tell the same. -/
theorem groups_both (l : List Int) : (l.length = 8 ∧ Ev (fun k => block_Groups.f k l) (grpL l 7, 0) ∧ Ev (fun k => shawmref09_Groups.f k l) (grpL l 7, 0)) ∨ (Ev (fun k => block_Groups.f k l) ([], 1) ∧ Ev (fun k => shawmref09_Groups.f k l) ([], 1)) := by
  by_cases hl : l.length = 8
  · by_cases h : engOk l
    · refine .inl ⟨hl, Ev.congr (fun k => ?_) (a_ok l hl h 8 0 (by omega)), Ev.congr (fun k => ?_) (b_ok l hl h 8 0 (by omega))⟩
      · unfold block_Groups.f; rw [if_pos (by omega)]; rfl
      · unfold shawmref09_Groups.f; rw [if_pos (by omega)]; rfl
    · refine .inr ⟨Ev.congr (fun k => ?_) (a_no l hl h 8 0 (by omega) (fun j hj => absurd hj (Nat.not_lt_zero j))), Ev.congr (fun k => ?_) (b_no l hl h 8 0 (by omega) (fun j hj => absurd hj (Nat.not_lt_zero j)))⟩
      · unfold block_Groups.f; rw [if_pos (by omega)]; rfl
      · unfold shawmref09_Groups.f; rw [if_pos (by omega)]; rfl
  · refine .inr ⟨Ev.congr (f := fun _ => some ([], 1)) (fun k => ?_) (Ev.now _), Ev.congr (f := fun _ => some ([], 1)) (fun k => ?_) (Ev.now _)⟩
    · unfold block_Groups.f; rw [if_neg (by omega)]
    · unfold shawmref09_Groups.f; rw [if_neg (by omega)]
theorem awake_ev : Ev (fun k => (shawmlaw09_awake.f).bind fun t => some t) true := ⟨0, fun _ _ => rfl⟩
/-- Eight energies v. -/
theorem groups_same (v : Int) (h0 : 0 ≤ v) (h1 : v ≤ 1125899906842624) : Ev (fun k => block_Groups.f k [v, v, v, v, v, v, v, v]) ([8], 0) := by
  have hr : ∀ j : Nat, j < 8 → rd [v, v, v, v, v, v, v, v] (j : Int) = v := by
    intro j hj
    rw [rd_nat]
    have : j = 0 ∨ j = 1 ∨ j = 2 ∨ j = 3 ∨ j = 4 ∨ j = 5 ∨ j = 6 ∨ j = 7 := by omega
    rcases this with rfl | rfl | rfl | rfl | rfl | rfl | rfl | rfl <;> rfl
  have hnear : near v v := by unfold near mx mn wrap64; rw [if_neg (by omega)]; omega
  have hg : ∀ n, n < 8 → grp [v, v, v, v, v, v, v, v] n = ([], n + 1) := by
    intro n
    induction n with
    | zero => intro _; rfl
    | succ n ih =>
      intro hn
      simp only [grp]
      rw [hr n (by omega), hr (n + 1) hn, if_pos hnear, ih (by omega)]
  have he : engOk [v, v, v, v, v, v, v, v] := fun j hj => by rw [hr j hj]; omega
  have := a_ok [v, v, v, v, v, v, v, v] rfl he 8 0 (by omega)
  have e : grpL [v, v, v, v, v, v, v, v] 7 = [8] := by unfold grpL; rw [hg 7 (by omega)]; rfl
  rw [e] at this
  refine Ev.congr (fun k => ?_) this
  unfold block_Groups.f; rw [if_pos (by rfl)]; rfl
theorem sum_take (xs : List Int) (i : Nat) (h : i < xs.length) : (xs.take (i + 1)).sum = (xs.take i).sum + rd xs (i : Int) := by
  rw [List.take_succ_eq_append_getElem h, List.sum_append, rd_lt xs i h]; simp
/-- What stands behind the sum. -/
theorem tail_ev (v : Int) (b : Bool) (hb : b = false) : Ev (fun k => shawmlaw09_BlockGroups.j2 k v b) true := by
  subst hb
  have hj3 : ∀ c : Bool, (c = false → 0 ≤ v ∧ v ≤ 1125899906842624) → Ev (fun k => shawmlaw09_BlockGroups.j3 k v c) true := by
    intro c hc
    cases c with
    | true =>
      refine Ev.step (f := fun k => (shawmlaw09_awake.f).bind fun t => some t) (fun k => ?_) awake_ev
      simp only [shawmlaw09_BlockGroups.j3]
      rw [if_pos trivial]
    | false =>
      obtain ⟨h0, h1⟩ := hc rfl
      refine Ev.step (fun k => ?_) (Ev.bind (groups_same v h0 h1) (f := fun k bt => if bt.2 = 0 then ((shawmref02_Ints.f k bt.1 (([8] : List Int))).bind fun t => (if t = true then ((shawmlaw09_awake.f).bind fun t => (some t)) else (none))) else (none)) ?_)
      · simp only [shawmlaw09_BlockGroups.j3]
        rw [if_neg (by simp)]
      · refine Ev.congr (fun k => if_pos rfl) ?_
        refine Ev.bind (ints_same [8] (by simp)) (f := fun k t => if t = true then ((shawmlaw09_awake.f).bind fun t => (some t)) else (none)) ?_
        exact Ev.congr (fun k => if_pos rfl) awake_ev
  by_cases h0 : v < 0
  · refine Ev.step (fun k => ?_) (hj3 true (fun h => by cases h))
    simp only [shawmlaw09_BlockGroups.j2]
    rw [if_neg (by simp), if_pos h0]
  · refine Ev.step (fun k => ?_) (hj3 (decide (v > 1125899906842624)) (fun h => by have := of_decide_eq_false h; omega))
    simp only [shawmlaw09_BlockGroups.j2]
    rw [if_neg (by simp), if_neg h0]
theorem sum_ev (v e : Int) (xs : List Int) (hx : xs.length ≤ 100) (hs : ∀ i : Nat, i ≤ xs.length → -1000 ≤ (xs.take i).sum ∧ (xs.take i).sum ≤ 1000) (he : e = 0 → xs.sum = 8) (d : Nat) : ∀ i : Nat, i + d = xs.length → Ev (fun k => shawmlaw09_BlockGroups.l0 k v e (xs.take i).sum xs (xs.length : Int) (i : Int)) true := by
  induction d with
  | zero =>
    intro i hi
    have hi' : (xs.take i).sum = xs.sum := by rw [List.take_of_length_le (by omega)]
    by_cases h0 : e = 0
    · refine Ev.step (fun k => ?_) (tail_ev v ((xs.take i).sum != 8) (by rw [hi', he h0]; rfl))
      simp only [shawmlaw09_BlockGroups.l0]
      rw [if_neg (by omega), if_pos h0]
    · refine Ev.step (fun k => ?_) (tail_ev v false rfl)
      simp only [shawmlaw09_BlockGroups.l0]
      rw [if_neg (by omega), if_neg h0]
  | succ d ih =>
    intro i hi
    refine Ev.step (fun k => ?_) (ih (i + 1) (by omega))
    have h1 := hs (i + 1) (by omega)
    have h2 := sum_take xs i (by omega)
    simp only [shawmlaw09_BlockGroups.l0]
    rw [if_pos (by omega), if_pos (by omega), if_pos (by omega), wrap_succ (by omega), ← h2, wrap_in (by omega) (by omega)]
theorem after_ints (v : Int) (xs : List Int) (e : Int) (hx : xs.length ≤ 100) (hs : ∀ i : Nat, i ≤ xs.length → -1000 ≤ (xs.take i).sum ∧ (xs.take i).sum ≤ 1000) (he : e = 0 → xs.sum = 8) :
    Ev (fun k => (shawmref02_Ints.f k xs xs).bind fun t => (if t = true then (shawmlaw09_BlockGroups.j0 k v xs e (e != e)) else (shawmlaw09_BlockGroups.j0 k v xs e true))) true := by
  refine Ev.bind (ints_same xs (by omega)) (f := fun k t => if t = true then (shawmlaw09_BlockGroups.j0 k v xs e (e != e)) else (shawmlaw09_BlockGroups.j0 k v xs e true)) ?_
  refine Ev.congr (fun k => if_pos rfl) ?_
  refine Ev.step (fun k => ?_) (sum_ev v e xs hx hs he xs.length 0 (by omega))
  simp only [shawmlaw09_BlockGroups.j0]
  rw [if_neg (by simp)]
  rfl
theorem grp_take (l : List Int) (n : Nat) (hn : n ≤ 7) : ∀ i : Nat, i ≤ (grpL l n).length → -1000 ≤ ((grpL l n).take i).sum ∧ ((grpL l n).take i).sum ≤ 1000 := by
  have hpos : ∀ m, ∀ x ∈ grpL l m, 0 ≤ x := by
    intro m
    induction m with
    | zero => intro x hx; simp [grpL, grp] at hx; omega
    | succ m ih =>
      intro x hx
      unfold grpL at hx ih
      simp only [grp] at hx
      split at hx
      · simp only [List.mem_append, List.mem_singleton] at hx ih
        rcases hx with hx | rfl
        · exact ih x (Or.inl hx)
        · omega
      · simp only [List.mem_append, List.mem_singleton] at hx ih
        rcases hx with hx | rfl
        · exact ih x hx
        · decide
  have hnn : ∀ ys : List Int, (∀ x ∈ ys, 0 ≤ x) → 0 ≤ ys.sum := by
    intro ys
    induction ys with
    | nil => intro _; simp
    | cons y ys ih => intro h; rw [List.sum_cons]; have := h y (by simp); have := ih (fun x hx => h x (by simp [hx])); omega
  intro i _
  have h1 := hnn ((grpL l n).take i) (fun x hx => hpos n x (List.mem_of_mem_take hx))
  have h2 := hnn ((grpL l n).drop i) (fun x hx => hpos n x (List.mem_of_mem_drop hx))
  have h3 : ((grpL l n).take i).sum + ((grpL l n).drop i).sum = (grpL l n).sum := by rw [← List.sum_append, List.take_append_drop]
  have h4 := grp_sum l n
  omega

theorem BlockGroups : shawmlaw09_BlockGroups.Pure := by
  intro l v _ _ _ _
  refine Ev.rounds ?_
  by_cases hlen : (l.length : Int) > 20
  · refine Ev.congr (fun k => ?_) awake_ev
    unfold shawmlaw09_BlockGroups.f
    rw [if_pos hlen]
  · refine Ev.congr (f := fun k => ((block_Groups.f k l).bind fun bt191 => ((shawmref09_Groups.f k l).bind fun bt195 => ((shawmref02_Ints.f k bt191.1 bt195.1).bind fun t199 => (if t199 = true then (shawmlaw09_BlockGroups.j0 k v bt191.1 bt191.2 (bt191.2 != bt195.2)) else (shawmlaw09_BlockGroups.j0 k v bt191.1 bt191.2 true)))))) (fun k => ?_) ?_
    · unfold shawmlaw09_BlockGroups.f
      rw [if_neg hlen]
    · rcases groups_both l with ⟨_, ha, hb⟩ | ⟨ha, hb⟩
      · refine Ev.bind ha (f := fun k bt191 => ((shawmref09_Groups.f k l).bind fun bt195 => ((shawmref02_Ints.f k bt191.1 bt195.1).bind fun t199 => (if t199 = true then (shawmlaw09_BlockGroups.j0 k v bt191.1 bt191.2 (bt191.2 != bt195.2)) else (shawmlaw09_BlockGroups.j0 k v bt191.1 bt191.2 true))))) ?_
        refine Ev.bind hb (f := fun k bt195 => ((shawmref02_Ints.f k (grpL l 7) bt195.1).bind fun t199 => (if t199 = true then (shawmlaw09_BlockGroups.j0 k v (grpL l 7) 0 (0 != bt195.2)) else (shawmlaw09_BlockGroups.j0 k v (grpL l 7) 0 true)))) ?_
        have := grp_le l 7
        exact after_ints v (grpL l 7) 0 (by unfold grpL; rw [List.length_append, List.length_singleton]; omega) (grp_take l 7 (by omega)) (fun _ => grp_sum l 7)
      · refine Ev.bind ha (f := fun k bt191 => ((shawmref09_Groups.f k l).bind fun bt195 => ((shawmref02_Ints.f k bt191.1 bt195.1).bind fun t199 => (if t199 = true then (shawmlaw09_BlockGroups.j0 k v bt191.1 bt191.2 (bt191.2 != bt195.2)) else (shawmlaw09_BlockGroups.j0 k v bt191.1 bt191.2 true))))) ?_
        refine Ev.bind hb (f := fun k bt195 => ((shawmref02_Ints.f k [] bt195.1).bind fun t199 => (if t199 = true then (shawmlaw09_BlockGroups.j0 k v [] 1 (1 != bt195.2)) else (shawmlaw09_BlockGroups.j0 k v [] 1 true)))) ?_
        exact after_ints v [] 1 (by simp) (fun i _ => by simp) (fun h => by omega)

end Go.Proofs.Ytooipbjdpajmmaa.Pure
