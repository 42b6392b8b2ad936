/- Plain facts: the reference's logarithm is the program's, and so are the costs. Conditions: none beyond each lemma's own. -/
import Derived.Test.YtjplalkgabpinaaHnx13
import Derived.Test.YtjplalkgabpinaaHnx13
import Derived.Test.YtjplalkgabpinaaHnx12
import Derived.Test.YtjplalkgabpinaaG
import Derived.IntWalk
namespace Go.Proofs.Ytjplalkgabpinaa.Pure
open Go.RowKit Go.Proofs.Ytjplalkgabpinaa.Hn Go.Proofs.YtjplalkgabpinaaW.PrintWords Go.Proofs.YtjplalkgabpinaaW.PrintLast Go.Proofs.YtjplalkgabpinaaW.PrintMore

theorem shr_at (n : Int) (i : Nat) (h : i ≤ 62) : shr .i64 n (i : Int) = n / 2 ^ i := by
  unfold shr
  rw [Int.toNat_natCast, show min i IntKind.i64.bits = i from Nat.min_eq_left (by show i ≤ 64; omega)]
theorem shr_gt (n : Int) (i : Nat) (h0 : 1 ≤ n) : (n / 2 ^ i > 1) ↔ i < Nat.log2 n.toNat := by
  obtain ⟨k, rfl⟩ := Int.eq_ofNat_of_zero_le (show 0 ≤ n by omega)
  rw [Int.toNat_natCast]
  have e : ((k : Int) / 2 ^ i) = ((k / 2 ^ i : Nat) : Int) := by simp
  rw [e]
  have h1 : 2 ≤ k / 2 ^ i ↔ 2 * 2 ^ i ≤ k := Nat.le_div_iff_mul_le (Nat.two_pow_pos i)
  have h2 : i + 1 ≤ Nat.log2 k ↔ 2 ^ (i + 1) ≤ k := Nat.le_log2 (by omega)
  rw [Nat.pow_succ, Nat.mul_comm] at h2
  omega
theorem shl_mant (n : Int) (h0 : 1 ≤ n) (h1 : n ≤ 1073741824) : shl .i64 n (30 - (Nat.log2 n.toNat : Int)) = mantB n := by
  have hE := log_le n h0 h1
  have hm := mantB_bound h0
  obtain ⟨E, hEE⟩ : ∃ E, E = Nat.log2 n.toNat := ⟨_, rfl⟩
  have e : n * 2 ^ (30 - E) = mantB n := by
    unfold mantB
    rw [← hEE]
    have h30 : (1073741824 : Int) = 2 ^ (30 - E) * 2 ^ E := by rw [← Int.pow_add, Nat.sub_add_cancel (by omega)]; rfl
    rw [h30, ← Int.mul_assoc, Int.mul_ediv_cancel _ (by have := Int.pow_pos (n := 2) (m := E) (by omega); omega)]
  rw [← hEE] at hE ⊢
  unfold shl
  rw [show ((30 : Int) - (E : Int)).toNat = 30 - E by omega, show min (30 - E) IntKind.i64.bits = 30 - E from Nat.min_eq_left (by show 30 - E ≤ 64; omega), e]
  exact IntWalk.i64_in (mantB n) ⟨by omega, by omega⟩
theorem reflog_l1 (E : Nat) (hE : E ≤ 30) (m : Int) (h0 : 1073741824 ≤ m) (h1 : m < 2147483648) (d : Nat) : ∀ j : Nat, j + d = 8 → Ev (fun k => shawmref03_Log.l1 k (E : Int) (frAt m j).1 (frAt m j).2 (j : Int)) (256 * (E : Int) + (frAt m 8).2, 0) := by
  induction d with
  | zero =>
    intro j hj
    obtain rfl : j = 8 := by omega
    have hb := frAt_bound h0 h1 8
    refine Ev.step (f := fun _ => some (256 * (E : Int) + (frAt m 8).2, 0)) (fun k => ?_) (Ev.now _)
    simp only [shawmref03_Log.l1]
    rw [if_neg (by omega), show wrap64 (256 * (E : Int)) = 256 * (E : Int) by unfold wrap64; omega, show wrap64 (256 * (E : Int) + (frAt m 8).2) = 256 * (E : Int) + (frAt m 8).2 by unfold wrap64; omega]
  | succ d ih =>
    intro j hj
    have hb := frAt_bound h0 h1 j
    have hp : (2 : Int) ^ j ≤ 256 := by
      have : j ≤ 8 := by omega
      have := Nat.pow_le_pow_right (n := 2) (by omega) this
      have e : ((2 ^ j : Nat) : Int) = (2 : Int) ^ j := by simp
      omega
    have hsq := sq_range hb.1 hb.2.1
    have hstep : frAt m (j + 1) = frStep (frAt m j) := rfl
    have hi := ih (j + 1) (by omega)
    rw [hstep] at hi
    refine Ev.step (fun k => ?_) hi
    simp only [shawmref03_Log.l1]
    unfold frStep
    generalize (frAt m j).1 * (frAt m j).1 = q at *
    generalize (frAt m j).2 = x6 at *
    generalize (frAt m j).1 = x5 at *
    rw [if_pos (by omega), show wrap64 q = q by unfold wrap64; omega, wrap_succ (by omega), show wrap64 (x6 * 2) = 2 * x6 by unfold wrap64; omega]
    by_cases hc : 2147483648 ≤ q / 1073741824
    · rw [if_pos hc, if_pos hc, show wrap64 (2 * x6 + 1) = 2 * x6 + 1 by unfold wrap64; omega, Int.tdiv_eq_ediv_of_nonneg (by omega), show wrap64 (q / 1073741824 / 2) = q / 1073741824 / 2 by unfold wrap64; omega]
    · rw [if_neg hc, if_neg hc]
theorem reflog_l0 (n : Int) (h0 : 1 ≤ n) (h1 : n ≤ 1073741824) (d : Nat) : ∀ i : Nat, i + d = Nat.log2 n.toNat → Ev (fun k => shawmref03_Log.l0 k n (i : Int)) (logB n, 0) := by
  have hE := log_le n h0 h1
  induction d with
  | zero =>
    intro i hi
    have hm := mantB_bound h0
    have hi' : i = Nat.log2 n.toNat := by omega
    have hl := reflog_l1 i (by omega) (mantB n) hm.1 hm.2 8 0 (by omega)
    have hv : (256 * (i : Int) + (frAt (mantB n) 8).2, (0 : Int)) = (logB n, 0) := by unfold logB; rw [hi']
    rw [hv] at hl
    have hs := shl_mant n h0 h1
    rw [← hi'] at hs
    have hg : ¬ (n / 2 ^ i > 1) := fun h => by have := (shr_gt n i h0).1 h; omega
    refine Ev.step (fun k => ?_) (Ev.step (g := fun k => shawmref03_Log.j2 k (i : Int) (mantB n)) (fun k => ?_) hl)
    · simp only [shawmref03_Log.l0]
      rw [if_pos (by omega), shr_at n i (by omega), if_neg hg, if_pos (by omega), show wrap64 (30 - (i : Int)) = 30 - (i : Int) by unfold wrap64; omega, if_pos (by omega), hs]
    · simp only [shawmref03_Log.j2]
      rfl
  | succ d ih =>
    intro i hi
    have hg : n / 2 ^ i > 1 := (shr_gt n i h0).2 (by omega)
    refine Ev.step (fun k => ?_) (ih (i + 1) (by omega))
    simp only [shawmref03_Log.l0]
    rw [if_pos (by omega), shr_at n i (by omega), if_pos hg, wrap_succ (by omega)]
theorem reflog_ev (n : Int) (h0 : 1 ≤ n) (h1 : n ≤ 1073741824) : Ev (fun k => shawmref03_Log.f k n) (logB n, 0) := by
  refine Ev.congr (f := fun k => shawmref03_Log.j0 k n false) (fun k => ?_) (Ev.step (f := fun k => shawmref03_Log.l0 k n 0) (fun k => ?_) (reflog_l0 n h0 h1 (Nat.log2 n.toNat) 0 (by omega)))
  · unfold shawmref03_Log.f
    rw [if_neg (by omega), decide_eq_false (by omega)]
  · simp only [shawmref03_Log.j0]
    rw [if_neg (by simp)]
theorem level_ev (n : Int) (h0 : 1 ≤ n) (h1 : n ≤ 1073741824) : Ev (fun k => shawmref03_Level.f k n) (logB n) := by
  unfold shawmref03_Level.f
  refine Ev.bind (reflog_ev n h0 h1) ?_
  exact Ev.now _
theorem lawcost_l0 (l : List Int) (hl : l.length ≤ 1000) (hb : Inm 8388608 l) (d : Nat) : ∀ (i : Nat) (s : Int), i + d = l.length → 0 ≤ s → s + 8192 * (d : Int) ≤ 1099511627776 →
    Ev (fun k => shawmlaw13_cost.l0 k s l (l.length : Int) (i : Int)) (s + costL (l.drop i)) := by
  induction d with
  | zero =>
    intro i s hi h0 h1
    have e : s + costL (l.drop i) = s := by rw [List.drop_of_length_le (by omega)]; simp [costL]
    rw [e]
    refine Ev.step (f := fun _ => some s) (fun k => ?_) (Ev.now _)
    simp only [shawmlaw13_cost.l0]
    rw [if_neg (by omega)]
  | succ d ih =>
    intro i s hi h0 h1
    have hr := rd_get l i (by omega)
    have hx := hb l[i] (List.getElem_mem (by omega))
    have hc := costV_bound hx.1 hx.2
    have e : s + costL (l.drop i) = (s + costV (rd l (i : Int))) + costL (l.drop (i + 1)) := by
      rw [List.drop_eq_getElem_cons (by omega), hr]; unfold costL; rw [List.map_cons, List.sum_cons]; omega
    rw [e]
    rw [← hr] at hc hx
    have e1 : wrap64 (-rd l (i : Int)) = -rd l (i : Int) := by unfold wrap64; omega
    have e2 : wrap64 (mx (rd l (i : Int)) (-rd l (i : Int)) + 1) = mx (rd l (i : Int)) (-rd l (i : Int)) + 1 := by unfold mx wrap64; split <;> omega
    have hlv := level_ev (mx (rd l (i : Int)) (-rd l (i : Int)) + 1) (by unfold mx; split <;> omega) (by unfold mx; split <;> omega)
    refine Ev.step (f := fun k => (shawmref03_Level.f k (mx (rd l (i : Int)) (-rd l (i : Int)) + 1)).bind fun t => shawmlaw13_cost.l0 k (wrap64 (s + t)) l (l.length : Int) ((i + 1 : Nat) : Int)) (fun k => ?_) (Ev.bind hlv ?_)
    · simp only [shawmlaw13_cost.l0]
      rw [if_pos (by omega), if_pos (by omega), if_pos (by omega), e1, e2, wrap_succ (by omega)]
    · have := ih (i + 1) (s + costV (rd l (i : Int))) (by omega) (by omega) (by omega)
      refine Ev.congr (fun k => ?_) this
      have e3 : wrap64 (s + logB (mx (rd l (i : Int)) (-rd l (i : Int)) + 1)) = s + costV (rd l (i : Int)) := by
        show wrap64 (s + costV (rd l (i : Int))) = _
        unfold wrap64; omega
      rw [e3]
theorem lawcost_ev (l : List Int) (hl : l.length ≤ 1000) (hb : Inm 8388608 l) : Ev (fun k => shawmlaw13_cost.f k l) (costL l) := by
  have h := lawcost_l0 l hl hb l.length 0 0 (by omega) (by omega) (by omega)
  rw [List.drop_zero, Int.zero_add] at h
  exact Ev.congr (fun k => rfl) h
end Go.Proofs.Ytjplalkgabpinaa.Pure
