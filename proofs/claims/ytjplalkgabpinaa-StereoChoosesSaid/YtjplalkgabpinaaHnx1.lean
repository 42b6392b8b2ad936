/- The machine's side of laws of the seat Ytjplalkgabpinaa, printed by a program of this session over the kit's printer: functions of the Go program as Lean functions, each with a proof that the call computes it. Conditions: none beyond each theorem's own. -/
import Derived.Test.YtjplalkgabpinaaHnx0
namespace Go.Proofs.Ytjplalkgabpinaa.Hn
open Go.RowKit Go.Proofs.YtjplalkgabpinaaW.PrintWords Go.Proofs.YtjplalkgabpinaaW.PrintLast Go.Proofs.YtjplalkgabpinaaW.PrintMore
attribute [local go_sem] max2_int min2_int max_two min_two max_three min_three max_four min_four   -- for this text's walks alone
set_option linter.unusedVariables false
set_option linter.unusedSimpArgs false

-- NOT PRINTED: function 57 (fixed_greatest_int)

/-! ### fixed_Log: function 54 (by hand) -/
theorem log_pos (n : Int) (m : Nat) (h0 : 1 ≤ n) : decide (0 < n / 2 ^ m) = decide (m ≤ Nat.log2 n.toNat) := by
  obtain ⟨k, rfl⟩ := Int.eq_ofNat_of_zero_le (show 0 ≤ n by omega)
  rw [decide_eq_decide, Int.toNat_natCast, Nat.le_log2 (by omega)]
  have e : ((k : Int) / 2 ^ m) = ((k / 2 ^ m : Nat) : Int) := by simp
  rw [e]
  constructor
  · intro h
    have h' : 0 < k / 2 ^ m := by omega
    exact (Nat.div_pos_iff.1 h').2
  · intro h
    have := Nat.div_pos h (Nat.two_pow_pos m)
    omega
theorem log_le (n : Int) (h0 : 1 ≤ n) (h1 : n ≤ 1073741824) : Nat.log2 n.toNat ≤ 30 := by
  have : Nat.log2 n.toNat < 31 := (Nat.log2_lt (by omega)).2 (by omega)
  omega
set_option maxHeartbeats 2000000 in
theorem logfits_calls (n : Int) (m : Nat) (b : Nat) (w : World) (hb : w.cell? ⟨b, 0, none⟩ = some (.int .i64 n)) (h0 : 1 ≤ n) (h1 : n ≤ 1073741824) (hm : m ≤ 62) :
    Calls Try.prog 58 #[.int .i64 (m : Int), .pointer (some ⟨b, 0, none⟩)] w fun e w' => e = .returned (.bool (decide (m ≤ Nat.log2 n.toNat))) ∧ w' = w := by
  have HP := Aside0.mk (log_pos n m h0)
  go_enter Try.func58, Try.ntmps58
  go_wp2
  go_ret
  exact ⟨by rw [← HP.out]; rfl, rfl⟩
set_option maxHeartbeats 4000000 in
theorem loggreatest_calls (n : Int) (b : Nat) (w : World) (hb : w.cell? ⟨b, 0, none⟩ = some (.int .i64 n)) (h0 : 1 ≤ n) (h1 : n ≤ 1073741824) :
    Calls Try.prog 57 #[.int .i64 0, .int .i64 62, .func (.func 58) #[] #[.pointer (some ⟨b, 0, none⟩)]] w fun e w' => e = .returned (.int .i64 (Nat.log2 n.toNat : Int)) ∧ w' = w := by
  have HL := Aside0.mk (log_le n h0 h1)
  have H0 := Aside0.mk h0
  have H1 := Aside0.mk h1
  have HB := Aside0.mk hb
  obtain ⟨E, hE⟩ : ∃ E, E = Nat.log2 n.toNat := ⟨_, rfl⟩
  rw [← hE] at HL ⊢
  have HE := Aside0.mk hE
  clear h0 h1 hb hE
  go_enter Try.func57, Try.ntmps57
  go_wp2
  go_loop [0, 1] (fun l h => ∃ lo hi : Nat, l = .int .i64 lo ∧ h = .int .i64 hi ∧ Aside0 (lo ≤ E) ∧ Aside0 (E ≤ hi) ∧ Aside0 (hi ≤ 62)) (fun l h => (intOf h - intOf l).toNat)
  case atStart => exact ⟨0, 62, rfl, rfl, ⟨Nat.zero_le _⟩, ⟨by have := HL.out; omega⟩, ⟨by omega⟩⟩
  case round =>
    obtain ⟨lo, hi, rfl, rfl, HA, HBD, HC⟩ := hrel
    by_cases hlt : lo < hi
    · obtain ⟨m, hm⟩ : ∃ m : Nat, m = lo + (hi - lo + 1) / 2 := ⟨_, rfl⟩
      have e1 : (lo : Int) + (((hi : Int) - (lo : Int) + 1) / 2) = (m : Int) := by omega
      have hd : decide ((lo : Int) < (hi : Int)) = true := decide_eq_true (by omega)
      have hd2 : decide (lo < hi) = true := decide_eq_true hlt
      have hb1 : 0 ≤ (hi : Int) - (lo : Int) + 1 := by omega
      have hb2 : (hi : Int) ≤ 62 := by have := HC.out; omega
      have hb3 : 1 ≤ (m : Int) := by omega
      have hb4 : (m : Int) ≤ 62 := by have := HC.out; omega
      have HM := Aside0.mk (show lo < m ∧ m ≤ hi ∧ m ≤ 62 by have := HC.out; omega)
      clear hm hlt
      have hcell := HB.out
      by_cases hf : m ≤ E
      · have HF := Aside0.mk hf
        have hfd : decide (m ≤ E) = true := decide_eq_true hf
        clear hf
        go_wp2_with (go_at_call 58; refine (logfits_calls n m b _ HB.out H0.out H1.out HM.out.2.2).mono ?_; rintro e w' ⟨rfl, rfl⟩; rw [← HE.out])
        go_round
        case rel => exact ⟨m, hi, rfl, rfl, HF, HBD, HC⟩
        case measure => have := HM.out; simp [intOf]; omega
      · have HF := Aside0.mk hf
        have hfd : decide (m ≤ E) = false := decide_eq_false hf
        clear hf
        go_wp2_with (go_at_call 58; refine (logfits_calls n m b _ HB.out H0.out H1.out HM.out.2.2).mono ?_; rintro e w' ⟨rfl, rfl⟩; rw [← HE.out])
        go_round
        case rel => exact ⟨lo, m - 1, rfl, by have := HM.out; go_num, HA, ⟨by have := HF.out; omega⟩, ⟨by have := HM.out; omega⟩⟩
        case measure => have := HM.out; simp [intOf]; omega
    · have hd : decide ((lo : Int) < (hi : Int)) = false := decide_eq_false (by omega)
      have hd2 : decide (lo < hi) = false := decide_eq_false hlt
      obtain rfl : lo = E := by have := HA.out; have := HBD.out; omega
      clear hlt
      go_wp2
      go_ret
      exact ⟨rfl, rfl⟩
/-- A round of the logarithm's fraction. -/
def frStep (s : Int × Int) : Int × Int := if 2147483648 ≤ s.1 * s.1 / 1073741824 then (s.1 * s.1 / 1073741824 / 2, 2 * s.2 + 1) else (s.1 * s.1 / 1073741824, 2 * s.2)
def frAt (m : Int) : Nat → Int × Int
  | 0 => (m, 0)
  | k + 1 => frStep (frAt m k)
theorem sq_range {m : Int} (h0 : 1073741824 ≤ m) (h1 : m < 2147483648) : 1152921504606846976 ≤ m * m ∧ m * m < 4611686018427387904 := by
  constructor
  · have := Int.mul_le_mul h0 h0 (by omega) (by omega); omega
  · have h2 : m ≤ 2147483647 := by omega
    have := Int.mul_le_mul h2 h2 (by omega) (by omega); omega
theorem frAt_bound {m : Int} (h0 : 1073741824 ≤ m) (h1 : m < 2147483648) (k : Nat) : 1073741824 ≤ (frAt m k).1 ∧ (frAt m k).1 < 2147483648 ∧ 0 ≤ (frAt m k).2 ∧ (frAt m k).2 < 2 ^ k := by
  induction k with
  | zero => exact ⟨h0, h1, by simp [frAt], by simp [frAt]⟩
  | succ k ih =>
    obtain ⟨a, b, c, d⟩ := ih
    have hsq := sq_range a b
    have hp : (2 : Int) ^ (k + 1) = 2 * 2 ^ k := by rw [Int.pow_succ]; omega
    simp only [frAt, frStep]
    generalize (frAt m k).1 * (frAt m k).1 = q at *
    split
    · simp only; omega
    · simp only; omega
/-- The logarithm of n, in parts of 256. -/
def mantB (n : Int) : Int := n * 1073741824 / 2 ^ Nat.log2 n.toNat
def logB (n : Int) : Int := 256 * (Nat.log2 n.toNat : Int) + (frAt (mantB n) 8).2
theorem mantB_bound {n : Int} (h0 : 1 ≤ n) : 1073741824 ≤ mantB n ∧ mantB n < 2147483648 := by
  obtain ⟨k, rfl⟩ := Int.eq_ofNat_of_zero_le (show 0 ≤ n by omega)
  unfold mantB
  rw [Int.toNat_natCast]
  have hk : k ≠ 0 := by omega
  have h1 : 2 ^ Nat.log2 k ≤ k := Nat.log2_self_le hk
  have h2 : k < 2 ^ (Nat.log2 k + 1) := Nat.lt_log2_self
  have hpos : 0 < 2 ^ Nat.log2 k := Nat.two_pow_pos _
  have e : ((k : Int) * 1073741824 / 2 ^ Nat.log2 k) = ((k * 1073741824 / 2 ^ Nat.log2 k : Nat) : Int) := by simp
  rw [e]
  have h3 : 1073741824 ≤ k * 1073741824 / 2 ^ Nat.log2 k := (Nat.le_div_iff_mul_le hpos).2 (by rw [Nat.mul_comm]; exact Nat.mul_le_mul_right _ h1)
  have h4 : k * 1073741824 / 2 ^ Nat.log2 k < 2147483648 := (Nat.div_lt_iff_lt_mul hpos).2 (by rw [Nat.pow_succ] at h2; omega)
  omega
def fixed_Log.f (a0 : Int) : Option (Int × Int) := if 1 ≤ a0 ∧ a0 ≤ 1073741824 then some (logB a0, 0) else none
set_option maxHeartbeats 4000000 in
theorem fixed_Log.calls (a0 r1 r2 : Int) (w : World) (h : fixed_Log.f a0 = some (r1, r2)) :
    Calls Try.prog 54 #[.int .i64 a0] w fun e w' => e = .returned (.tuple #[.int .i64 r1, .int .i64 r2]) ∧ Below w.heap.size w w' := by
  unfold fixed_Log.f at h
  by_cases hc : 1 ≤ a0 ∧ a0 ≤ 1073741824
  · rw [if_pos hc] at h
    simp only [Option.some.injEq, Prod.mk.injEq] at h
    obtain ⟨rfl, rfl⟩ := h
    obtain ⟨h0, h1⟩ := hc
    have HMB := Aside0.mk (mantB_bound h0)
    have hle := log_le a0 h0 h1
    unfold logB
    obtain ⟨M0, hM0⟩ : ∃ M0, M0 = mantB a0 := ⟨_, rfl⟩
    have hm1 : a0 * 1073741824 / 2 ^ Nat.log2 a0.toNat = M0 := by rw [hM0]; rfl
    rw [← hM0] at HMB ⊢
    generalize hE : Nat.log2 a0.toNat = E at hm1 hle ⊢
    have HE := Aside0.mk hE
    clear hM0 hE
    have hd1 : decide ((30 : Int) < (E : Int)) = false := decide_eq_false (by omega)
    have H0 := Aside0.mk h0
    have H1 := Aside0.mk h1
    go_enter Try.func54, Try.ntmps54
    go_wp2_with (go_at_call 57; refine (loggreatest_calls a0 w.heap.size _ (by simp) H0.out H1.out).mono ?_; rintro e w' ⟨rfl, rfl⟩; rw [HE.out])
    clear hd1
    go_loop [5, 6, 25] (fun m f i => ∃ k : Nat, i = .int .i64 k ∧ m = .int .i64 (frAt M0 k).1 ∧ f = .int .i64 (frAt M0 k).2 ∧ Aside0 (k ≤ 8)) (fun _ _ i => 8 - (intOf i).toNat)
    case atStart => exact ⟨0, rfl, rfl, rfl, ⟨by omega⟩⟩
    case round =>
      obtain ⟨k, rfl, hm, hf, HK⟩ := hrel
      have hb := frAt_bound HMB.out.1 HMB.out.2 k
      have hsq := sq_range hb.1 hb.2.1
      have hst : frAt M0 (k + 1) = frStep (frAt M0 k) := rfl
      obtain ⟨M, hM⟩ : ∃ M, M = (frAt M0 k).1 := ⟨_, rfl⟩
      obtain ⟨G, hG⟩ : ∃ G, G = (frAt M0 k).2 := ⟨_, rfl⟩
      rw [← hM] at hm hb hsq
      rw [← hG] at hf hb
      subst hm hf
      obtain ⟨b1, b2, b3, b4⟩ := hb
      have hp : (2 : Int) ^ k ≤ 256 := by
        have := Nat.pow_le_pow_right (n := 2) (by omega) HK.out
        have e : ((2 ^ k : Nat) : Int) = (2 : Int) ^ k := by simp
        omega
      have b5 : G < 256 := by omega
      clear b4 hp
      by_cases hlt : k < 8
      · have HLT := Aside0.mk hlt
        have hd2 : decide ((k : Int) < 8) = true := decide_eq_true (by omega)
        have hQ : wrap64 (M * M) / 1073741824 = M * M / 1073741824 := by unfold wrap64; omega
        obtain ⟨Q, hQ2⟩ : ∃ Q, Q = M * M / 1073741824 := ⟨_, rfl⟩
        have q1 : 1073741824 ≤ Q := by omega
        have q2 : Q < 4294967296 := by omega
        rw [← hQ2] at hQ
        have HST := Aside0.mk (show frAt M0 (k + 1) = if 2147483648 ≤ Q then (Q / 2, 2 * G + 1) else (Q, 2 * G) by rw [hst, frStep, ← hM, ← hG, ← hQ2])
        clear hst hM hG hsq hQ2
        by_cases hc : 2147483648 ≤ Q
        · have HCQ := Aside0.mk hc
          have hcd : decide (2147483648 ≤ Q) = true := decide_eq_true hc
          clear hc
          go_wp2
          go_round
          case rel => exact ⟨k + 1, by go_num, by rw [HST.out, if_pos HCQ.out], by rw [HST.out, if_pos HCQ.out], ⟨HLT.out⟩⟩
          case measure => have := HLT.out; simp [intOf]; omega
        · have HCQ := Aside0.mk hc
          have hcd : decide (2147483648 ≤ Q) = false := decide_eq_false hc
          clear hc
          go_wp2
          go_round
          case rel => exact ⟨k + 1, by go_num, by rw [HST.out, if_neg HCQ.out], by rw [HST.out, if_neg HCQ.out], ⟨HLT.out⟩⟩
          case measure => have := HLT.out; simp [intOf]; omega
      · have hd2 : decide ((k : Int) < 8) = false := decide_eq_false (by omega)
        obtain rfl : k = 8 := by have := HK.out; omega
        have HG := Aside0.mk hG
        clear hlt hst hM hG hsq
        go_wp2
        go_ret2
        exact ⟨by rw [← HG.out]; rfl, below_alloc (Below.refl _ _) _⟩
  · rw [if_neg hc] at h
    exact absurd h (by simp)

/-! ### stereo_cost: function 48 -/
def stereo_cost.l0 : Nat → Int → List Int → Int → Int → Option (Int)
  | 0, _, _, _, _ => none
  | k + 1, x3, x8, x9, x10 => if x10 < x9 then (if 0 ≤ x10 then (if x10 < (x8.length : Int) then ((fixed_Log.f (wrap64 ((mx (rd x8 x10) (wrap64 (-(rd x8 x10)))) + 1))).bind fun bt102 => (stereo_cost.l0 k (wrap64 (x3 + bt102.1)) x8 x9 (wrap64 (x10 + 1)))) else (none)) else (none)) else (some x3)
def stereo_cost.f (k : Nat) (l0 : List Int) : Option (Int) := stereo_cost.l0 k 0 l0 (l0.length : Int) 0
theorem stereo_cost.mono_l : ∀ k, (∀ y0 y1 y2 y3, LeO (stereo_cost.l0 k y0 y1 y2 y3) (stereo_cost.l0 (k + 1) y0 y1 y2 y3))
  | 0 => fun _ _ _ _ r h => by simp [stereo_cost.l0] at h
  | k + 1 => by
    have ih0 := stereo_cost.mono_l k
    · intro y0 y1 y2 y3
      unfold stereo_cost.l0
      repeat' first
      | (with_reducible exact ih0 _ _ _ _)
      | (with_reducible exact LeO.refl _)
      | (with_reducible exact LeO.none _)
      | (with_reducible refine LeO.ite ?_ ?_)
      | (with_reducible refine LeO.bind ?_ (fun _ => ?_))
      | exact ih0 _ _ _ _
      | exact LeO.none _
      | refine LeO.ite ?_ ?_
      | refine LeO.bind ?_ (fun _ => ?_)
theorem stereo_cost.mono : ∀ a0 k, LeO (stereo_cost.f k a0) (stereo_cost.f (k + 1) a0) := by
  intro a0 k
  have ih0 := stereo_cost.mono_l k
  unfold stereo_cost.f
  repeat' first
      | (with_reducible exact ih0 _ _ _ _)
      | (with_reducible exact LeO.refl _)
      | (with_reducible exact LeO.none _)
      | (with_reducible refine LeO.ite ?_ ?_)
      | (with_reducible refine LeO.bind ?_ (fun _ => ?_))
      | exact ih0 _ _ _ _
      | exact LeO.none _
      | refine LeO.ite ?_ ?_
      | refine LeO.bind ?_ (fun _ => ?_)
set_option maxHeartbeats 8000000 in
set_option maxRecDepth 100000 in
theorem stereo_cost.calls (k : Nat) (A0 : Option Addr) (c0 : Nat) (l0 : List Int) (r : Int) (w : World) (hr0 : Kd.C (Kd.int .i64) w A0 l0.length l0) (hc0 : l0.length ≤ c0) (h : stereo_cost.f k l0 = some r) :
    Calls Try.prog 48 #[.slice A0 l0.length c0] w fun e w' => e = .returned (.int .i64 r) ∧ Below w.heap.size w w' := by
  have HR0 := Aside0.mk hr0
  have HC0 := Aside0.mk hc0
  clear hr0 hc0
  have HB := Aside0.mk (Below.refl w.heap.size w)
  have H : (stereo_cost.l0 k 0 l0 (l0.length : Int) 0) = some r := h
  clear h
  have H' := Aside0.mk H
  clear H
  go_enter Try.func48, Try.ntmps48
  go_wp2
  go_loopg [3, 10] k (fun kq v3 v10 w' => ∃ (x3_1 : Int) (x10_1 : Int), v3 = .int .i64 x3_1 ∧ v10 = .int .i64 x10_1 ∧ Aside0 (stereo_cost.l0 kq x3_1 l0 (l0.length : Int) x10_1 = some r) ∧ Aside0 (kq ≤ k) ∧ Aside0 (Below w.heap.size w w'))
  case atStart => exact ⟨(0), (0), (by first | rfl | (simp; done) | (simp [*]; done)), (by first | rfl | (simp; done) | (simp [*]; done)), H', ⟨Nat.le_refl _⟩, ⟨by repeat (first | (with_reducible first | exact HB.out | apply below_alloc | apply pw_below_drewN | apply below_drew1) | exact HB.out)⟩⟩
  case round =>
    clear H'
    obtain ⟨x3_1, x10_1, rfl, rfl, HA, HK1, HB⟩ := hrel
    cases gk with
    | zero => exact absurd HA.out (by simp [stereo_cost.l0])
    | succ k1 =>
      have H := HA.out
      clear HA
      simp only [stereo_cost.l0] at H
      by_cases c2 : x10_1 < (l0.length : Int)
      · rw [if_pos c2] at H
        have c2b0 : decide (x10_1 < (l0.length : Int)) = true := decide_eq_true c2
        clear c2
        by_cases c3 : 0 ≤ x10_1
        · rw [if_pos c3] at H
          have c3b0 : decide (0 ≤ x10_1) = true := decide_eq_true c3
          clear c3
          by_cases c4 : x10_1 < (l0.length : Int)
          · rw [if_pos c4] at H
            have c4b0 : decide (x10_1 < (l0.length : Int)) = true := decide_eq_true c4
            clear c4
            obtain ⟨ji5, hji5⟩ : ∃ j_ : Int, (mx (rd l0 x10_1) (wrap64 (-(rd l0 x10_1)))) = j_ := ⟨_, rfl⟩
            replace H : ((fixed_Log.f (wrap64 ((ji5) + 1))).bind fun bt102 => (stereo_cost.l0 k1 (wrap64 (x3_1 + bt102.1)) l0 (l0.length : Int) (wrap64 (x10_1 + 1)))) = some r := by first | (rw [hji5] at H; exact H) | (simp only [hji5] at H ⊢; exact H)
            have hji5_ : (if (rd l0 x10_1) < (wrap64 (-(rd l0 x10_1))) then (wrap64 (-(rd l0 x10_1))) else (rd l0 x10_1)) = ji5 := hji5
            replace H := Option.bind_eq_some_iff.mp H
            obtain ⟨⟨t102, t103⟩, A60, H⟩ := H
            replace H : (stereo_cost.l0 k1 (wrap64 (x3_1 + t102)) l0 (l0.length : Int) (wrap64 (x10_1 + 1))) = some r := H
            have A6 := Aside0.mk A60
            clear A60
            have H' := Aside0.mk H
            clear H
            have p101 : 0 ≤ (x10_1 : Int) := of_decide_eq_true (by first | (with_reducible assumption) | assumption)
            have q101 : x10_1 < (l0.length : Int) := of_decide_eq_true (by first | (with_reducible assumption) | assumption)
            obtain ⟨ad101, e101, hx101_0⟩ := Kd.at_int HR0.out x10_1 p101 q101
            cases e101
            replace hx101_0 := (HB.out.cell (World.block_lt_of_cell? w _ hx101_0)).trans hx101_0
            replace p101 := eq_true p101
            replace q101 := eq_true q101
            go_wp2_with (first | ((with_reducible refine gate_callee (f := 54) rfl ?_); refine goesL_ (some 20) rfl rfl Try.func54 (by kernel_rfl) rfl #[.int .i64 (wrap64 ((ji5) + 1))] rfl (by (try simp only [List.map_toArray, List.map_cons, List.map_nil]); first | done | (simp only [hji5]; rfl) | rfl | (simp only [List.length_drop, List.length_take]; rfl)) ?_; (with_reducible refine (fixed_Log.calls (wrap64 ((ji5) + 1)) t102 t103 _ A6.out).mono ?_); rintro e w7 ⟨rfl, hb⟩; refine ⟨_, rfl, ?_⟩; have n0_ := Aside0.mk (below_step (by repeat (first | (with_reducible first | exact HB.out | apply below_alloc | apply pw_below_drewN | apply below_drew1) | exact HB.out)) hb); clear HB; have HB := n0_; clear n0_; (try clear hb); (try clear hb2); (try clear hk); (try clear hi)))
            go_roundg k1
            case measure => have := HK1.out; omega
            case rel => exact ⟨(wrap64 (x3_1 + t102)), (wrap64 (x10_1 + 1)), (by first | rfl | (simp; done) | (simp [*]; done)), (by first | rfl | (simp; done) | (simp [*]; done)), H', ⟨by have := HK1.out; omega⟩, ⟨by repeat (first | (with_reducible first | exact HB.out | apply below_alloc | apply pw_below_drewN | apply below_drew1) | exact HB.out)⟩⟩
          · rw [if_neg c4] at H
            exact absurd H (by simp)
        · rw [if_neg c3] at H
          exact absurd H (by simp)
      · rw [if_neg c2] at H
        have c2b0 : decide (x10_1 < (l0.length : Int)) = false := decide_eq_false c2
        clear c2
        obtain rfl := Option.some.inj H
        go_wp2
        go_ret
        exact ⟨by first | rfl | (simp [errW_none, errW_some] <;> rfl) | (simp [*, errW_none, errW_some] <;> rfl), by repeat (first | (with_reducible first | exact HB.out | apply below_alloc | apply pw_below_drewN | apply below_drew1) | exact HB.out)⟩

-- NOT PRINTED: function 50 (lift_isWithin)

/-! ### lift_Mid: function 30 (by hand) -/
/-- A number that is at most m from 0. -/
def inB (m x : Int) : Bool := decide (-m ≤ x) && decide (x ≤ m)
set_option maxHeartbeats 2000000 in
theorem within1_calls (m x : Int) (b : Nat) (w : World) (hm0 : 0 ≤ m) (hm : m ≤ 4294967296) (hb : w.cell? ⟨b, 0, none⟩ = some (.int .i64 m)) :
    Calls Try.prog 55 #[.int .i64 x, .pointer (some ⟨b, 0, none⟩)] w fun e w' => e = .returned (.bool (inB m x)) ∧ w' = w := by
  unfold inB
  by_cases h1 : -m ≤ x
  · have h1b : decide (-m ≤ x) = true := decide_eq_true h1
    go_enter Try.func55, Try.ntmps55
    go_wp2
    go_ret
    exact ⟨by first | rfl | (rw [h1b, Bool.true_and]; rfl), rfl⟩
  · have h1b : decide (-m ≤ x) = false := decide_eq_false h1
    go_enter Try.func55, Try.ntmps55
    go_wp2
    go_ret
    exact ⟨by first | rfl | (rw [h1b, Bool.false_and]; rfl), rfl⟩
set_option maxHeartbeats 2000000 in
theorem isWithin_calls (m : Int) (w : World) :
    Calls Try.prog 50 #[.int .i64 m] w fun e w' => e = .returned (.func (.func 55) #[] #[.pointer (some ⟨w.heap.size, 0, none⟩)]) ∧ w' = w.alloc (.cells #[.int .i64 m] 3) := by
  go_enter Try.func50, Try.ntmps50
  go_wp2
  go_ret
  exact ⟨rfl, rfl⟩
def lift_Mid.f (a0 a1 : Int) : Option (Int × Int × Int) := if inB 1073741824 a0 = true then (if inB 1073741824 a1 = true then some (a1 + (a0 - a1) / 2, a0 - a1, 0) else some (0, 0, 6)) else some (0, 0, 6)
set_option maxHeartbeats 4000000 in
theorem lift_Mid.calls (a0 a1 r1 r2 r3 : Int) (w : World) (h : lift_Mid.f a0 a1 = some (r1, r2, r3)) :
    Calls Try.prog 30 #[.int .i64 a0, .int .i64 a1] w fun e w' => e = .returned (.tuple #[.int .i64 r1, .int .i64 r2, .int .i64 r3]) ∧ Below w.heap.size w w' := by
  unfold lift_Mid.f at h
  by_cases h0 : inB 1073741824 a0 = true
  · rw [if_pos h0] at h
    by_cases h1 : inB 1073741824 a1 = true
    · rw [if_pos h1] at h
      simp only [Option.some.injEq, Prod.mk.injEq] at h
      obtain ⟨rfl, rfl, rfl⟩ := h
      have hb0 : -1073741824 ≤ a0 ∧ a0 ≤ 1073741824 := by unfold inB at h0; simpa using h0
      have hb1 : -1073741824 ≤ a1 ∧ a1 ≤ 1073741824 := by unfold inB at h1; simpa using h1
      obtain ⟨p1, p2⟩ := hb0
      obtain ⟨p3, p4⟩ := hb1
      go_enter Try.func30, Try.ntmps30
      go_wp2_with (first | (go_at_call 50; refine (isWithin_calls _ _).mono ?_; rintro e w' ⟨rfl, rfl⟩) | (go_at_call 55; refine (within1_calls 1073741824 _ w.heap.size _ (by omega) (by omega) (by simp)).mono ?_; rintro e w' ⟨rfl, rfl⟩))
      go_ret3
      exact ⟨rfl, below_alloc (Below.refl _ _) _⟩
    · rw [if_neg h1] at h
      simp only [Option.some.injEq, Prod.mk.injEq] at h
      obtain ⟨rfl, rfl, rfl⟩ := h
      have h1b : inB 1073741824 a1 = false := by simpa using h1
      clear h1
      go_enter Try.func30, Try.ntmps30
      go_wp2_with (first | (go_at_call 50; refine (isWithin_calls _ _).mono ?_; rintro e w' ⟨rfl, rfl⟩) | (go_at_call 55; refine (within1_calls 1073741824 _ w.heap.size _ (by omega) (by omega) (by simp)).mono ?_; rintro e w' ⟨rfl, rfl⟩))
      go_ret3
      exact ⟨rfl, below_alloc (Below.refl _ _) _⟩
  · rw [if_neg h0] at h
    simp only [Option.some.injEq, Prod.mk.injEq] at h
    obtain ⟨rfl, rfl, rfl⟩ := h
    have h0b : inB 1073741824 a0 = false := by simpa using h0
    clear h0
    go_enter Try.func30, Try.ntmps30
    go_wp2_with (first | (go_at_call 50; refine (isWithin_calls _ _).mono ?_; rintro e w' ⟨rfl, rfl⟩) | (go_at_call 55; refine (within1_calls 1073741824 _ w.heap.size _ (by omega) (by omega) (by simp)).mono ?_; rintro e w' ⟨rfl, rfl⟩))
    go_ret3
    exact ⟨rfl, below_alloc (Below.refl _ _) _⟩

/-! ### lift_Sides: function 42 (by hand) -/
def lift_Sides.f (a0 a1 : Int) : Option (Int × Int × Int) := if inB 4294967296 a0 = true then (if inB 4294967296 a1 = true then some (a0 - a1 / 2 + a1, a0 - a1 / 2, 0) else some (0, 0, 6)) else some (0, 0, 6)
set_option maxHeartbeats 4000000 in
theorem lift_Sides.calls (a0 a1 r1 r2 r3 : Int) (w : World) (h : lift_Sides.f a0 a1 = some (r1, r2, r3)) :
    Calls Try.prog 42 #[.int .i64 a0, .int .i64 a1] w fun e w' => e = .returned (.tuple #[.int .i64 r1, .int .i64 r2, .int .i64 r3]) ∧ Below w.heap.size w w' := by
  unfold lift_Sides.f at h
  by_cases h0 : inB 4294967296 a0 = true
  · rw [if_pos h0] at h
    by_cases h1 : inB 4294967296 a1 = true
    · rw [if_pos h1] at h
      simp only [Option.some.injEq, Prod.mk.injEq] at h
      obtain ⟨rfl, rfl, rfl⟩ := h
      have hb0 : -4294967296 ≤ a0 ∧ a0 ≤ 4294967296 := by unfold inB at h0; simpa using h0
      have hb1 : -4294967296 ≤ a1 ∧ a1 ≤ 4294967296 := by unfold inB at h1; simpa using h1
      obtain ⟨p1, p2⟩ := hb0
      obtain ⟨p3, p4⟩ := hb1
      go_enter Try.func42, Try.ntmps42
      go_wp2_with (first | (go_at_call 50; refine (isWithin_calls _ _).mono ?_; rintro e w' ⟨rfl, rfl⟩) | (go_at_call 55; refine (within1_calls 4294967296 _ w.heap.size _ (by omega) (by omega) (by simp)).mono ?_; rintro e w' ⟨rfl, rfl⟩))
      go_ret3
      exact ⟨rfl, below_alloc (Below.refl _ _) _⟩
    · rw [if_neg h1] at h
      simp only [Option.some.injEq, Prod.mk.injEq] at h
      obtain ⟨rfl, rfl, rfl⟩ := h
      have h1b : inB 4294967296 a1 = false := by simpa using h1
      clear h1
      go_enter Try.func42, Try.ntmps42
      go_wp2_with (first | (go_at_call 50; refine (isWithin_calls _ _).mono ?_; rintro e w' ⟨rfl, rfl⟩) | (go_at_call 55; refine (within1_calls 4294967296 _ w.heap.size _ (by omega) (by omega) (by simp)).mono ?_; rintro e w' ⟨rfl, rfl⟩))
      go_ret3
      exact ⟨rfl, below_alloc (Below.refl _ _) _⟩
  · rw [if_neg h0] at h
    simp only [Option.some.injEq, Prod.mk.injEq] at h
    obtain ⟨rfl, rfl, rfl⟩ := h
    have h0b : inB 4294967296 a0 = false := by simpa using h0
    clear h0
    go_enter Try.func42, Try.ntmps42
    go_wp2_with (first | (go_at_call 50; refine (isWithin_calls _ _).mono ?_; rintro e w' ⟨rfl, rfl⟩) | (go_at_call 55; refine (within1_calls 4294967296 _ w.heap.size _ (by omega) (by omega) (by simp)).mono ?_; rintro e w' ⟨rfl, rfl⟩))
    go_ret3
    exact ⟨rfl, below_alloc (Below.refl _ _) _⟩

end Go.Proofs.Ytjplalkgabpinaa.Hn
