/- Chapter 23: the reference's Least: what it answers, for any bound and sizes (at most 200 sizes). -/
import Derived.Test.YtacoekniljimoaaDoorRP
namespace Go.Proofs.YtacoekniljimoaaDoor.Res
open Go.RowKit Go.Proofs.YtacoekniljimoaaDoorW.PrintWords Go.Proofs.YtacoekniljimoaaDoorW.PrintLast Go.Proofs.YtacoekniljimoaaDoorW.PrintMore
attribute [local go_sem] max2_int min2_int max_two min_two
set_option linter.unusedVariables false
set_option linter.unusedSimpArgs false
/-- Bad input of Least. -/
def badL (b : Int) (xs : List Int) : Prop := ¬ (0 ≤ b ∧ b ≤ 511) ∨ ∃ i : Nat, i < xs.length ∧ rd xs (i : Int) < 0
/-- What Least answers. -/
def IsLeast (b : Int) (xs : List Int) (y h : Int) : Prop :=
  (badL b xs ∧ y = 0 ∧ h = 6) ∨ (¬ badL b xs ∧ 1 ≤ y ∧ y ≤ 2047 ∧ h = 0 ∧ planE y b xs = 0 ∧ ∀ j : Int, 1 ≤ j → j < y → planE j b xs ≠ 0) ∨
    (¬ badL b xs ∧ y = 0 ∧ h = 5 ∧ ∀ j : Int, 1 ≤ j → j ≤ 2047 → planE j b xs ≠ 0)
theorem IsLeast.same {b : Int} {xs : List Int} {y h y' h' : Int} (a : IsLeast b xs y h) (c : IsLeast b xs y' h') : y = y' ∧ h = h' := by
  rcases a with ⟨a1, rfl, rfl⟩ | ⟨a1, a2, a3, rfl, a5, a6⟩ | ⟨a1, rfl, rfl, a4⟩ <;> rcases c with ⟨c1, rfl, rfl⟩ | ⟨c1, c2, c3, rfl, c5, c6⟩ | ⟨c1, rfl, rfl, c4⟩
  · exact ⟨rfl, rfl⟩
  · exact absurd a1 c1
  · exact absurd a1 c1
  · exact absurd c1 a1
  · refine ⟨?_, rfl⟩
    by_cases h1 : y < y'
    · exact absurd a5 (c6 y a2 h1)
    · by_cases h2 : y' < y
      · exact absurd c5 (a6 y' c2 h2)
      · omega
  · exact absurd a5 (c4 y a2 a3)
  · exact absurd c1 a1
  · exact absurd c5 (a4 y' c2 c3)
  · exact ⟨rfl, rfl⟩
theorem rplan_at {m b : Int} {A : Option Addr} {c : Nat} {xs : List Int} {n : Nat} {w : World} (E : Int) (hn : xs.length = n) (hr : Kd.C (Kd.int .i64) w A n xs) (hc : n ≤ c) (hl : n ≤ 200) (hE : planE m b xs = E) :
    Calls Tryd.prog 12 #[.int .i64 m, .int .i64 b, .slice A n c] w fun e w' => ∃ v u, e = .returned (.tuple #[v, u, .int .i64 E]) ∧ Below w.heap.size w w' := by
  subst hE
  refine (rplan_any m b A c xs n w hn hr hc hl).mono ?_
  rintro e w' ⟨v, u, rfl, _, _, hb⟩
  exact ⟨v, u, rfl, hb⟩
set_option maxRecDepth 100000 in
set_option maxHeartbeats 4000000 in
theorem rleast_any (b : Int) (A : Option Addr) (c : Nat) (xs : List Int) (n : Nat) (w : World) (hn : xs.length = n) (hr : Kd.C (Kd.int .i64) w A n xs) (hc : n ≤ c) (hl : n ≤ 200) :
    Calls Tryd.prog 14 #[.int .i64 b, .slice A n c] w fun e w' => ∃ y h, e = .returned (.tuple #[.int .i64 y, .int .i64 h]) ∧ Aside0 (IsLeast b xs y h) ∧ Below w.heap.size w w' := by
  have HN := Aside0.mk hn
  have HR := Aside0.mk hr
  have HC := Aside0.mk hc
  clear hn hr hc
  by_cases h1 : b < 0
  · have HB : Aside0 (badL b xs) := ⟨.inl (by omega)⟩
    go_enter Tryd.func14, Tryd.ntmps14
    go_wp2
    go_ret2
    exact ⟨_, _, rfl, ⟨.inl ⟨HB.out, rfl, rfl⟩⟩, Below.refl _ _⟩
  · by_cases h2 : 511 < b
    · have HB : Aside0 (badL b xs) := ⟨.inl (by omega)⟩
      go_enter Tryd.func14, Tryd.ntmps14
      go_wp2
      go_ret2
      exact ⟨_, _, rfl, ⟨.inl ⟨HB.out, rfl, rfl⟩⟩, Below.refl _ _⟩
    · have HBD := Aside0.mk (show 0 ≤ b ∧ b ≤ 511 by omega)
      go_enter Tryd.func14, Tryd.ntmps14
      go_wp2
      go_loop [20] (fun i => ∃ k : Nat, i = .int .i64 (k : Int) ∧ Aside0 (k ≤ n) ∧ Aside0 (∀ j : Nat, j < k → 0 ≤ rd xs (j : Int))) (fun i => n - (intOf i).toNat)
      case atStart => exact ⟨0, rfl, ⟨by omega⟩, ⟨fun j hj => by omega⟩⟩
      case round =>
        obtain ⟨k, rfl, HK, HP⟩ := hrel
        by_cases hk : k < n
        · have hk1 : (k : Int) < (n : Int) := by omega
          have hk0 : (0 : Int) ≤ (k : Int) := by omega
          have HKT := Aside0.mk hk
          obtain ⟨ad, rfl, hx⟩ := Kd.at_int HR.out (k : Int) (by omega) (by omega)
          rw [Int.toNat_natCast] at hx
          clear hk
          by_cases hz : rd xs (k : Int) < 0
          · have HB : Aside0 (badL b xs) := ⟨.inr ⟨k, by rw [HN.out]; exact HKT.out, hz⟩⟩
            go_wp2
            go_ret2
            exact ⟨_, _, rfl, ⟨.inl ⟨HB.out, rfl, rfl⟩⟩, Below.refl _ _⟩
          · have HZ := Aside0.mk hz
            go_wp2
            go_round
            case rel =>
              refine ⟨k + 1, by go_num, ⟨HKT.out⟩, ⟨fun j hj => ?_⟩⟩
              by_cases e : j = k
              · subst e; have := HZ.out; omega
              · exact HP.out j (by omega)
            case measure => have := HKT.out; simp [intOf]; omega
        · have hkn : k = n := by have := HK.out; omega
          subst hkn
          have HG : Aside0 (¬ badL b xs) := ⟨fun h => by
            rcases h with h | ⟨i, hi, h⟩
            · exact h HBD.out
            · have := HP.out i (by rw [← HN.out]; exact hi); omega⟩
          go_wp2
          go_loopw [8] (fun i wr => ∃ q : Nat, i = .int .i64 ((q : Int) + 1) ∧ Aside0 (q ≤ 2047) ∧ Aside0 (∀ j : Int, 1 ≤ j → j ≤ (q : Int) → planE j b xs ≠ 0) ∧ Aside0 (Below w.heap.size w wr)) (fun i _ => 2048 - (intOf i).toNat)
          case atStart => exact ⟨0, rfl, ⟨by omega⟩, ⟨fun j h1 h2 => by omega⟩, ⟨Below.refl _ _⟩⟩
          case round =>
            obtain ⟨q, rfl, HQ, HJ, HBW⟩ := hrel
            by_cases hq : q < 2047
            · have HQT := Aside0.mk hq
              have hq1 : (q : Int) + 1 ≤ 2047 := by omega
              have hq0 : (0 : Int) ≤ (q : Int) := by omega
              clear hq
              by_cases hz : planE ((q : Int) + 1) b xs = 0
              · have HZ := Aside0.mk hz
                clear hz
                go_wp2_with (go_at_call 12; refine (rplan_at 0 HN.out (Kd.C_below HR.out HBW.out) HC.out hl HZ.out).mono ?_; rintro e w2 ⟨v, u, rfl, hb⟩; have HB2 := Aside0.mk hb; clear hb)
                go_ret2
                exact ⟨_, _, rfl, ⟨.inr (.inl ⟨HG.out, by omega, by omega, rfl, HZ.out, fun j h1 h2 => HJ.out j h1 (by omega)⟩)⟩, below_step HBW.out HB2.out⟩
              · obtain ⟨E, hE⟩ : ∃ E, E = planE ((q : Int) + 1) b xs := ⟨_, rfl⟩
                have hne : (E == 0) = false := beq_eq_false_iff_ne.2 (by rw [hE]; exact hz)
                have HE := Aside0.mk hE
                have HZ := Aside0.mk hz
                clear hE hz
                go_wp2_with (go_at_call 12; refine (rplan_at E HN.out (Kd.C_below HR.out HBW.out) HC.out hl HE.out.symm).mono ?_; rintro e w2 ⟨v, u, rfl, hb⟩; have HB2 := Aside0.mk hb; clear hb)
                go_roundw
                case rel =>
                  refine ⟨q + 1, by go_num, ⟨HQT.out⟩, ⟨fun j h1 h2 => ?_⟩, ⟨below_step HBW.out HB2.out⟩⟩
                  by_cases e : j = (q : Int) + 1
                  · rw [e]; exact HZ.out
                  · exact HJ.out j h1 (by omega)
                case measure => have := HQT.out; simp [intOf]; omega
            · have hqn : q = 2047 := by have := HQ.out; omega
              subst hqn
              go_wp2
              go_ret2
              exact ⟨_, _, rfl, ⟨.inr (.inr ⟨HG.out, rfl, rfl, fun j h1 h2 => HJ.out j h1 (by omega)⟩)⟩, HBW.out⟩
end Go.Proofs.YtacoekniljimoaaDoor.Res
