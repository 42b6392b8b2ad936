/- Chapter 23: the law ReservoirLeast returns true. Conditions: none but what the limits hold. -/
import Derived.Test.YtacoekniljimoaaDoorLP
namespace Go.Proofs.YtacoekniljimoaaDoor.Res
open Go.RowKit Go.Proofs.YtacoekniljimoaaDoorW.PrintWords Go.Proofs.YtacoekniljimoaaDoorW.PrintLast Go.Proofs.YtacoekniljimoaaDoorW.PrintMore
set_option linter.unusedVariables false
set_option linter.unusedSimpArgs false
set_option maxRecDepth 100000 in
set_option maxHeartbeats 8000000 in
theorem least_law (b : Int) (A : Option Addr) (c : Nat) (xs : List Int) (n : Nat) (o : Int) {w : World} (hL : Lim w) (hn : xs.length = n) (hr : Kd.C (Kd.int .i64) w A n xs) (hc : n ≤ c) (ho : 0 ≤ o ∧ o ≤ 65535) :
    Calls Tryd.prog 6 #[.int .i64 b, .slice A n c, .int .u16 o] w fun e w' => e = .returned (.bool true) ∧ Below w.heap.size w w' := by
  have HL := Aside0.mk hL
  have HR := Aside0.mk hr
  have HN := Aside0.mk hn
  have HC := Aside0.mk hc
  obtain ⟨ho1, ho2⟩ := ho
  clear hL hn hr hc
  by_cases h : 60 < n
  · have h1 : (60 : Int) < (n : Int) := by omega
    go_enter Tryd.func6, Tryd.ntmps6
    go_wp2_with (go_at_call 10; refine (awake_any HL.out).mono ?_; rintro e w1 ⟨rfl, hb⟩; have HB := Aside0.mk hb; clear hb)
    go_ret
    exact ⟨rfl, HB.out⟩
  · have h1 : ¬ (60 : Int) < (n : Int) := by omega
    have hl : n ≤ 200 := by omega
    go_enter Tryd.func6, Tryd.ntmps6
    go_upto_region 4 with (go_at_call 13; refine (least_any b A c xs n w HL.out HN.out HR.out HC.out hl).mono ?_; rintro e w1 ⟨y, h, rfl, HLS, hb⟩; have HB1 := Aside0.mk hb; clear hb)
    rcases HLS.out with ⟨hbad, rfl, rfl⟩ | ⟨hgood, hy1, hy2, rfl, hy0, hno⟩ | ⟨hgood, rfl, rfl, hno⟩
    · clear hbad
      go_wp2_with (go_at_call 10; refine (awake_any (HL.out.below' HB1.out)).mono ?_; rintro e w2 ⟨rfl, hb⟩; have HB2 := Aside0.mk (below_step HB1.out hb); clear hb)
      go_ret
      exact ⟨rfl, HB2.out⟩
    · have HG := Aside0.mk hgood
      have HY0 := Aside0.mk hy0
      have HNO := Aside0.mk hno
      clear hgood hy0 hno
      go_wp2
      obtain ⟨r, hr⟩ : ∃ r, r = 1 + o % 2047 := ⟨_, rfl⟩
      have hrow := lit_row (k := .i64) w1 3 [y - 1, y, y + 1, r, 2047] (by simp)
      simp only [List.map_cons, List.map_nil] at hrow
      rw [← hr]
      have HBB := Aside0.mk (below_alloc (Below.refl w1.heap.size w1) (.cells #[.int .i64 (y - 1), .int .i64 y, .int .i64 (y + 1), .int .i64 r, .int .i64 2047] 3))
      obtain ⟨W2, hW2⟩ : ∃ W2, W2 = w1.alloc (.cells #[.int .i64 (y - 1), .int .i64 y, .int .i64 (y + 1), .int .i64 r, .int .i64 2047] 3) := ⟨_, rfl⟩
      obtain ⟨g, hg⟩ : ∃ g, g = w1.heap.size := ⟨_, rfl⟩
      rw [← hW2] at hrow HBB ⊢
      rw [← hg] at hrow ⊢
      have HROW := Aside0.mk hrow
      have HB2 := Aside0.mk (below_step HB1.out HBB.out)
      obtain ⟨ms, hms⟩ : ∃ ms, ms = [y - 1, y, y + 1, r, 2047] := ⟨_, rfl⟩
      have HLEN := Aside0.mk (show ms.length = 5 by rw [hms]; rfl)
      rw [← hms] at HROW
      clear hr hrow hW2 hg HBB hms
      go_loopw [63] (fun i wr => ∃ k : Nat, i = .int .i64 (k : Int) ∧ Aside0 (k ≤ 5) ∧ Aside0 (Below W2.heap.size W2 wr)) (fun i _ => 5 - (intOf i).toNat)
      case atStart => exact ⟨0, rfl, ⟨by omega⟩, ⟨Below.refl _ _⟩⟩
      case round =>
        obtain ⟨k, rfl, HK, HB⟩ := hrel
        by_cases hk : k < 5
        · have HKT := Aside0.mk hk
          have hk1 : (k : Int) < 5 := by omega
          have hk0 : (0 : Int) ≤ (k : Int) := by omega
          obtain ⟨ad, ea, hx⟩ := Kd.at_int (Kd.C_below HROW.out HB.out) (k : Int) (by omega) (by rw [HLEN.out]; omega)
          cases ea
          simp only [Int.toNat_natCast, Addr.add_lit, Nat.zero_add] at hx
          obtain ⟨z, hz⟩ : ∃ z, z = rd ms (k : Int) := ⟨_, rfl⟩
          rw [← hz] at hx
          have HB2r := Aside0.mk (below_step HB2.out HB.out)
          clear hk hz
          by_cases hz1 : z < 1
          · go_wp2
            go_roundw
            case rel => exact ⟨k + 1, by go_num, ⟨HKT.out⟩, HB⟩
            case measure => have := HKT.out; simp [intOf]; omega
          · by_cases hz2 : 2047 < z
            · go_wp2
              go_roundw
              case rel => exact ⟨k + 1, by go_num, ⟨HKT.out⟩, HB⟩
              case measure => have := HKT.out; simp [intOf]; omega
            · by_cases hzy : z < y
              · have HE := Aside0.mk (planE_full HG.out (by omega) (by omega) (HNO.out z (by omega) hzy))
                go_wp2_with (go_at_call 11; refine (plan_at 2 (HL.out.below' HB2r.out) HN.out (Kd.C_below HR.out HB2r.out) HC.out hl HE.out).mono ?_; rintro e w2 ⟨v, u, rfl, hb⟩; have HB3 := Aside0.mk (below_step HB.out hb); clear hb)
                go_roundw
                case rel => exact ⟨k + 1, by go_num, ⟨HKT.out⟩, HB3⟩
                case measure => have := HKT.out; simp [intOf]; omega
              · have HE := Aside0.mk (planE_mono HG.out hy1 (show y ≤ z by omega) (by omega) HY0.out)
                go_wp2_with (go_at_call 11; refine (plan_at 0 (HL.out.below' HB2r.out) HN.out (Kd.C_below HR.out HB2r.out) HC.out hl HE.out).mono ?_; rintro e w2 ⟨v, u, rfl, hb⟩; have HB3 := Aside0.mk (below_step HB.out hb); clear hb)
                go_roundw
                case rel => exact ⟨k + 1, by go_num, ⟨HKT.out⟩, HB3⟩
                case measure => have := HKT.out; simp [intOf]; omega
        · have hkn : k = 5 := by have := HK.out; omega
          subst hkn
          go_wp2_with (go_at_call 10; refine (awake_any (HL.out.below' (below_step HB2.out HB.out))).mono ?_; rintro e w2 ⟨rfl, hb⟩; have HB3 := Aside0.mk (below_step (below_step HB2.out HB.out) hb); clear hb)
          go_ret
          exact ⟨rfl, HB3.out⟩
    · have HE := Aside0.mk (planE_full hgood (by omega) (by omega) (hno 2047 (by omega) (by omega)))
      clear hgood hno
      go_wp2_with (first
        | (go_at_call 11; refine (plan_at 2 (HL.out.below' HB1.out) HN.out (Kd.C_below HR.out HB1.out) HC.out hl HE.out).mono ?_; rintro e w2 ⟨v, u, rfl, hb⟩; have HB2 := Aside0.mk (below_step HB1.out hb); clear hb)
        | (go_at_call 10; refine (awake_any (HL.out.below' HB2.out)).mono ?_; rintro e w3 ⟨rfl, hb⟩; have HB3 := Aside0.mk (below_step HB2.out hb); clear hb))
      go_ret
      exact ⟨rfl, HB3.out⟩
end Go.Proofs.YtacoekniljimoaaDoor.Res
