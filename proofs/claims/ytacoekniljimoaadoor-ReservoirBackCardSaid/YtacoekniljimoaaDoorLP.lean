/- Chapter 23: the law ReservoirPlans returns true. Conditions: none but what the limits hold. -/
import Derived.Test.YtacoekniljimoaaDoorAW
namespace Go.Proofs.YtacoekniljimoaaDoor.Res
open Go.RowKit Go.Proofs.YtacoekniljimoaaDoorW.PrintWords Go.Proofs.YtacoekniljimoaaDoorW.PrintLast Go.Proofs.YtacoekniljimoaaDoorW.PrintMore
set_option linter.unusedVariables false
set_option linter.unusedSimpArgs false
theorem rleast_at {b : Int} {A : Option Addr} {c : Nat} {xs : List Int} {n : Nat} {w : World} (y h : Int) (hn : xs.length = n) (hr : Kd.C (Kd.int .i64) w A n xs) (hc : n ≤ c) (hl : n ≤ 200) (H : IsLeast b xs y h) :
    Calls Tryd.prog 14 #[.int .i64 b, .slice A n c] w fun e w' => e = .returned (.tuple #[.int .i64 y, .int .i64 h]) ∧ Below w.heap.size w w' := by
  refine (rleast_any b A c xs n w hn hr hc hl).mono ?_
  rintro e w' ⟨y', h', rfl, H', hb⟩
  obtain ⟨rfl, rfl⟩ := H.same H'.out
  exact ⟨rfl, hb⟩
theorem box_two (w : World) (x y : Int) : (w.alloc (.cells #[.int .i64 x, .int .i64 y] 22)).cell? ⟨w.heap.size, 0, none⟩ = some (.int .i64 x) ∧ (w.alloc (.cells #[.int .i64 x, .int .i64 y] 22)).cell? ⟨w.heap.size, 1, none⟩ = some (.int .i64 y) := by
  constructor <;> simp
set_option maxRecDepth 100000 in
set_option maxHeartbeats 8000000 in
theorem plans_law (x y : Int) (A : Option Addr) (c : Nat) (xs : List Int) (n : Nat) {w : World} (hL : Lim w) (hn : xs.length = n) (hr : Kd.C (Kd.int .i64) w A n xs) (hc : n ≤ c) :
    Calls Tryd.prog 3 #[.agg #[.int .i64 x, .int .i64 y], .slice A n c] w fun e w' => e = .returned (.bool true) ∧ Below w.heap.size w w' := by
  obtain ⟨N, hN⟩ : ∃ N, N = w.heap.size := ⟨_, rfl⟩
  have HL0 := Aside0.mk (hL.below' (below_alloc (Below.refl _ _) (.cells #[.int .i64 x, .int .i64 y] 22)))
  have HR0 := Aside0.mk (Kd.C_alloc hr (.cells #[.int .i64 x, .int .i64 y] 22))
  have HN := Aside0.mk hn
  have HC := Aside0.mk hc
  have HB0 := Aside0.mk (below_alloc (Below.refl w.heap.size w) (.cells #[.int .i64 x, .int .i64 y] 22))
  have hk := box_two w x y
  have hNlt : N < (w.alloc (.cells #[.int .i64 x, .int .i64 y] 22)).heap.size := by rw [hN]; simp
  rw [← hN] at hk
  have HK0 := Aside0.mk hk
  clear hL hn hr hc hk
  by_cases h : 60 < n
  · have h1 : (60 : Int) < (n : Int) := by omega
    clear hNlt hN HK0
    go_enter Tryd.func3, Tryd.ntmps3
    go_wp2_with (go_at_call 10; refine (awake_any HL0.out).mono ?_; rintro e w1 ⟨rfl, hb⟩; have HB := Aside0.mk (below_step HB0.out hb); clear hb)
    go_ret
    exact ⟨rfl, HB.out⟩
  · have h1 : ¬ (60 : Int) < (n : Int) := by omega
    have hl : n ≤ 200 := by omega
    have hl2 : n ≤ 1000000 := by omega
    go_enter Tryd.func3, Tryd.ntmps3
    go_upto_region 3 with (fail)
    obtain ⟨W0, hW0⟩ : ∃ W0, W0 = w.alloc (.cells #[.int .i64 x, .int .i64 y] 22) := ⟨_, rfl⟩
    rw [← hW0] at HL0 HR0 HB0 HK0 hNlt ⊢
    rw [← hN]
    have HNL := Aside0.mk hNlt
    clear hW0 hN hNlt
    have k0 := HK0.out.1
    have k1 := HK0.out.2
    go_upto_region 4 with (go_at_call 11; refine (plan_any HL0.out HN.out HR0.out HC.out hl).mono ?_; rintro e w1 ⟨v, u, rfl, hv, hu, hb⟩; have HV1 := Aside0.mk hv; have HU1 := Aside0.mk hu; have HB1 := Aside0.mk hb; have HK1 := Aside0.mk (show w1.cell? ⟨N, 0, none⟩ = some (.int .i64 x) ∧ w1.cell? ⟨N, 1, none⟩ = some (.int .i64 y) from ⟨pw_cell_below hb HK0.out.1, pw_cell_below hb HK0.out.2⟩); clear hv hu hb)
    clear k0 k1
    have k0 := HK1.out.1
    have k1 := HK1.out.2
    go_upto_region 5 with (go_at_call 12; refine (rplan_any _ _ _ _ xs n _ HN.out (Kd.C_below HR0.out HB1.out) HC.out hl).mono ?_; rintro e w2 ⟨v2, u2, rfl, hv, hu, hb⟩; have HV2 := Aside0.mk hv; have HU2 := Aside0.mk hu; have HB2 := Aside0.mk hb; have HK2 := Aside0.mk (show w2.cell? ⟨N, 0, none⟩ = some (.int .i64 x) ∧ w2.cell? ⟨N, 1, none⟩ = some (.int .i64 y) from ⟨pw_cell_below hb HK1.out.1, pw_cell_below hb HK1.out.2⟩); clear hv hu hb)
    clear k0 k1
    have k0 := HK2.out.1
    have k1 := HK2.out.2
    have HB02 := Aside0.mk (below_step HB1.out HB2.out)
    go_upto_region 6 with (go_at_call 13; refine (least_any _ _ _ xs n _ (HL0.out.below' HB02.out) HN.out (Kd.C_below HR0.out HB02.out) HC.out hl).mono ?_; rintro e w3 ⟨ly, lh, rfl, HLS, hb⟩; have HB3 := Aside0.mk hb; have HK3 := Aside0.mk (show w3.cell? ⟨N, 0, none⟩ = some (.int .i64 x) ∧ w3.cell? ⟨N, 1, none⟩ = some (.int .i64 y) from ⟨pw_cell_below hb HK2.out.1, pw_cell_below hb HK2.out.2⟩); clear hb)
    clear k0 k1
    have k0 := HK3.out.1
    have k1 := HK3.out.2
    have HB03 := Aside0.mk (below_step HB02.out HB3.out)
    go_upto_region 7 with (go_at_call 14; refine (rleast_at ly lh HN.out (Kd.C_below HR0.out HB03.out) HC.out hl HLS.out).mono ?_; rintro e w4 ⟨rfl, hb⟩; have HB4 := Aside0.mk hb; clear hb)
    clear k0 k1
    have HB04 := Aside0.mk (below_step HB03.out HB4.out)
    obtain ⟨A1, c1, rfl, _, hA1⟩ := (HV1.out.below (below_step HB2.out (below_step HB3.out HB4.out))).out
    obtain ⟨A2, c2, rfl, _, hA2⟩ := (HV2.out.below (below_step HB3.out HB4.out)).out
    obtain ⟨A3, c3, rfl, _, hA3⟩ := (HU1.out.below (below_step HB2.out (below_step HB3.out HB4.out))).out
    obtain ⟨A4, c4, rfl, _, hA4⟩ := (HU2.out.below (below_step HB3.out HB4.out)).out
    have L1 := Aside0.mk (planB_len x y xs)
    have L2 := Aside0.mk (planP_len x y xs)
    obtain ⟨b1, hb1⟩ : ∃ b, b = planB x y xs := ⟨_, rfl⟩
    obtain ⟨b2, hb2⟩ : ∃ b, b = planP x y xs := ⟨_, rfl⟩
    rw [← hb1] at hA1 hA2 L1 ⊢
    rw [← hb2] at hA3 hA4 L2 ⊢
    obtain ⟨n1, hn1⟩ : ∃ n, n = b1.length := ⟨_, rfl⟩
    obtain ⟨n2, hn2⟩ : ∃ n, n = b2.length := ⟨_, rfl⟩
    rw [← hn1] at hA1 hA2 L1 ⊢
    rw [← hn2] at hA3 hA4 L2 ⊢
    obtain ⟨E, hE⟩ : ∃ E, E = planE x y xs := ⟨_, rfl⟩
    rw [← hE]
    have H1 := Aside0.mk hA1
    have H2 := Aside0.mk hA2
    have H3 := Aside0.mk hA3
    have H4 := Aside0.mk hA4
    clear hA1 hA2 hA3 hA4 hb1 hb2 hn1 hn2 hE HV1 HV2 HU1 HU2
    go_wp2_with (first
      | (go_at_call 15; have t1 := H1; refine (ints_true H1.out H2.out (by have := L1.out; have := HN.out; omega)).mono ?_; rintro e w5 ⟨rfl, hb⟩; have HB5 := Aside0.mk hb; clear hb t1 H1)
      | (go_at_call 15; refine (ints_true (Kd.C_below H3.out HB5.out) (Kd.C_below H4.out HB5.out) (by have := L2.out; have := HN.out; omega)).mono ?_; rintro e w6 ⟨rfl, hb⟩; have HB6 := Aside0.mk (below_step HB5.out hb); clear hb)
      | (go_at_call 10; refine (awake_any ((HL0.out.below' HB04.out).below' HB6.out)).mono ?_; rintro e w7 ⟨rfl, hb⟩; have HB7 := Aside0.mk (below_step HB6.out hb); clear hb))
    go_ret
    exact ⟨rfl, below_step HB0.out (below_step HB04.out HB7.out)⟩
end Go.Proofs.YtacoekniljimoaaDoor.Res
