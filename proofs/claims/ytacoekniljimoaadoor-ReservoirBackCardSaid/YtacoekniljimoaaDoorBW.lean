/- Chapter 23: the law ReservoirBack returns true. Conditions: none but what the limits hold. -/
import Derived.Test.YtacoekniljimoaaDoorBL
namespace Go.Proofs.YtacoekniljimoaaDoor.Res
open Go.RowKit Go.Proofs.YtacoekniljimoaaDoorW.PrintWords Go.Proofs.YtacoekniljimoaaDoorW.PrintLast Go.Proofs.YtacoekniljimoaaDoorW.PrintMore
attribute [local go_sem] max2_int min2_int max_two min_two
set_option linter.unusedVariables false
set_option linter.unusedSimpArgs false
theorem max_nat (L : Nat) : Value.int .i64 (if 0 < L then (L : Int) else 0) = .int .i64 (L : Int) := by
  split
  · rfl
  · have : L = 0 := by omega
    subst this
    rfl
set_option maxRecDepth 100000 in
set_option maxHeartbeats 8000000 in
theorem back_law (x y : Int) (A : Option Addr) (c : Nat) (xs : List Int) (n : Nat) (sd : Int) {w : World} (hL : Lim w) (hn : xs.length = n) (hr : Kd.C (Kd.int .i64) w A n xs) (hc : n ≤ c) (hsd : 0 ≤ sd ∧ sd ≤ 255) :
    Calls Tryd.prog 5 #[.agg #[.int .i64 x, .int .i64 y], .slice A n c, .int .u8 sd] w fun e w' => e = .returned (.bool true) ∧ Below w.heap.size w w' := by
  obtain ⟨N, hN⟩ : ∃ N, N = w.heap.size := ⟨_, rfl⟩
  have HL0 := Aside0.mk (hL.below' (below_alloc (Below.refl _ _) (.cells #[.int .i64 x, .int .i64 y] 22)))
  have HR0 := Aside0.mk (Kd.C_alloc hr (.cells #[.int .i64 x, .int .i64 y] 22))
  have HN := Aside0.mk hn
  have HC := Aside0.mk hc
  have HB0 := Aside0.mk (below_alloc (Below.refl w.heap.size w) (.cells #[.int .i64 x, .int .i64 y] 22))
  have hk := box_two w x y
  have hNlt : N < (w.alloc (.cells #[.int .i64 x, .int .i64 y] 22)).heap.size := by rw [hN]; simp
  rw [← hN] at hk
  have HK0 := Aside0.mk hk
  clear hL hn hr hc hk
  by_cases h : 40 < n
  · have h1 : (40 : Int) < (n : Int) := by omega
    clear hNlt hN HK0
    go_enter Tryd.func5, Tryd.ntmps5
    go_wp2_with (go_at_call 10; refine (awake_any HL0.out).mono ?_; rintro e w1 ⟨rfl, hb⟩; have HB := Aside0.mk (below_step HB0.out hb); clear hb)
    go_ret
    exact ⟨rfl, HB.out⟩
  · have h1 : ¬ (40 : Int) < (n : Int) := by omega
    have hl : n ≤ 200 := by omega
    have hl2 : n ≤ 1000000 := by omega
    have HSD := Aside0.mk hsd
    clear hsd
    go_enter Tryd.func5, Tryd.ntmps5
    go_upto_region 3 with (fail)
    obtain ⟨W0, hW0⟩ : ∃ W0, W0 = w.alloc (.cells #[.int .i64 x, .int .i64 y] 22) := ⟨_, rfl⟩
    rw [← hW0] at HL0 HR0 HB0 HK0 hNlt ⊢
    rw [← hN]
    have HNL := Aside0.mk hNlt
    clear hW0 hN hNlt
    have k0 := HK0.out.1
    have k1 := HK0.out.2
    go_upto_region 4 with (go_at_call 11; refine (plan_any HL0.out HN.out HR0.out HC.out hl).mono ?_; rintro e w1 ⟨v, u, rfl, hv, hu, hb⟩; have HV1 := Aside0.mk hv; have HU1 := Aside0.mk hu; have HB1 := Aside0.mk hb; have HK1 := Aside0.mk (show w1.cell? ⟨N, 0, none⟩ = some (.int .i64 x) ∧ w1.cell? ⟨N, 1, none⟩ = some (.int .i64 y) from ⟨pw_cell_below hb HK0.out.1, pw_cell_below hb HK0.out.2⟩); clear hv hu hb)
    clear k0 k1
    have HL1 := Aside0.mk (HL0.out.below' HB1.out)
    by_cases hE : planE x y xs = 0
    · obtain ⟨e1, e2, e3, e4⟩ : okR x y ∧ eTo x y xs n = 0 ∧ planB x y xs = (List.range n).map (lv x y xs) ∧ planP x y xs = (List.range n).map (pd x y xs) := by
        have h2 := hE
        unfold planE at h2
        by_cases hok : okR x y
        · rw [if_pos hok, HN.out] at h2
          exact ⟨hok, h2, by unfold planB; rw [if_pos hE, HN.out], by unfold planP; rw [if_pos hE, HN.out]⟩
        · rw [if_neg hok] at h2
          cases h2
      obtain ⟨lb, hlb⟩ : ∃ l, l = planB x y xs := ⟨_, rfl⟩
      obtain ⟨lp, hlp⟩ : ∃ l, l = planP x y xs := ⟨_, rfl⟩
      rw [← hlb] at e3 HV1
      rw [← hlp] at e4 HU1
      obtain ⟨Ab, cb, rfl, hcb, hrb⟩ := HV1.out.out
      obtain ⟨Ap, cp, rfl, hcp, hrp⟩ := HU1.out.out
      have l3 : lb.length = n := by rw [e3]; simp
      have l4 : lp.length = n := by rw [e4]; simp
      rw [l3] at hcb hrb ⊢
      rw [l4] at hcp hrp ⊢
      have hvb : ∀ i, i < n → rd lb (i : Int) = lv x y xs i := fun i hi => by rw [e3]; simp [rd, List.getD_eq_getElem?_getD, hi]
      have hvp : ∀ i, i < n → rd lp (i : Int) = pd x y xs i := fun i hi => by rw [e4]; simp [rd, List.getD_eq_getElem?_getD, hi]
      obtain ⟨M, rfl⟩ := Int.eq_ofNat_of_zero_le (show 0 ≤ x by have := e1.1; omega)
      have HM := Aside0.mk (show 1 ≤ M ∧ M ≤ 2047 by have := e1.1; omega)
      have HOK := Aside0.mk e1
      have HE0 := Aside0.mk e2
      have HRB := Aside0.mk hrb
      have HRP := Aside0.mk hrp
      have HVB := Aside0.mk hvb
      have HVP := Aside0.mk hvp
      have HCB := Aside0.mk (And.intro hcb hcp)
      rw [hE]
      obtain ⟨B, hB⟩ : ∃ B, B = w1.heap.size := ⟨_, rfl⟩
      have HBB := Aside0.mk hB
      have HR1 := Aside0.mk (Kd.C_below HR0.out HB1.out)
      have HB01 := Aside0.mk (below_step HB0.out HB1.out)
      clear hE hlb hlp e1 e2 e3 e4 l3 l4 hvb hvp hcb hcp hrb hrp HV1 HU1 HR0 HB0 HB1 hB HK0 HL0
      go_wp2
      go_loopw [10, 11, 60] (fun va vd i wr => ∃ (k : Nat) (la : List Int) (ld : List (List Int)), i = .int .i64 (k : Int) ∧ Aside0 (k ≤ n) ∧ Aside0 (Both wr B va vd la ld) ∧ Aside0 (Below B w1 wr) ∧ Aside0 (Got xs lp ld k la)) (fun _ _ i _ => n - (intOf i).toNat)
      case atStart => exact ⟨0, [], [], rfl, ⟨by omega⟩, ⟨Both.nil _ _⟩, ⟨Below.refl _ _⟩, ⟨Got.nil _ _⟩⟩
      case round =>
        obtain ⟨k, la, ld, rfl, HK, H2, HBW, HG⟩ := hrel
        have hbw : Below w1.heap.size w1 wr := HBB.out ▸ HBW.out
        have hLA := HG.out.bound HOK.out HE0.out HVP.out HK.out (by omega)
        have HLA := Aside0.mk hLA
        have HBWS := Aside0.mk (show B ≤ wr.heap.size by have := hbw.size; have := HBB.out; omega)
        by_cases hk : k < n
        · have HKT := Aside0.mk hk
          have hk1 : (k : Int) < (n : Int) := by omega
          have hk0 : (0 : Int) ≤ (k : Int) := by omega
          obtain ⟨ad, rfl, hx⟩ := Kd.at_int (Kd.C_below HR1.out hbw) (k : Int) (by omega) (by omega)
          obtain ⟨ad2, rfl, hpx⟩ := Kd.at_int HRP.out (k : Int) (by omega) (by omega)
          rw [Int.toNat_natCast] at hx hpx
          obtain ⟨s1, s2, s3, s4, s5⟩ := step_ok HOK.out HE0.out hk
          have s6 := (lv_range (m := (M : Int)) xs HOK.out.2 k).2
          have hpd := HVP.out k hk
          have hM2 := HM.out.2
          have hy2 := HOK.out.2.2
          obtain ⟨K, hK⟩ := Int.eq_ofNat_of_zero_le s1
          obtain ⟨P, hP⟩ := Int.eq_ofNat_of_zero_le (show 0 ≤ rd lp (k : Int) by omega)
          rw [hK] at hx
          rw [hP] at hpx
          have HPX := Aside0.mk hpx
          replace hpx := pw_cell_below hbw hpx
          have hK3 : K ≤ 2558 := by omega
          have hP3 : P ≤ 2558 := by omega
          have HKK := Aside0.mk hK
          have HPP := Aside0.mk hP
          clear hk hbw s1 s2 s3 s4 s5 s6 hpd hM2 hy2 hK hP hLA
          obtain ⟨wo, hwo⟩ : ∃ wo, wo = wr := ⟨_, rfl⟩
          subst hwo
          go_wp2
          go_loopw [14, 86] (fun vx i wt => ∃ (j : Nat) (lx : List Int), i = .int .i64 (j : Int) ∧ Aside0 (j ≤ K) ∧ Aside0 (Body wt wo.heap.size vx lx ∧ lx.length = j) ∧ Aside0 (Below wo.heap.size wo wt)) (fun _ i _ => K - (intOf i).toNat)
          case atStart => exact ⟨0, [], rfl, ⟨by omega⟩, ⟨⟨Kd.R_nil _ _ _ _ _⟩, rfl⟩, ⟨Below.refl _ _⟩⟩
          case round =>
            obtain ⟨j, lx, rfl, HJ, HX, HBT⟩ := hrel
            have HBTS := Aside0.mk HBT.out.size
            by_cases hj : j < K
            · have HJT := Aside0.mk hj
              have hj1 : (j : Int) < (K : Int) := by omega
              have hj0 : (0 : Int) ≤ (j : Int) := by omega
              have hsd1 := HSD.out.1
              have hsd2 := HSD.out.2
              clear hj
              go_wp2_with ((with_reducible refine gate_dst (N := 101) rfl ?_); refine Kd.R_append_row (Value.int .u8) (0 : Int) (h1 := fun _ => rfl) (w0 := wr) wo.heap.size rfl (.tmp 89) (.tmp 100) 37 5 (.int .u8 0) 1 rfl Tryd.underlying37 info5 rfl (by decide) u14 lx [_] _ 1 1 (fun _ => True) rfl rfl (fun _ _ => trivial) (Kd.R_alloc HX.out.1.r _) (lit8 _ _) ((Below.refl _ _).alloc (by have := HBTS.out; omega) _) (by have := HBTS.out; simp; omega) (by have := HX.out.2; omega) ?_; intro v1 w3 hv1 hb3 hg3 hat3; have HV1 := Aside0.mk hv1; have HB3 := Aside0.mk hb3; clear hv1 hb3 hg3 hat3)
              go_roundw
              case rel => exact ⟨j + 1, lx ++ [_], by go_num, ⟨HJT.out⟩, ⟨⟨HV1.out⟩, by simp [HX.out.2]⟩, ⟨HBT.out.trans HB3.out⟩⟩
              case measure => have := HJT.out; simp [intOf]; omega
            · have hjK : j = K := by have := HJ.out; omega
              subst hjK
              obtain ⟨Ax, cx, rfl, hcx, hrx⟩ := HX.out.1.reads
              have HX1 := Aside0.mk HX.out.1
              have HXL := Aside0.mk HX.out.2
              have HBo := Aside0.mk (H2.out.below HBT.out)
              have HLT := Aside0.mk (And.intro H2.out.lta H2.out.ltd)
              have HTS := Aside0.mk (show B ≤ wr.heap.size by have := HBTS.out; have := HBWS.out; omega)
              clear hcx hrx HX H2
              go_wp2_with (first
                | ((with_reducible refine gate_dst (N := 106) rfl ?_); refine Kd.R_append KB (w0 := wr) B rfl (.tmp 103) (.tmp 105) 38 37 (.slice none 0 0) 24 rfl Tryd.underlying38 info37 rfl (by decide) (by decide) u11 ld lx [.slice Ax lx.length cx] (fun k => some k ≠ u10.ownBlock) (fun k => wo.heap.size ≤ k) rfl rfl (HX1.out.M HBWS.out) (fun k hk => ⟨fun e => by have := HLT.out.1 k e.symm; omega, fun e => by have := HLT.out.2 k e.symm; omega⟩) HBo.out.fa HBo.out.d (Below.refl _ _) HTS.out (by have := HG.out.len; omega) ?_; intro v1 w3 hv1 hb3 hg3 hat3; have HB3 := Aside0.mk (HBo.out.grow_d hv1 hg3 hat3); have HX3 := Aside0.mk (HX1.out.kept hg3 HLT.out.2); have HE3 := Aside0.mk hb3; have HS3 := Aside0.mk hg3.size; clear hv1 hb3 hg3 hat3)
                | ((with_reducible refine gate_dst (N := 109) rfl ?_); refine Kd.R_append_row (Value.int .u8) (0 : Int) (h1 := fun _ => rfl) (w0 := w3) B rfl (.tmp 107) (.tmp 108) 37 5 (.int .u8 0) 1 rfl Tryd.underlying37 info5 rfl (by decide) u10 la lx Ax lx.length cx (fun k => some k ≠ v1.ownBlock) rfl rfl HB3.out.fd HB3.out.a HX3.out.C (Below.refl _ _) (by have := HTS.out; have := HS3.out; omega) (by have := HLA.out; have := HXL.out; omega) ?_; intro v2 w4 hv1 hb3 hg3 hat3; have HB4 := Aside0.mk (HB3.out.grow_a hv1 hg3 hat3); have HE4 := Aside0.mk hb3; have HS4 := Aside0.mk hg3.size; have hpx4 := pw_cell_below (show Below w1.heap.size w1 w4 from HBB.out ▸ (((HBW.out.trans (HBT.out.mono HBWS.out)).trans HE3.out).trans hb3)) HPX.out; clear hv1 hb3 hg3 hat3)
                | ((with_reducible refine gate_dst (N := 115) rfl ?_); refine Kd.R_append_zeros (Kd.int .u8) (w0 := w4) B rfl (.tmp 110) (.tmp 114) 37 3 5 (.int .u8 0) 1 rfl Tryd.underlying37 Tryd.underlying3 info5 rfl (by decide) (by decide) v2 (la ++ lx) (0 : Int) (kx := .i64) (P : Int) (fun k => some k ≠ v1.ownBlock) rfl rfl rfl HB4.out.fd HB4.out.a (by omega) (Below.refl _ _) (by have := HTS.out; have := HS3.out; have := HS4.out; omega) (by have := HLA.out; have := HXL.out; rw [List.length_append]; omega) ?_; intro v3 w5 hv1 hb3 hg3 hat3; have HB5 := Aside0.mk (HB4.out.grow_a hv1 hg3 hat3); have HE5 := Aside0.mk hb3; clear hv1 hb3 hg3 hat3))
              go_roundw
              case rel =>
                refine ⟨k + 1, _, _, by go_num, ⟨HKT.out⟩, HB5, ⟨(((HBW.out.trans (HBT.out.mono HBWS.out)).trans HE3.out).trans HE4.out).trans HE5.out⟩, ⟨?_⟩⟩
                have := HG.out.next (lx := lx) (by rw [HXL.out, HKK.out])
                rw [HPP.out] at this
                exact this
              case measure => have := HKT.out; simp [intOf]; omega
        · have hkn : n = k := by have := HK.out; omega
          subst hkn
          have hk1 : ¬ (n : Int) < (n : Int) := by omega
          have hT := HG.out.total HOK.out HE0.out HVP.out (Nat.le_refl _)
          have hlv := lv_range (m := (M : Int)) xs HOK.out.2 n
          obtain ⟨L, hLv⟩ := Int.eq_ofNat_of_zero_le hlv.1
          obtain ⟨tn, htn⟩ : ∃ t, t = M * n := ⟨_, rfl⟩
          have hMn : (M : Int) * (n : Int) = (tn : Int) := by rw [htn]; simp
          have hy2 := HOK.out.2.2
          have hM2 := HM.out.2
          have htb : tn ≤ 2047 * 40 := by rw [htn]; exact Nat.mul_le_mul hM2 (by omega)
          obtain ⟨Aa, ca, rfl, hca, hra⟩ := Kd.R_reads H2.out.a
          obtain ⟨Ad, cd, rfl, hcd, hrd⟩ := Kd.R_reads H2.out.d
          rw [hLv, hMn] at hT
          rw [hLv] at hlv
          have hL5 : L ≤ 511 := by omega
          obtain ⟨s, hs⟩ : ∃ s, s = la.length := ⟨_, rfl⟩
          rw [← hs] at hT H2 ⊢
          rw [HG.out.len] at H2 ⊢
          have hsum : s + L = tn := by omega
          have hmax : (tn : Int) - (s : Int) = (L : Int) := by omega
          have HS := Aside0.mk hs
          have HSUM := Aside0.mk hsum
          have HTN := Aside0.mk htn
          have HLV := Aside0.mk hLv
          have k0 := pw_cell_below hbw HK1.out.1
          clear hca hra hcd hrd hs hT hlv hLv htn hy2 hLA hbw hsum
          go_upto_region 28 with (first
            | ((with_reducible refine gate_dst (N := 127) rfl ?_); refine Kd.R_append_zeros (Kd.int .u8) (w0 := wr) B rfl (.tmp 117) (.tmp 126) 37 3 5 (.int .u8 0) 1 rfl Tryd.underlying37 Tryd.underlying3 info5 rfl (by decide) (by decide) (.slice Aa s ca) la (0 : Int) (kx := .i64) (L : Int) (fun k => some k ≠ (Value.slice Ad n cd).ownBlock) rfl (max_nat L) rfl H2.out.fd H2.out.a (by omega) (Below.refl _ _) HBWS.out (by have := HLA.out; omega) ?_; intro v3 w2 hv1 hb3 hg3 hat3; have HB3 := Aside0.mk (H2.out.grow_a hv1 hg3 hat3); obtain ⟨Af, cf, rfl, hcf, hrf⟩ := Kd.R_reads hv1; have hlF : (la ++ List.replicate ((L : Int)).toNat 0).length = tn := (by rw [List.length_append, List.length_replicate, ← HS.out, Int.toNat_natCast]; exact HSUM.out); rw [hlF] at hcf hrf HB3 ⊢; have HRF := Aside0.mk hrf; have HCF := Aside0.mk hcf; have HE3 := Aside0.mk (HBW.out.trans hb3); have k2 := pw_cell_below (show Below w1.heap.size w1 w2 from HBB.out ▸ (HBW.out.trans hb3)) HK1.out.1; clear hv1 hb3 hg3 hat3 hrf hlF))
          simp only [max_nat]
          obtain ⟨F, hF⟩ : ∃ F, F = la ++ List.replicate ((L : Int)).toNat 0 := ⟨_, rfl⟩
          have HFE := Aside0.mk (show F = la ++ List.replicate L 0 by rw [hF, Int.toNat_natCast])
          rw [← hF] at HRF HB3
          have HFL := Aside0.mk (show F.length = M * n by rw [HFE.out, List.length_append, List.length_replicate, ← HS.out, ← HTN.out]; exact HSUM.out)
          have HRF2 := Aside0.mk (show Kd.C (Kd.int .u8) w2 Af tn F by have h1 := HRF.out; have h2 := HFL.out; have h3 := HTN.out; first | exact h1 | (rw [h2, ← h3] at h1; exact h1))
          have HDR := Aside0.mk (show KB.C w2 Ad n ld by obtain ⟨h1, _, h3⟩ := Kd.R_reads' HB3.out.d; rw [← h1] at h3; exact h3)
          have HLM2 := Aside0.mk (HL1.out.below' (HBB.out ▸ HE3.out))
          clear hF HB3 HRF H2 HLA HBWS HS HSUM
          go_wp2_with (go_at_call 20; refine (open_any _).mono ?_; rintro e w3 ⟨q, rfl, hq, hP, hb⟩; have HQ := Aside0.mk hq; have HP3 := Aside0.mk hP; have HB3 := Aside0.mk hb; clear hq hP hb)
          go_loopw [139] (fun i wt => ∃ k : Nat, i = .int .i64 (k : Int) ∧ Aside0 (k ≤ n) ∧ Aside0 (∃ Aq cq, Pool wt q Aq cq (tailTo F (M * k))) ∧ Aside0 (Below w2.heap.size w2 wt)) (fun i _ => n - (intOf i).toNat)
          case atStart => exact ⟨0, rfl, ⟨by omega⟩, ⟨⟨none, 0, by rw [show tailTo F (M * 0) = [] by simp [tailTo]]; exact HP3.out⟩⟩, HB3⟩
          case round =>
            obtain ⟨k, rfl, HK, HPL, HBX⟩ := hrel
            have hbx : Below w1.heap.size w1 wr := HBB.out ▸ (HE3.out.trans (HBX.out.mono (by have := HE3.out.size; have := HBB.out; omega)))
            have HBZ := Aside0.mk hbx
            by_cases hk : k < n
            · have HKT := Aside0.mk hk
              have hk1 : (k : Int) < (n : Int) := by omega
              have hk0 : (0 : Int) ≤ (k : Int) := by omega
              obtain ⟨Aq, cq, hpl⟩ := HPL.out
              have HPO := Aside0.mk hpl
              obtain ⟨ad3, Ax, cx, rfl, hdx, hcx, hrx⟩ := body_at HDR.out hk
              obtain ⟨ad4, rfl, hbc⟩ := Kd.at_int HRB.out (k : Int) (by omega) (by omega)
              rw [Int.toNat_natCast] at hbc
              obtain ⟨bk, t, hbk, hMk, htk, htk1, htF, hb5, hbt, hX, hgot⟩ := frame_at HOK.out HE0.out HVP.out HG.out HFE.out HFL.out hk
              rw [HVB.out k hk, hbk] at hbc
              have HBC := Aside0.mk hbc
              replace hbc := pw_cell_below hbx hbc
              replace hdx := pw_cell_below HBX.out hdx
              have k3 := pw_cell_below hbx HK1.out.1
              have hM2' := HM.out.2
              have htn : tn = F.length := by rw [HFL.out]; exact HTN.out
              obtain ⟨A', cc, hsl, hrow⟩ := mid_at Af tn cf t M (by omega) HCF.out
              have HSR := Aside0.mk (hrow wr F (Kd.C_below HRF2.out HBX.out))
              obtain ⟨X, hXe⟩ : ∃ X, X = (ld.getD k []).length := ⟨_, rfl⟩
              rw [← hXe] at hX hgot hdx hcx hrx
              obtain ⟨f, hf⟩ : ∃ f, f = ld.getD k [] := ⟨_, rfl⟩
              rw [← hf] at hgot hrx
              obtain ⟨G, hGl⟩ : ∃ G, G = M + bk := ⟨_, rfl⟩
              have hG1 : (G : Int) = (bk : Int) + (M : Int) := by omega
              have HGT := Aside0.mk hgot
              have HRX := Aside0.mk hrx
              have HK2 := Aside0.mk (tail_keep (F := F) (t := t) (M := M) htF)
              have HD2 := Aside0.mk (tail_data (F := F) (t := t) (M := M) (B := bk) htF hb5 hbt)
              have HDL := Aside0.mk ((data_len (F := F) (t := t) (M := M) (B := bk) htF hbt).trans hGl.symm)
              have HTL := Aside0.mk (show (bk : Int) ≤ ((tailTo F t).length : Int) by rw [tailTo_len (by omega)]; omega)
              have HPO2 := Aside0.mk (show Pool wr q Aq cq (tailTo F t) by rw [htk]; exact hpl)
              have HTK1 := Aside0.mk htk1
              have htb2 : t + M ≤ 81880 := by omega
              have hGX : X ≤ G := by omega
              have HLMR := Aside0.mk (HLM2.out.below' HBX.out)
              have hbk5 : (bk : Int) ≤ 511 := by omega
              clear hk hpl hrx hrow hXe hf hGl hgot hbk htk htk1 htF htn hcx hbx
              have HBX1 := Aside0.mk (below_drew HBX.out)
              have HPO3 := Aside0.mk (HPO2.out.below (below_drew (Below.refl _ _)))
              have HSR3 := Aside0.mk (Kd.C_drew HSR.out)
              have HLM3 := Aside0.mk (HLMR.out.below' (below_drew (Below.refl _ _)))
              have hw0 : IntKind.i64.wrap (t : Int) = (t : Int) := IntWalk.i64_in _ (by omega)
              have hw1 : IntKind.i64.wrap ((M : Int) * (k : Int)) = (t : Int) := by rw [hMk]; exact hw0
              have hw2 : IntKind.i64.wrap ((t : Int) + (M : Int)) = (t : Int) + (M : Int) := IntWalk.i64_in _ (by omega)
              have hw3 : IntKind.i64.wrap ((bk : Int) + (M : Int)) = (G : Int) := by rw [← hG1]; exact IntWalk.i64_in _ (by omega)
              have HW3 := Aside0.mk hw3
              have HGX := Aside0.mk hGX
              go_upto_region 32 with (fail)
              go_region_held3 (fun w' => w'.cell? (ad4.add k) = some (.int .i64 (bk : Int)) ∧ w'.cell? ⟨N, 0, none⟩ = some (.int .i64 (M : Int)))
                (first | go_keep | exact ⟨hbc4, k4⟩)
                (first | (go_at_call 21; refine (add_at (L := tailTo F (t + M)) (D := (F.take (t + M)).drop (t - bk)) HLM3.out HPO3.out ⟨by omega, by omega⟩ HSR3.out (by omega) HTL.out HK2.out HD2.out).mono ?_; rintro e w4 ⟨Aq2, cq2, Av, cv, rfl, hcv, hrv, hpl, hu⟩; have hbb := Upd.below HBX1.out HQ.out (Nat.le_refl _) hu; have HBX4 := Aside0.mk hbb; have hbx4 : Below w1.heap.size w1 w4 := HBB.out ▸ (HE3.out.trans (hbb.mono (by have := HE3.out.size; have := HBB.out; omega))); have k4 := pw_cell_below hbx4 HK1.out.1; have hbc4 := pw_cell_below hbx4 HBC.out; rw [HDL.out] at hcv hrv ⊢; have HRV := Aside0.mk hrv; have HPL4 := Aside0.mk hpl; clear hbb hbx4 hrv hpl hu))
              have htop := fun W => run_top Av G cv X (Nat.le_trans hGX hcv) W
              have HRG := Aside0.mk (show Kd.C (Kd.int .u8) w4 Av X f by
                have h1 := HRV.out
                rw [← HDL.out] at h1
                have h2 := Kd.C_take (m := X) h1 (by rw [HDL.out]; exact hGX)
                rw [HGT.out, HRX.out.1] at h2
                exact h2)
              have HRB4 := Aside0.mk (Kd.C_below HRX.out HBX4.out)
              have hX6 : X ≤ 1000000 := by omega
              have hgx1 : decide ((G : Int) < (X : Int)) = false := decide_eq_false (by omega)
              have hgx2 : decide (G < X) = false := decide_eq_false (by omega)
              clear hw0 hw1 hw2 hsl hG1
              go_wp2
              go_quiet ((go_at_call 22; exact Calls.quiet_of (same_quiet (Kd.C_drewN HRG.out _) (Kd.C_drewN HRB4.out _) hX6)))
              go_wp2
              go_roundw
              case rel => exact ⟨k + 1, by go_num, ⟨HKT.out⟩, ⟨⟨Aq2, cq2, by rw [← HTK1.out]; exact HPL4.out.below (pw_below_drewN (Below.refl _ _) _)⟩⟩, ⟨pw_below_drewN HBX4.out _⟩⟩
              case measure => have := HKT.out; simp [intOf]; omega
            · have hkn : n = k := by have := HK.out; omega
              subst hkn
              have hk1 : ¬ (n : Int) < (n : Int) := by omega
              go_wp2_with (go_at_call 10; refine (awake_any (HL1.out.below' HBZ.out)).mono ?_; rintro e w4 ⟨rfl, hb⟩; have HB4 := Aside0.mk (below_step HB01.out (below_step HBZ.out hb)); clear hb)
              go_ret
              exact ⟨rfl, HB4.out⟩
    · have e2 : planB x y xs = [] := by unfold planB; rw [if_neg hE]
      have e3 : planP x y xs = [] := by unfold planP; rw [if_neg hE]
      rw [e2] at HV1
      rw [e3] at HU1
      obtain ⟨A1, c1, rfl, _, _⟩ := HV1.out.out
      obtain ⟨A2, c2, rfl, _, _⟩ := HU1.out.out
      obtain ⟨E, hEE⟩ : ∃ E, E = planE x y xs := ⟨_, rfl⟩
      rw [← hEE] at hE ⊢
      clear hEE e2 e3
      go_wp2_with (go_at_call 10; refine (awake_any HL1.out).mono ?_; rintro e w2 ⟨rfl, hb⟩; have HB := Aside0.mk (below_step HB0.out (below_step HB1.out hb)); clear hb)
      go_ret
      exact ⟨rfl, HB.out⟩
end Go.Proofs.YtacoekniljimoaaDoor.Res
