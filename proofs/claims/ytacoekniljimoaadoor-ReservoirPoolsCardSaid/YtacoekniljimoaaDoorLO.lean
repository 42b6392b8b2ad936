/- Chapter 23: the law ReservoirPools returns true. Conditions: none but what the limits hold. -/
import Derived.Test.YtacoekniljimoaaDoorCO
import Derived.Test.YtacoekniljimoaaDoorLQ
namespace Go.Proofs.YtacoekniljimoaaDoor.Res
open Go.RowKit Go.Proofs.YtacoekniljimoaaDoorW.PrintWords Go.Proofs.YtacoekniljimoaaDoorW.PrintLast Go.Proofs.YtacoekniljimoaaDoorW.PrintMore
set_option linter.unusedVariables false
set_option linter.unusedSimpArgs false
theorem opin_below {W W' : World} {b o : Nat} {kd bk : Int} {A : Option Addr} {n c : Nat} {bs : List Int} (h : OpIn W b o kd bk A n c bs) (hb : Below W.heap.size W W') : OpIn W' b o kd bk A n c bs :=
  ⟨pw_cell_below hb h.c0, pw_cell_below hb h.c1, pw_cell_below hb h.c2, h.k0, h.k1, h.nc, h.nm, h.nb, Kd.C_below h.row hb⟩
/-- No body is longer than the sum of all. -/
def Sums (w : World) (b o k : Nat) (s : Int) : Prop := 0 ≤ s ∧ s ≤ 140737488355328 * (k : Int) ∧ ∀ i, i < k → ∀ (A : Option Addr) (n c : Nat), w.cell? ⟨b, o + i * 3 + 2, none⟩ = some (.slice A n c) → (n : Int) ≤ s
set_option maxRecDepth 100000 in
set_option maxHeartbeats 8000000 in
theorem pools_law (a : Option Addr) (len cap : Nat) {w : World} (hL : Lim w) (hops : OpsIn w a len) (hlen : len ≤ maxLen) :
    Calls Tryd.prog 8 #[.slice a len cap] w fun e w' => e = .returned (.bool true) ∧ Below w.heap.size w w' := by
  have HL := Aside0.mk hL
  have HO := Aside0.mk hops
  have HPOS := Aside0.mk hL.pos
  unfold maxLen at hlen
  clear hL hops
  by_cases h60 : 60 < len
  · have h61 : (60 : Int) < (len : Int) := by omega
    go_enter Tryd.func8, Tryd.ntmps8
    go_wp2
    go_loopw [3, 21] (fun s i wr => ∃ (k : Nat) (t : Int), i = .int .i64 (k : Int) ∧ s = .int .i64 t ∧ Aside0 (k ≤ len) ∧ Aside0 (Below w.heap.size w wr)) (fun _ i _ => len - (intOf i).toNat)
    case atStart => exact ⟨0, 0, rfl, rfl, ⟨by omega⟩, ⟨Below.refl _ _⟩⟩
    case round =>
      obtain ⟨k, t, rfl, rfl, HK, HB⟩ := hrel
      by_cases hk : k < len
      · have HKT := Aside0.mk hk
        have hk1 : (k : Int) < (len : Int) := by omega
        have hk0 : (0 : Int) ≤ (k : Int) := by omega
        obtain ⟨b, o, rfl, hall⟩ := HO.out (by omega)
        obtain ⟨kd, bk, A, n, c, bs, hop⟩ := hall k hk
        have hop1 := opin_below hop HB.out
        have q0 := hop1.c0
        have q1 := hop1.c1
        have q2 := hop1.c2
        clear hop hop1 hall hk
        go_wp2
        go_roundw
        case rel => exact ⟨k + 1, _, by go_num, rfl, ⟨HKT.out⟩, ⟨below_alloc HB.out _⟩⟩
        case measure => have := HKT.out; simp [intOf]; omega
      · have hkn : k = len := by have := HK.out; omega
        subst hkn
        go_wp2_with (go_at_call 10; refine (awake_any (HL.out.below' HB.out)).mono ?_; rintro e w1 ⟨rfl, hb⟩; have HB1 := Aside0.mk (below_step HB.out hb); clear hb)
        go_ret
        exact ⟨rfl, HB1.out⟩
  · have h61 : ¬ (60 : Int) < (len : Int) := by omega
    obtain ⟨b, o, HOP⟩ : ∃ b o, Aside0 (0 < len → a = some ⟨b, o, none⟩ ∧ ∀ i, i < len → ∃ kd bk A n c bs, OpIn w b (o + i * 3) kd bk A n c bs) := by
      by_cases hp : 0 < len
      · obtain ⟨b, o, h⟩ := HO.out hp
        exact ⟨b, o, ⟨fun _ => h⟩⟩
      · exact ⟨0, 0, ⟨fun h => absurd h hp⟩⟩
    go_enter Tryd.func8, Tryd.ntmps8
    go_wp2
    go_loopw [3, 21] (fun s i wr => ∃ (k : Nat) (t : Int), i = .int .i64 (k : Int) ∧ s = .int .i64 t ∧ Aside0 (k ≤ len) ∧ Aside0 (Sums w b o k t) ∧ Aside0 (Below w.heap.size w wr)) (fun _ i _ => len - (intOf i).toNat)
    case atStart => exact ⟨0, 0, rfl, rfl, ⟨by omega⟩, ⟨by omega, by omega, fun i hi => by omega⟩, ⟨Below.refl _ _⟩⟩
    case round =>
      obtain ⟨k, t, rfl, rfl, HK, HS, HB⟩ := hrel
      by_cases hk : k < len
      · have HKT := Aside0.mk hk
        have hk1 : (k : Int) < (len : Int) := by omega
        have hk0 : (0 : Int) ≤ (k : Int) := by omega
        obtain ⟨rfl, hall⟩ := HOP.out (by omega)
        obtain ⟨kd, bk, A, n, c, bs, hop⟩ := hall k hk
        have hop1 := opin_below hop HB.out
        have q0 := hop1.c0
        have q1 := hop1.c1
        have q2 := hop1.c2
        have hnm : n ≤ 140737488355328 := by have h1 := hop.nb; omega
        have HQ2 := Aside0.mk hop.c2
        obtain ⟨s0, s1, s2⟩ := HS.out
        have ht : t ≤ 8444249301319680 := by omega
        have HS2 := Aside0.mk s2
        clear hop hop1 hall hk s2
        go_wp2
        go_roundw
        case rel =>
          refine ⟨k + 1, _, by go_num, rfl, ⟨HKT.out⟩, ⟨by omega, by omega, fun i hi A' n' c' h => ?_⟩, ⟨below_alloc HB.out _⟩⟩
          by_cases e : i = k
          · subst e
            have := HQ2.out.symm.trans h
            simp only [Option.some.injEq, Value.slice.injEq] at this
            omega
          · have := HS2.out i (by omega) A' n' c' h
            omega
        case measure => have := HKT.out; simp [intOf]; omega
      · have hkn : k = len := by have := HK.out; omega
        by_cases ht : 20000 < t
        · subst hkn
          go_wp2_with (go_at_call 10; refine (awake_any (HL.out.below' HB.out)).mono ?_; rintro e w1 ⟨rfl, hb⟩; have HB1 := Aside0.mk (below_step HB.out hb); clear hb)
          go_ret
          exact ⟨rfl, HB1.out⟩
        · have HBODY : Aside0 (∀ i, i < len → ∀ (A : Option Addr) (n c : Nat), w.cell? ⟨b, o + i * 3 + 2, none⟩ = some (.slice A n c) → n ≤ 20000) := ⟨fun i hi A n c h => by have := HS.out.2.2 i (by omega) A n c h; omega⟩
          have HKN := Aside0.mk hkn
          have hk1 : ¬ (k : Int) < (len : Int) := by omega
          clear hkn
          go_wp2_with (first
            | (go_at_call 20; refine (open_any _).mono ?_; rintro e w1 ⟨p, rfl, hp, hP, hb⟩; have HPP := Aside0.mk hp; have HP1 := Aside0.mk hP; have HB1 := Aside0.mk hb; clear hp hP hb)
            | (go_at_call 28; refine (ropen_any _).mono ?_; rintro e w2 ⟨q, rfl, hq, hQ, hb⟩; have HQQ := Aside0.mk hq; have HP2 := Aside0.mk hQ; have HB2 := Aside0.mk hb; clear hq hQ hb))
          have HPP0 := Aside0.mk (show PP w w2 p q none none 0 0 [] from ⟨HP1.out.below HB2.out, HP2.out, by have := HP1.out.lt; have := HQQ.out; omega, Nat.le_trans HB.out.size HPP.out, by have := HP1.out.lt; have := HQQ.out; have := HPP.out; have := HB.out.size; omega, fun _ e => (by cases e), fun _ e => (by cases e), below_step HB.out (below_step HB1.out HB2.out), (HL.out.below' HB.out).below' (below_step HB1.out HB2.out)⟩)
          clear HS HB HB1 HB2 HP1 HP2 HPP HQQ
          go_loopw [6, 7, 43] (fun P Q i wr => ∃ (k p q : Nat) (A1 A2 : Option Addr) (c1 c2 : Nat) (l : List Int), i = .int .i64 (k : Int) ∧ P = .pointer (some ⟨p, 0, none⟩) ∧ Q = .pointer (some ⟨q, 0, none⟩) ∧ Aside0 (k ≤ len) ∧ Aside0 (PP w wr p q A1 A2 c1 c2 l)) (fun _ _ i _ => len - (intOf i).toNat)
          case atStart => exact ⟨0, p, q, none, none, 0, 0, [], rfl, rfl, rfl, ⟨by omega⟩, HPP0⟩
          case round =>
            obtain ⟨j, p, q, A1, A2, c1, c2, l, rfl, rfl, rfl, HJ, HPQ⟩ := hrel
            by_cases hj : j < len
            · have HJT := Aside0.mk hj
              have hj1 : (j : Int) < (len : Int) := by omega
              have hj0 : (0 : Int) ≤ (j : Int) := by omega
              obtain ⟨rfl, hall⟩ := HOP.out (by omega)
              obtain ⟨kd, bk, A, n, c, bs, hop⟩ := hall j hj
              have HN := Aside0.mk (HBODY.out j hj A n c hop.c2)
              have HOPJ := Aside0.mk hop
              have hop1 := opin_below hop HPQ.out.bel
              have q0 := hop1.c0
              have q1 := hop1.c1
              have q2 := hop1.c2
              have hkd0 := hop.k0
              have hkd1 := hop.k1
              clear hop hop1 hall hj
              have HROW := Aside0.mk HOPJ.out.row
              have HPA := Aside0.mk (HPQ.out.below (below_alloc (Below.refl _ _) (.cells #[.int .u8 kd, .int .i64 bk, .slice A n c] 55)))
              have hmod : kd.tmod 7 = kd % 7 := Int.tmod_eq_emod_of_nonneg hkd0
              by_cases h5 : kd % 7 = 5
              · go_wp2_with (first
                  | (go_at_call 29; refine (lose_any HPA.out.P1).mono ?_; rintro e w3 ⟨⟨v, rfl⟩, h3, u3⟩; have HG1 := Aside0.mk h3; have HU1 := Aside0.mk u3; clear h3 u3)
                  | (go_at_call 30; refine (rlose_any (HPA.out.snd HU1.out)).mono ?_; rintro e w4 ⟨⟨v', rfl⟩, h4, u4⟩; have HPE := Aside0.mk (HPA.out.both HPOS.out HU1.out HG1.out (NewRow.nil _ _) u4 h4 (NewRow.nil _ _)); clear h4 u4)
                  | (go_at_call 33; refine (kept_any HPE.out.P1).mono ?_; rintro e w' ⟨rfl, rfl⟩)
                  | (go_at_call 35; refine (rkept_any HPE.out.P2).mono ?_; rintro e w' ⟨rfl, rfl⟩))
                go_roundw
                case rel => exact ⟨j + 1, p, q, none, none, 0, 0, [], by go_num, rfl, rfl, ⟨HJT.out⟩, HPE⟩
                case measure => have := HJT.out; simp [intOf]; omega
              · by_cases h6 : kd % 7 = 6
                · go_wp2_with (first
                    | (go_at_call 31; refine (pcopy_any HPA.out.P1).mono ?_; rintro e w3 ⟨p', A1', c1', rfl, h1, h2, h3, h4⟩; have HC1 := Aside0.mk h1; have HC2 := Aside0.mk h2; have HC3 := Aside0.mk h3; have HC4 := Aside0.mk h4; have HPB := Aside0.mk (HPA.out.below h4); clear h1 h2 h3 h4)
                    | (go_at_call 32; refine (rpcopy_any HPB.out.P2).mono ?_; rintro e w4 ⟨q', A2', c2', rfl, h1, h2, h3, h4⟩; have HPC := Aside0.mk (HPA.out.copies HC1.out HC2.out HC3.out HC4.out h1 h2 h3 h4); have HPD := Aside0.mk (HPB.out.below h4); have HQ1 := Aside0.mk h1; have HQ3 := Aside0.mk h3; clear h1 h2 h3 h4)
                    | (go_at_call 33; refine (kept_any HPE.out.P1).mono ?_; rintro e w' ⟨rfl, rfl⟩)
                    | (go_at_call 33; refine (kept_any HLO.out).mono ?_; rintro e w' ⟨rfl, rfl⟩)
                    | (go_at_call 33; refine (kept_any HPC.out.P1).mono ?_; rintro e w' ⟨rfl, rfl⟩)
                    | (go_at_call 35; refine (rkept_any HPE.out.P2).mono ?_; rintro e w' ⟨rfl, rfl⟩)
                    | (go_at_call 29; refine (lose_any HPD.out.P1).mono ?_; rintro e w5 ⟨⟨v, rfl⟩, h1, u⟩; have HLO := Aside0.mk h1; have HPE := Aside0.mk (HPC.out.lost HPOS.out u HPD.out.wp (by have := HPA.out.P1.lt; have := HC1.out; omega) (by have := HPB.out.P1.lt; have := HQ1.out; omega) (fun ad e hn => by have := (HC3.out ad e hn).1; have := HPA.out.P1.lt; omega) (fun ad e hn => by have := (HQ3.out ad e hn).1; have := HPB.out.P1.lt; omega)); clear h1 u HPD))
                  go_roundw
                  case rel => exact ⟨j + 1, p', q', A1', A2', c1', c2', l, by go_num, rfl, rfl, ⟨HJT.out⟩, HPE⟩
                  case measure => have := HJT.out; simp [intOf]; omega
                · obtain ⟨L, D, cd, hout, hDl⟩ := out_ex l bs bk
                  have HOUT := Aside0.mk hout
                  have HDL := Aside0.mk (show D.length ≤ 30000 by have h1 := HPQ.out.P1.le; have h2 := HROW.out.1; have h3 := HN.out; omega)
                  have HP2 := Aside0.mk (show p < wr.heap.size ∧ q < wr.heap.size from ⟨HPQ.out.P1.lt, HPQ.out.P2.lt⟩)
                  clear hout hDl
                  go_wp2_with (first
                    | ((with_reducible refine gate_dst (N := 53) rfl ?_); refine append_full rfl (.tmp 50) (.tmp 52) rfl _ 0 [] rfl (C_empty _ _) A n c bs rfl (Kd.C_alloc (Kd.C_alloc (Kd.C_below HROW.out HPQ.out.bel) _) _) (by have := HN.out; omega) ?_; intro v1 w1 hA; obtain ⟨A3, c3, rfl, hcop, hblk⟩ := app_copy hA; have HCOP := Aside0.mk hcop; have O1 : w1.cell? ⟨wr.heap.size, 1, none⟩ = some (.int .i64 bk) := (World.cell?_of_block hblk).trans (by rw [World.cell?_alloc_at _ _ _ _ rfl]; rfl); have O2 : w1.cell? ⟨wr.heap.size, 2, none⟩ = some (.slice A n c) := (World.cell?_of_block hblk).trans (by rw [World.cell?_alloc_at _ _ _ _ rfl]; rfl); have HPB := Aside0.mk (HPQ.out.below hcop.bel); clear hA hcop hblk)
                    | (go_at_call 21; refine (add_gen HPB.out.lim HPB.out.P1 HCOP.out.row HOUT.out).mono ?_; rintro e w2 ⟨A1', c1', Av1, cv1, rfl, hg⟩; have HG1 := Aside0.mk hg; have U1 := cell_upd hg.upd (by have := HCOP.out.size; omega) (by have := HP2.out.1; omega) O1; have U2 := cell_upd hg.upd (by have := HCOP.out.size; omega) (by have := HP2.out.1; omega) O2; have HCP2 := Aside0.mk (HCOP.out.own.row_upd HCOP.out.row hg.upd (by have := HP2.out.1; omega)); have HOW2 := Aside0.mk (HCOP.out.own.upd hg.upd (by have := HP2.out.1; omega)); have HBL2 := Aside0.mk (Upd.below HPB.out.bel HPB.out.wp (Nat.le_refl _) hg.upd); clear hg O1 O2)
                    | (go_at_call 34; refine (radd_gen (HPB.out.snd HG1.out.upd) (Kd.C_below HROW.out HBL2.out) HOUT.out).mono ?_; rintro e w3 ⟨A2', c2', Av2, cv2, rfl, hg⟩; have HG2 := Aside0.mk hg; have V2 := cell_upd hg.upd (by have := HCOP.out.size; have := HG1.out.upd.size; omega) (by have := HP2.out.2; omega) U2; have HCP3 := Aside0.mk (HOW2.out.row_upd HCP2.out hg.upd (by have := HP2.out.2; omega)); have HOW3 := Aside0.mk (HOW2.out.upd hg.upd (by have := HP2.out.2; omega)); have HD3 := Aside0.mk (HG1.out.own.row_upd HG1.out.row hg.upd (by have := HP2.out.2; have := HCOP.out.size; omega)); have HOD3 := Aside0.mk (HG1.out.own.upd hg.upd (by have := HP2.out.2; have := HCOP.out.size; omega)); have HPC := Aside0.mk (HPB.out.added HPOS.out HG1.out hg); clear hg U1 U2)
                    | (go_at_call 22; refine (same_true HCP4.out (Kd.C_below HROW.out HPD.out.bel) (by have := HN.out; omega)).mono ?_; rintro e w5 ⟨rfl, hb⟩; have HPE := Aside0.mk (HPD.out.below hb); have HOW5 := Aside0.mk (HOW4.out.below hb); have HOD5 := Aside0.mk (HOD4.out.below hb); clear hb X2)
                    | (go_at_call 22; refine (same_true HD3.out HG2.out.row (by have := HDL.out; omega)).mono ?_; rintro e w4 ⟨rfl, hb⟩; have X2 := pw_cell_below hb V2; have HPD := Aside0.mk (HPC.out.below hb); have HCP4 := Aside0.mk (Kd.C_below HCP3.out hb); have HOW4 := Aside0.mk (HOW3.out.below hb); have HOD4 := Aside0.mk (HOD3.out.below hb); clear hb V2))
                  obtain ⟨g3, HGA⟩ := own_pick HCOP.out.own HOW5.out
                  obtain ⟨gD, HGD⟩ := own_pick HG1.out.own HOD5.out
                  go_loopw [89] (fun i wt => ∃ k : Nat, i = .int .i64 (k : Int) ∧ Aside0 (k ≤ n) ∧ Aside0 (Stored w5 wt n g3 D.length gD)) (fun i _ => n - (intOf i).toNat)
                  case atStart => exact ⟨0, rfl, ⟨by omega⟩, ⟨Stored.refl (fun h => (HGA.out h).2.2.2) (fun h => (HGD.out h).2.2.2)⟩⟩
                  case round =>
                    obtain ⟨k, rfl, HK, HST⟩ := hrel
                    by_cases hk : k < n
                    · have HKT := Aside0.mk hk
                      have hk1 : (k : Int) < (n : Int) := by omega
                      have hk0 : (0 : Int) ≤ (k : Int) := by omega
                      obtain ⟨rfl, _, _, _⟩ := HGA.out (by omega)
                      have hn2 : n ≤ 20000 := HN.out
                      obtain ⟨⟨x, hx⟩, hf⟩ := HST.out.one (by omega) k hk
                      clear hk
                      go_wp2
                      go_roundw
                      case rel => exact ⟨k + 1, by go_num, ⟨HKT.out⟩, ⟨HST.out.set1 (by have := HKT.out; omega) _ _⟩⟩
                      case measure => have := HKT.out; simp [intOf]; omega
                    · have hk1 : ¬ (k : Int) < (n : Int) := by have := HK.out; omega
                      clear hk
                      go_wp2
                      go_loopw [98] (fun i wu => ∃ k : Nat, i = .int .i64 (k : Int) ∧ Aside0 (k ≤ D.length) ∧ Aside0 (Stored w5 wu n g3 D.length gD)) (fun i _ => D.length - (intOf i).toNat)
                      case atStart => exact ⟨0, rfl, ⟨by omega⟩, HST⟩
                      case round =>
                        obtain ⟨k, rfl, HK, HST⟩ := hrel
                        by_cases hk : k < D.length
                        · have HKT := Aside0.mk hk
                          have hk1 : (k : Int) < (D.length : Int) := by omega
                          have hk0 : (0 : Int) ≤ (k : Int) := by omega
                          obtain ⟨rfl, _, _, _⟩ := HGD.out (by omega)
                          have hn2 : D.length ≤ 30000 := HDL.out
                          obtain ⟨⟨x, hx⟩, hf⟩ := HST.out.two (by omega) k hk
                          clear hk
                          go_wp2
                          go_roundw
                          case rel => exact ⟨k + 1, by go_num, ⟨HKT.out⟩, ⟨HST.out.set2 (by have := HKT.out; omega) _ _⟩⟩
                          case measure => have := HKT.out; simp [intOf]; omega
                        · have hk1 : ¬ (k : Int) < (D.length : Int) := by have := HK.out; omega
                          clear hk
                          have HPF := Aside0.mk (stored_pools HPOS.out HPQ.out HCOP.out HG1.out HG2.out HPE.out HGA.out HGD.out HST.out)
                          go_wp2_with (first
                            | (go_at_call 33; refine (kept_any HPF.out.P1).mono ?_; rintro e w' ⟨rfl, rfl⟩)
                            | (go_at_call 35; refine (rkept_any HPF.out.P2).mono ?_; rintro e w' ⟨rfl, rfl⟩))
                          go_roundw
                          case rel => exact ⟨j + 1, p, q, A1', A2', c1', c2', L, by go_num, rfl, rfl, ⟨HJT.out⟩, HPF⟩
                          case measure => have := HJT.out; simp [intOf]; omega
            · have hjn : j = len := by have := HJ.out; omega
              subst hjn
              go_wp2_with (go_at_call 10; refine (awake_any HPQ.out.lim).mono ?_; rintro e w3 ⟨rfl, hb⟩; have HB3 := Aside0.mk (below_step HPQ.out.bel hb); clear hb)
              go_ret
              exact ⟨rfl, HB3.out⟩
end Go.Proofs.YtacoekniljimoaaDoor.Res
