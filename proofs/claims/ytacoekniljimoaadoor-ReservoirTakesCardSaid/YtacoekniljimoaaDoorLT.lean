/- Chapter 23: the law ReservoirTakes returns true. Conditions: none but what the limits hold. -/
import Derived.Test.YtacoekniljimoaaDoorLP
namespace Go.Proofs.YtacoekniljimoaaDoor.Res
open Go.RowKit Go.Proofs.YtacoekniljimoaaDoorW.PrintWords Go.Proofs.YtacoekniljimoaaDoorW.PrintLast Go.Proofs.YtacoekniljimoaaDoorW.PrintMore
set_option linter.unusedVariables false
set_option linter.unusedSimpArgs false
/-- What holds in the loop of the law: two tanks, one of the program's and one of the reference's, at the same level. -/
structure TkI (w wr : World) (p u : Nat) (x y L : Int) : Prop where
  tp : Tank wr p x y L
  tu : Tank wr u x y L
  ne : p ≠ u
  wp : w.heap.size ≤ p
  wu : w.heap.size ≤ u
  bel : Below w.heap.size w wr
  lim : Lim wr
theorem TkI.drewN {w wr : World} {p u : Nat} {x y L : Int} (h : TkI w wr p u x y L) (n : Nat) : TkI w (wr.drewN n) p u x y L := ⟨h.tp.drewN n, h.tu.drewN n, h.ne, h.wp, h.wu, pw_below_drewN h.bel n, h.lim.of_block rfl⟩
/-- Behind a Take of each. -/
theorem TkI.step {w wr w1 w2 : World} {p u : Nat} {x y L L' : Int} (h : TkI w wr p u x y L) (h0 : 0 < w.heap.size) (hp : Upd p wr w1) (tp : Tank w1 p x y L') (hu : Upd u w1 w2) (tu : Tank w2 u x y L') : TkI w w2 p u x y L' :=
  ⟨tp.other hu h.ne, tu, h.ne, h.wp, h.wu, Upd.below (Upd.below h.bel h.wp (Nat.le_refl _) hp) h.wu (Nat.le_refl _) hu, hu.lim (by have := h.wu; omega) (hp.lim (by have := h.wp; omega) h.lim)⟩
/-- Behind a Copy. -/
theorem TkI.copied {w wr w1 : World} {p u q : Nat} {x y L : Int} (h : TkI w wr p u x y L) (hq : wr.heap.size ≤ q) (tq : Tank w1 q x y L) (hb : Below wr.heap.size wr w1) : TkI w w1 q u x y L :=
  ⟨tq, h.tu.below hb, by have := h.tu.lt; omega, Nat.le_trans h.bel.size hq, h.wu, below_step h.bel hb, h.lim.below' hb⟩
set_option maxRecDepth 100000 in
set_option maxHeartbeats 8000000 in
theorem takes_law (x y : Int) (A : Option Addr) (c : Nat) (xs : List Int) (n : Nat) (A' : Option Addr) (c' : Nat) (bs : List Bool) (nb : Nat) {w : World} (hL : Lim w) (hn : xs.length = n) (hr : Kd.C (Kd.int .i64) w A n xs) (hc : n ≤ c) (hr' : Kd.C Kd.bool w A' nb bs) :
    Calls Tryd.prog 7 #[.agg #[.int .i64 x, .int .i64 y], .slice A n c, .slice A' nb c'] w fun e w' => e = .returned (.bool true) ∧ Below w.heap.size w w' := by
  obtain ⟨N, hN⟩ : ∃ N, N = w.heap.size := ⟨_, rfl⟩
  have HL0 := Aside0.mk (hL.below' (below_alloc (Below.refl _ _) (.cells #[.int .i64 x, .int .i64 y] 22)))
  have HR := Aside0.mk hr
  have HR' := Aside0.mk hr'
  have HN := Aside0.mk hn
  have HC := Aside0.mk hc
  have HPOS := Aside0.mk hL.pos
  have HB0 := Aside0.mk (below_alloc (Below.refl w.heap.size w) (.cells #[.int .i64 x, .int .i64 y] 22))
  have hk := box_two w x y
  have hNlt : (w.alloc (.cells #[.int .i64 x, .int .i64 y] 22)).heap.size = N + 1 := by rw [hN]; simp
  rw [← hN] at hk
  have HK0 := Aside0.mk hk
  clear hL hn hr hc hk hr'
  by_cases h : 200 < n
  · have h1 : (200 : Int) < (n : Int) := by omega
    clear hNlt hN HK0
    go_enter Tryd.func7, Tryd.ntmps7
    go_wp2_with (go_at_call 10; refine (awake_any HL0.out).mono ?_; rintro e w1 ⟨rfl, hb⟩; have HB := Aside0.mk (below_step HB0.out hb); clear hb)
    go_ret
    exact ⟨rfl, HB.out⟩
  · have h1 : ¬ (200 : Int) < (n : Int) := by omega
    have hl : n ≤ 200 := by omega
    go_enter Tryd.func7, Tryd.ntmps7
    go_upto_region 3 with (fail)
    obtain ⟨W0, hW0⟩ : ∃ W0, W0 = w.alloc (.cells #[.int .i64 x, .int .i64 y] 22) := ⟨_, rfl⟩
    rw [← hW0] at HL0 HB0 HK0 hNlt ⊢
    rw [← hN]
    have HNL := Aside0.mk hNlt
    have HNE := Aside0.mk hN
    clear hW0 hN hNlt
    have k0 := HK0.out.1
    have k1 := HK0.out.2
    by_cases hok : okR x y
    case neg =>
      have HOK := Aside0.mk hok
      clear hok
      go_wp2_with (first
        | (go_at_call 16; refine (new_no x y _ HL0.out HOK.out).mono ?_; rintro e w1 ⟨rfl, hb⟩; have HB1 := Aside0.mk hb; have j0 := pw_cell_below hb k0; have j1 := pw_cell_below hb k1; clear hb)
        | (go_at_call 23; refine (rnew_no x y _ HOK.out).mono ?_; rintro e w' ⟨rfl, rfl⟩)
        | (go_at_call 10; refine (awake_any (HL0.out.below' HB1.out)).mono ?_; rintro e w2 ⟨rfl, hb⟩; have HB2 := Aside0.mk (below_step HB0.out (below_step HB1.out hb)); clear hb))
      go_ret
      exact ⟨rfl, HB2.out⟩
    case pos =>
      have HOK := Aside0.mk hok
      clear hok
      go_wp2_with (first
        | (go_at_call 16; refine (new_yes x y _ HL0.out HOK.out.1 HOK.out.2).mono ?_; rintro e w1 ⟨p, rfl, hp, ht, hb⟩; have HP := Aside0.mk hp; have HT := Aside0.mk ht; have HB1 := Aside0.mk hb; have j0 := pw_cell_below hb k0; have j1 := pw_cell_below hb k1; clear hp ht hb)
        | (go_at_call 23; refine (rnew_yes x y _ HOK.out.1 HOK.out.2).mono ?_; rintro e w2 ⟨u, rfl, hp, ht, hb⟩; have HP2 := Aside0.mk hp; have HT2 := Aside0.mk ht; have HB2 := Aside0.mk hb; clear hp ht hb j0 j1))
      have HI0 := Aside0.mk (show TkI w w2 p u x y 0 from ⟨HT.out.below HB2.out, HT2.out, by have := HT.out.lt; have := HP2.out; omega, by have := HP.out; have := HNL.out; have := HNE.out; omega, by have := HP2.out; have := HT.out.lt; have := HP.out; have := HNL.out; have := HNE.out; omega, below_step HB0.out (below_step HB1.out HB2.out), (HL0.out.below' HB1.out).below' HB2.out⟩)
      clear k0 k1
      go_loopw [7, 58] (fun T i wr => ∃ (k q : Nat) (L : Int), i = .int .i64 (k : Int) ∧ T = .pointer (some ⟨q, 0, none⟩) ∧ Aside0 (k ≤ n) ∧ Aside0 (TkI w wr q u x y L)) (fun _ i _ => n - (intOf i).toNat)
      case atStart => exact ⟨0, p, 0, rfl, rfl, ⟨by omega⟩, HI0⟩
      case round =>
        obtain ⟨k, q, L, rfl, rfl, HK, HI⟩ := hrel
        by_cases hk : k < n
        · have HKT := Aside0.mk hk
          have hk1 : (k : Int) < (n : Int) := by omega
          have hk0 : (0 : Int) ≤ (k : Int) := by omega
          obtain ⟨ad, rfl, hx⟩ := Kd.at_int (Kd.C_below HR.out HI.out.bel) (k : Int) (by omega) (by omega)
          rw [Int.toNat_natCast] at hx
          obtain ⟨z, hz⟩ : ∃ z, z = rd xs (k : Int) := ⟨_, rfl⟩
          rw [← hz] at hx
          clear hk hz
          obtain ⟨P, hP⟩ : ∃ P, P = tkPad x y L z := ⟨_, rfl⟩
          obtain ⟨E, hE⟩ : ∃ E, E = tkErr x y L z := ⟨_, rfl⟩
          obtain ⟨L2, hL2⟩ : ∃ L2, L2 = tkLvl x y L z := ⟨_, rfl⟩
          have HT := Aside0.mk (And.intro hP.symm (And.intro hE.symm hL2.symm))
          clear hP hE hL2
          by_cases hi : k < nb
          · have hi1 : (k : Int) < (nb : Int) := by omega
            obtain ⟨ad', rfl, hy0⟩ := Kd.at_bool HR'.out (k : Int) (by omega) (by omega)
            rw [Int.toNat_natCast] at hy0
            obtain ⟨cp, hcp⟩ : ∃ cp, cp = rdOf false bs (k : Int) := ⟨_, rfl⟩
            rw [← hcp] at hy0
            have hy := pw_cell_below HI.out.bel hy0
            have HY0 := Aside0.mk hy0
            clear hcp hy0
            cases cp with
            | true =>
              go_wp2_with (first
                | (go_at_call 24; refine (copy_any HI.out.tp).mono ?_; rintro e w3 ⟨q2, rfl, hq, ht, hb⟩; have HI3 := Aside0.mk (HI.out.copied hq ht hb); have HOLD3 := Aside0.mk (HI.out.tp.below hb); have HNE2 := Aside0.mk (show q ≠ q2 by have := HI.out.tp.lt; omega); clear hq ht hb)
                | (go_at_call 17; refine (level_any HOLD3.out).mono ?_; rintro e w' ⟨rfl, rfl⟩)
                | (go_at_call 19; refine (take_at z P E L2 HI3.out.tp HT.out.1 HT.out.2.1 HT.out.2.2).mono ?_; rintro e w4 ⟨rfl, ht, hu⟩; have HT4 := Aside0.mk ht; have HU4 := Aside0.mk hu; have HOLD4 := Aside0.mk (HOLD3.out.other hu HNE2.out); clear ht hu)
                | (go_at_call 25; refine (rtake_at z P E L2 (HI3.out.tu.other HU4.out (Ne.symm HI3.out.ne)) HT.out.1 HT.out.2.1 HT.out.2.2).mono ?_; rintro e w5 ⟨rfl, ht, hu⟩; have HI5 := Aside0.mk (HI3.out.step HPOS.out HU4.out HT4.out hu ht); have HOLD5 := Aside0.mk (HOLD4.out.other hu HI.out.ne); have hy5 := pw_cell_below HI5.out.bel HY0.out; clear ht hu)
                | (go_at_call 17; refine (level_any HI5.out.tp).mono ?_; rintro e w' ⟨rfl, rfl⟩)
                | (go_at_call 26; refine (rlevel_any HI5.out.tu).mono ?_; rintro e w' ⟨rfl, rfl⟩)
                | (go_at_call 18; refine (most_any HI5.out.tp).mono ?_; rintro e w6 ⟨rfl, ⟨j1, rfl⟩⟩)
                | (go_at_call 27; refine (rmost_any (HI5.out.tu.drewN _)).mono ?_; rintro e w7 ⟨rfl, ⟨j2, rfl⟩⟩)
                | (go_at_call 17; refine (level_any (HOLD5.out.drewN _)).mono ?_; rintro e w' ⟨rfl, rfl⟩))
              go_roundw
              case rel => exact ⟨k + 1, q2, L2, by go_num, rfl, ⟨HKT.out⟩, ⟨HI5.out.drewN _⟩⟩
              case measure => have := HKT.out; simp [intOf]; omega
            | false =>
              have T0 := Aside0.mk trivial
              go_wp2_with (first
                | (go_at_call 17; have t0 := T0; refine (level_any HI.out.tp).mono ?_; rintro e w' ⟨rfl, rfl⟩; clear t0 T0)
                | (go_at_call 19; refine (take_at z P E L2 HI.out.tp HT.out.1 HT.out.2.1 HT.out.2.2).mono ?_; rintro e w4 ⟨rfl, ht, hu⟩; have HT4 := Aside0.mk ht; have HU4 := Aside0.mk hu; clear ht hu)
                | (go_at_call 25; refine (rtake_at z P E L2 (HI.out.tu.other HU4.out (Ne.symm HI.out.ne)) HT.out.1 HT.out.2.1 HT.out.2.2).mono ?_; rintro e w5 ⟨rfl, ht, hu⟩; have HI5 := Aside0.mk (HI.out.step HPOS.out HU4.out HT4.out hu ht); have hy5 := pw_cell_below HI5.out.bel HY0.out; clear ht hu)
                | (go_at_call 17; refine (level_any HI5.out.tp).mono ?_; rintro e w' ⟨rfl, rfl⟩)
                | (go_at_call 26; refine (rlevel_any HI5.out.tu).mono ?_; rintro e w' ⟨rfl, rfl⟩)
                | (go_at_call 18; refine (most_any HI5.out.tp).mono ?_; rintro e w6 ⟨rfl, ⟨j1, rfl⟩⟩)
                | (go_at_call 27; refine (rmost_any (HI5.out.tu.drewN _)).mono ?_; rintro e w7 ⟨rfl, ⟨j2, rfl⟩⟩))
              go_roundw
              case rel => exact ⟨k + 1, q, L2, by go_num, rfl, ⟨HKT.out⟩, ⟨HI5.out.drewN _⟩⟩
              case measure => have := HKT.out; simp [intOf]; omega
          · have hi1 : ¬ (k : Int) < (nb : Int) := by omega
            have T0 := Aside0.mk trivial
            go_wp2_with (first
              | (go_at_call 17; have t0 := T0; refine (level_any HI.out.tp).mono ?_; rintro e w' ⟨rfl, rfl⟩; clear t0 T0)
              | (go_at_call 19; refine (take_at z P E L2 HI.out.tp HT.out.1 HT.out.2.1 HT.out.2.2).mono ?_; rintro e w4 ⟨rfl, ht, hu⟩; have HT4 := Aside0.mk ht; have HU4 := Aside0.mk hu; clear ht hu)
              | (go_at_call 25; refine (rtake_at z P E L2 (HI.out.tu.other HU4.out (Ne.symm HI.out.ne)) HT.out.1 HT.out.2.1 HT.out.2.2).mono ?_; rintro e w5 ⟨rfl, ht, hu⟩; have HI5 := Aside0.mk (HI.out.step HPOS.out HU4.out HT4.out hu ht); clear ht hu)
              | (go_at_call 17; refine (level_any HI5.out.tp).mono ?_; rintro e w' ⟨rfl, rfl⟩)
              | (go_at_call 26; refine (rlevel_any HI5.out.tu).mono ?_; rintro e w' ⟨rfl, rfl⟩)
              | (go_at_call 18; refine (most_any HI5.out.tp).mono ?_; rintro e w6 ⟨rfl, ⟨j1, rfl⟩⟩)
              | (go_at_call 27; refine (rmost_any (HI5.out.tu.drewN _)).mono ?_; rintro e w7 ⟨rfl, ⟨j2, rfl⟩⟩))
            go_roundw
            case rel => exact ⟨k + 1, q, L2, by go_num, rfl, ⟨HKT.out⟩, ⟨HI5.out.drewN _⟩⟩
            case measure => have := HKT.out; simp [intOf]; omega
        · have hkn : k = n := by have := HK.out; omega
          subst hkn
          go_wp2_with (first
            | (go_at_call 17; refine (level_any HI.out.tp).mono ?_; rintro e w' ⟨rfl, rfl⟩)
            | (go_at_call 26; refine (rlevel_any HI.out.tu).mono ?_; rintro e w' ⟨rfl, rfl⟩)
            | (go_at_call 18; refine (most_any HI.out.tp).mono ?_; rintro e w6 ⟨rfl, ⟨j1, rfl⟩⟩)
            | (go_at_call 27; refine (rmost_any (HI.out.tu.drewN _)).mono ?_; rintro e w7 ⟨rfl, ⟨j2, rfl⟩⟩)
            | (go_at_call 10; refine (awake_any (HI.out.drewN _).lim).mono ?_; rintro e w8 ⟨rfl, hb⟩; have HB8 := Aside0.mk (below_step (pw_below_drewN HI.out.bel _) hb); clear hb))
          go_ret
          exact ⟨rfl, HB8.out⟩
end Go.Proofs.YtacoekniljimoaaDoor.Res
