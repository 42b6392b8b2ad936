/- Chapter 23: the law ReservoirBounds returns true. Conditions: none but what the limits hold. -/
import Derived.Test.YtacoekniljimoaaDoorLP
import Derived.IntWalk
namespace Go.Proofs.YtacoekniljimoaaDoor.Res
open Go.RowKit Go.Proofs.YtacoekniljimoaaDoorW.PrintWords Go.Proofs.YtacoekniljimoaaDoorW.PrintLast Go.Proofs.YtacoekniljimoaaDoorW.PrintMore
set_option linter.unusedVariables false
set_option linter.unusedSimpArgs false
theorem quiet_left {P : Program} {f : FuncId} {args : Array Value} {w : World} {n : Nat} {v : Value}
    (h : Calls P f args (w.drewN n) fun e w' => e = .returned v ∧ w.drewN n = w') : Calls P f args (w.drewN n) fun e w'' => e = .returned v ∧ ∃ m, w'' = w.drewN m :=
  h.mono fun _ _ ⟨he, hm⟩ => ⟨he, n, hm.symm⟩
/-- What holds in the loop of the law. -/
structure BdI (w wr : World) (N p : Nat) (x y : Int) (k : Nat) (L M G : Int) : Prop where
  t : Tank wr p x y L
  bel : Below w.heap.size w wr
  b0 : wr.cell? ⟨N, 0, none⟩ = some (.int .i64 x)
  b1 : wr.cell? ⟨N, 1, none⟩ = some (.int .i64 y)
  sum : M = L + G
  m0 : 0 ≤ M
  m1 : M ≤ 2047 * (k : Int)
  lim : Lim wr
theorem BdI.upd {w wr w2 : World} {N p k : Nat} {x y L L' M G M' G' : Int} (h : BdI w wr N p x y k L M G) (hu : Upd p wr w2) (ht : Tank w2 p x y L') (hw : w.heap.size ≤ p) (hN : N ≠ p) (hp0 : 0 < p) (hs : M' = L' + G') (h0 : 0 ≤ M') (h1 : M' ≤ 2047 * ((k + 1 : Nat) : Int)) : BdI w w2 N p x y (k + 1) L' M' G' :=
  ⟨ht, Upd.below h.bel hw (Nat.le_refl _) hu, (World.cell?_of_block (w := wr) (hu.block N (World.block_lt_of_cell? wr _ h.b0) hN)).trans h.b0, (World.cell?_of_block (w := wr) (hu.block N (World.block_lt_of_cell? wr _ h.b0) hN)).trans h.b1, hs, h0, h1, hu.lim hp0 h.lim⟩
theorem BdI.drewN {w wr : World} {N p k : Nat} {x y L M G : Int} (h : BdI w wr N p x y k L M G) (n : Nat) : BdI w (wr.drewN n) N p x y k L M G := ⟨h.t.drewN n, pw_below_drewN h.bel n, h.b0, h.b1, h.sum, h.m0, h.m1, h.lim.of_block rfl⟩
set_option maxRecDepth 100000 in
set_option maxHeartbeats 8000000 in
theorem bounds_law (x y : Int) (A : Option Addr) (c : Nat) (xs : List Int) (n : Nat) {w : World} (hL : Lim w) (hn : xs.length = n) (hr : Kd.C (Kd.int .i64) w A n xs) (hc : n ≤ c) :
    Calls Tryd.prog 4 #[.agg #[.int .i64 x, .int .i64 y], .slice A n c] w fun e w' => e = .returned (.bool true) ∧ Below w.heap.size w w' := by
  obtain ⟨N, hN⟩ : ∃ N, N = w.heap.size := ⟨_, rfl⟩
  have HL0 := Aside0.mk (hL.below' (below_alloc (Below.refl _ _) (.cells #[.int .i64 x, .int .i64 y] 22)))
  have HR0 := Aside0.mk (Kd.C_alloc hr (.cells #[.int .i64 x, .int .i64 y] 22))
  have HR := Aside0.mk hr
  have HN := Aside0.mk hn
  have HC := Aside0.mk hc
  have HB0 := Aside0.mk (below_alloc (Below.refl w.heap.size w) (.cells #[.int .i64 x, .int .i64 y] 22))
  have hk := box_two w x y
  have hNlt : (w.alloc (.cells #[.int .i64 x, .int .i64 y] 22)).heap.size = N + 1 := by rw [hN]; simp
  rw [← hN] at hk
  have HK0 := Aside0.mk hk
  clear hL hn hr hc hk
  by_cases h : 200 < n
  · have h1 : (200 : Int) < (n : Int) := by omega
    clear hNlt hN HK0
    go_enter Tryd.func4, Tryd.ntmps4
    go_wp2_with (go_at_call 10; refine (awake_any HL0.out).mono ?_; rintro e w1 ⟨rfl, hb⟩; have HB := Aside0.mk (below_step HB0.out hb); clear hb)
    go_ret
    exact ⟨rfl, HB.out⟩
  · have h1 : ¬ (200 : Int) < (n : Int) := by omega
    have hl : n ≤ 200 := by omega
    go_enter Tryd.func4, Tryd.ntmps4
    go_upto_region 3 with (fail)
    obtain ⟨W0, hW0⟩ : ∃ W0, W0 = w.alloc (.cells #[.int .i64 x, .int .i64 y] 22) := ⟨_, rfl⟩
    rw [← hW0] at HL0 HR0 HB0 HK0 hNlt ⊢
    rw [← hN]
    have HNL := Aside0.mk hNlt
    have HNE := Aside0.mk hN
    clear hW0 hN hNlt
    have k0 := HK0.out.1
    have k1 := HK0.out.2
    by_cases hok : okR x y
    case neg =>
      have HOK := Aside0.mk hok
      clear hok
      go_wp2_with (first
        | (go_at_call 16; refine (new_no x y _ HL0.out HOK.out).mono ?_; rintro e w1 ⟨rfl, hb⟩; have HB1 := Aside0.mk hb; clear hb)
        | (go_at_call 10; refine (awake_any (HL0.out.below' HB1.out)).mono ?_; rintro e w2 ⟨rfl, hb⟩; have HB2 := Aside0.mk (below_step HB0.out (below_step HB1.out hb)); clear hb))
      go_ret
      exact ⟨rfl, HB2.out⟩
    case pos =>
      have HOK := Aside0.mk hok
      clear hok
      go_wp2_with (go_at_call 16; refine (new_yes x y _ HL0.out HOK.out.1 HOK.out.2).mono ?_; rintro e w1 ⟨p, rfl, hp, ht, hb⟩; have HP := Aside0.mk hp; have HT := Aside0.mk ht; have HB1 := Aside0.mk hb; clear hp ht hb)
      clear k0 k1
      have HPN := Aside0.mk (show N ≠ p by have := HP.out; have := HNL.out; omega)
      have HPW := Aside0.mk (show w.heap.size ≤ p by have := HP.out; have := HNL.out; have := HNE.out; omega)
      have HP0 := Aside0.mk (show 0 < p by have := HP.out; have := HNL.out; omega)
      have HI0 := Aside0.mk (show BdI w w1 N p x y 0 0 0 0 from ⟨HT.out, below_step HB0.out HB1.out, pw_cell_below HB1.out HK0.out.1, pw_cell_below HB1.out HK0.out.2, by omega, by omega, by omega, HL0.out.below' HB1.out⟩)
      go_loopw [7, 8, 32] (fun M G i wr => ∃ (k : Nat) (L m g : Int), i = .int .i64 (k : Int) ∧ M = .int .i64 m ∧ G = .int .i64 g ∧ Aside0 (k ≤ n) ∧ Aside0 (BdI w wr N p x y k L m g)) (fun _ _ i _ => n - (intOf i).toNat)
      case atStart => exact ⟨0, 0, 0, 0, rfl, rfl, rfl, ⟨by omega⟩, HI0⟩
      case round =>
        obtain ⟨k, L, m, g, rfl, rfl, rfl, HK, HI⟩ := hrel
        by_cases hk : k < n
        · have HKT := Aside0.mk hk
          have hk1 : (k : Int) < (n : Int) := by omega
          have hk0 : (0 : Int) ≤ (k : Int) := by omega
          obtain ⟨ad, rfl, hx⟩ := Kd.at_int (Kd.C_below HR.out HI.out.bel) (k : Int) (by omega) (by omega)
          rw [Int.toNat_natCast] at hx
          obtain ⟨z, hz⟩ : ∃ z, z = rd xs (k : Int) := ⟨_, rfl⟩
          rw [← hz] at hx
          clear hk hz
          obtain ⟨x1, x2⟩ := HI.out.t.hm
          obtain ⟨y1, y2⟩ := HI.out.t.hb
          obtain ⟨l1, l2⟩ := HI.out.t.hl
          by_cases hz0 : z < 0
          · have HZ := Aside0.mk (tk_neg (m := x) (b := y) (l := L) hz0)
            go_wp2_with (first
              | (go_at_call 17; have t0 := HZ; refine (level_any HI.out.t).mono ?_; rintro e w' ⟨rfl, rfl⟩; clear t0)
              | (go_at_call 18; refine (most_any HI.out.t).mono ?_; rintro e w2 ⟨rfl, ⟨q, rfl⟩⟩)
              | (go_at_call 19; refine (take_at z 0 6 L (HI.out.t.drewN _) HZ.out.1 HZ.out.2.1 HZ.out.2.2).mono ?_; rintro e w3 ⟨rfl, ht, hu⟩; have HT3 := Aside0.mk ht; have HU3 := Aside0.mk hu; clear ht hu)
              | (go_at_call 17; refine (level_any HT3.out).mono ?_; rintro e w' ⟨rfl, rfl⟩)
              | (go_at_call 18; refine (most_any HT3.out).mono ?_; rintro e w4 ⟨rfl, ⟨q2, rfl⟩⟩))
            go_roundw
            case rel => exact ⟨k + 1, L, m, g, by go_num, rfl, rfl, ⟨HKT.out⟩, ⟨((HI.out.drewN q).upd HU3.out HT3.out HPW.out HPN.out HP0.out HI.out.sum HI.out.m0 (by have := HI.out.m1; omega)).drewN q2⟩⟩
            case measure => have := HKT.out; simp [intOf]; omega
          · by_cases hz1 : L + x < z
            · have HZ := Aside0.mk (tk_full (b := y) hz0 hz1)
              go_wp2_with (first
                | (go_at_call 17; have t0 := HZ; refine (level_any HI.out.t).mono ?_; rintro e w' ⟨rfl, rfl⟩; clear t0)
                | (go_at_call 18; refine (most_any HI.out.t).mono ?_; rintro e w2 ⟨rfl, ⟨q, rfl⟩⟩)
                | (go_at_call 19; refine (take_at z 0 2 L (HI.out.t.drewN _) HZ.out.1 HZ.out.2.1 HZ.out.2.2).mono ?_; rintro e w3 ⟨rfl, ht, hu⟩; have HT3 := Aside0.mk ht; have HU3 := Aside0.mk hu; clear ht hu)
                | (go_at_call 17; refine (level_any HT3.out).mono ?_; rintro e w' ⟨rfl, rfl⟩)
                | (go_at_call 18; refine (most_any HT3.out).mono ?_; rintro e w4 ⟨rfl, ⟨q2, rfl⟩⟩))
              go_roundw
              case rel => exact ⟨k + 1, L, m, g, by go_num, rfl, rfl, ⟨HKT.out⟩, ⟨((HI.out.drewN q).upd HU3.out HT3.out HPW.out HPN.out HP0.out HI.out.sum HI.out.m0 (by have := HI.out.m1; omega)).drewN q2⟩⟩
              case measure => have := HKT.out; simp [intOf]; omega
            · have hz2 : 0 ≤ z := by omega
              have hz3 : z ≤ L + x := by omega
              obtain ⟨P, hP⟩ : ∃ P, P = tkPad x y L z := ⟨_, rfl⟩
              obtain ⟨L2, hL2⟩ : ∃ L2, L2 = tkLvl x y L z := ⟨_, rfl⟩
              have hE : tkErr x y L z = 0 := by unfold tkErr; rw [if_neg hz0, if_neg hz1]
              have hfact : 0 ≤ P ∧ L2 + z + P = L + x ∧ 0 ≤ L2 ∧ L2 ≤ y ∧ (0 < P → L2 = y) ∧ P ≤ 2600 := by
                by_cases hq : 0 < L + x - z - y
                · have := tk_over hz0 hz1 hq; omega
                · have := tk_in hz0 hz1 hq; omega
              obtain ⟨p1, p2, p3, p4, p5, p6⟩ := hfact
              have HT := Aside0.mk (And.intro hP.symm (And.intro hE hL2.symm))
              have HS := Aside0.mk (And.intro HI.out.sum (And.intro HI.out.m0 HI.out.m1))
              have HZ := Aside0.mk hz0
              have hm1 : m ≤ 409400 := by have := HI.out.m1; omega
              have hm0 : 0 ≤ m := HI.out.m0
              have hg0 : g ≤ 409400 := by have := HI.out.sum; omega
              have hg1 : -600 ≤ g := by have := HI.out.sum; omega
              have HP5 := Aside0.mk p5
              have HP2 := Aside0.mk p2
              clear hP hL2 hE p2 p5
              go_upto_region 17 with (first
                | (go_at_call 17; have t0 := HZ; refine (level_any HI.out.t).mono ?_; rintro e w' ⟨rfl, rfl⟩; clear t0)
                | (go_at_call 18; refine (most_any HI.out.t).mono ?_; rintro e w2 ⟨rfl, ⟨q, rfl⟩⟩)
                | (go_at_call 19; refine (take_at z P 0 L2 (HI.out.t.drewN _) HT.out.1 HT.out.2.1 HT.out.2.2).mono ?_; rintro e w3 ⟨rfl, ht, hu⟩; have HI3 := Aside0.mk (show BdI w w3 N p x y (k + 1) L2 (m + x) (g + (z + P)) from (HI.out.drewN q).upd hu ht HPW.out HPN.out HP0.out (by have := HS.out; have := HP2.out; omega) (by omega) (by have := HS.out; omega)); have k0 := HI3.out.b0; have k1 := HI3.out.b1; clear ht hu))
              obtain ⟨M2, hM2⟩ : ∃ v, v = m + x := ⟨_, rfl⟩
              obtain ⟨G2, hG2⟩ : ∃ v, v = g + (z + P) := ⟨_, rfl⟩
              rw [← hM2, ← hG2] at HI3 ⊢
              have hsum : M2 = L2 + G2 := HI3.out.sum
              have hn1 : (M2 != L2 + G2) = false := by rw [hsum]; simp
              have hG3 : -3000000 ≤ G2 ∧ G2 ≤ 3000000 := by omega
              have HM2 := Aside0.mk hM2
              have HG2 := Aside0.mk hG2
              obtain ⟨hG4, hG5⟩ := hG3
              have hw1 : IntKind.i64.wrap (L2 + G2) = L2 + G2 := IntWalk.i64_in _ (by omega)
              have hw2 : IntKind.i64.wrap (L2 + x) = L2 + x := IntWalk.i64_in _ (by omega)
              clear hM2 hG2 hsum
              by_cases hq : 0 < P
              · have hLy : (L2 != y) = false := by rw [HP5.out hq]; simp
                go_quiet ((first | (go_at_call 17; exact quiet_left (level_any (HI3.out.t.drewN _))) | (go_at_call 18; exact Calls.quiet_of (most_any (HI3.out.t.drewN _)))))
                clear hw1 hw2
                go_wp2
                go_roundw
                case rel => exact ⟨k + 1, L2, M2, G2, by go_num, rfl, rfl, ⟨HKT.out⟩, ⟨HI3.out.drewN _⟩⟩
                case measure => have := HKT.out; simp [intOf]; omega
              · go_quiet ((first | (go_at_call 17; exact quiet_left (level_any (HI3.out.t.drewN _))) | (go_at_call 18; exact Calls.quiet_of (most_any (HI3.out.t.drewN _)))))
                clear hw1 hw2
                go_wp2
                go_roundw
                case rel => exact ⟨k + 1, L2, M2, G2, by go_num, rfl, rfl, ⟨HKT.out⟩, ⟨HI3.out.drewN _⟩⟩
                case measure => have := HKT.out; simp [intOf]; omega
        · have hkn : k = n := by have := HK.out; omega
          subst hkn
          go_wp2_with (go_at_call 10; refine (awake_any HI.out.lim).mono ?_; rintro e w2 ⟨rfl, hb⟩; have HB2 := Aside0.mk (below_step HI.out.bel hb); clear hb)
          go_ret
          exact ⟨rfl, HB2.out⟩
end Go.Proofs.YtacoekniljimoaaDoor.Res
