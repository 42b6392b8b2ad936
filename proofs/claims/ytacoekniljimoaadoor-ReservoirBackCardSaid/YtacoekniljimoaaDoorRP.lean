/- Chapter 23: the reference's Plan: what it answers, for any mean, bound and sizes (at most 200 sizes). -/
import Derived.Test.YtacoekniljimoaaDoorP
namespace Go.Proofs.YtacoekniljimoaaDoor.Res
open Go.RowKit Go.Proofs.YtacoekniljimoaaDoorW.PrintWords Go.Proofs.YtacoekniljimoaaDoorW.PrintLast Go.Proofs.YtacoekniljimoaaDoorW.PrintMore
attribute [local go_sem] max2_int min2_int max_two min_two
set_option linter.unusedVariables false
set_option linter.unusedSimpArgs false
theorem take_at {w : World} {p : Nat} {m b l : Int} (n P E L : Int) (h : Tank w p m b l) (hP : tkPad m b l n = P) (hE : tkErr m b l n = E) (hL : tkLvl m b l n = L) :
    Calls Tryd.prog 19 #[.pointer (some ⟨p, 0, none⟩), .int .i64 n] w fun e w' => e = .returned (.tuple #[.int .i64 P, .int .i64 E]) ∧ Tank w' p m b L ∧ Upd p w w' := by
  subst hP hE hL; exact take_any n h
theorem rtake_at {w : World} {p : Nat} {m b l : Int} (n P E L : Int) (h : Tank w p m b l) (hP : tkPad m b l n = P) (hE : tkErr m b l n = E) (hL : tkLvl m b l n = L) :
    Calls Tryd.prog 25 #[.pointer (some ⟨p, 0, none⟩), .int .i64 n] w fun e w' => e = .returned (.tuple #[.int .i64 P, .int .i64 E]) ∧ Tank w' p m b L ∧ Upd p w w' := by
  subst hP hE hL; exact rtake_any n h
theorem lit1 (W : World) (x : Int) : Kd.C (Kd.int .i64) (W.alloc (.cells #[.int .i64 x] 3)) (some ⟨W.heap.size, 0, none⟩) 1 [x] := by
  refine ⟨rfl, by simp, fun _ => ⟨_, rfl, fun j p hj => ⟨[.int .i64 p], rfl, rfl, fun i u hu => ?_⟩⟩⟩
  cases i with
  | zero =>
    obtain rfl : Value.int .i64 p = u := by simpa using hu
    cases j with
    | zero =>
      obtain rfl : x = p := by simpa using hj
      show (W.alloc _).cell? ((⟨W.heap.size, 0, none⟩ : Addr).add (0 * 1 + 0)) = _
      simp [Addr.add]
    | succ j => simp at hj
  | succ i => simp at hu
theorem map_snoc (f : Nat → Int) (k : Nat) : (List.range k).map f ++ [f k] = (List.range (k + 1)).map f := by rw [List.range_succ, List.map_append]; rfl
set_option maxRecDepth 100000 in
set_option maxHeartbeats 4000000 in
theorem rplan_any (m b : Int) (A : Option Addr) (c : Nat) (xs : List Int) (n : Nat) (w : World) (hn : xs.length = n) (hr : Kd.C (Kd.int .i64) w A n xs) (hc : n ≤ c) (hl : n ≤ 200) :
    Calls Tryd.prog 12 #[.int .i64 m, .int .i64 b, .slice A n c] w fun e w' => ∃ v u, e = .returned (.tuple #[v, u, .int .i64 (planE m b xs)]) ∧ RowI w' v (planB m b xs) ∧ RowI w' u (planP m b xs) ∧ Below w.heap.size w w' := by
  have HN := Aside0.mk hn
  have HR := Aside0.mk hr
  have HC := Aside0.mk hc
  clear hn hr hc
  by_cases hok : okR m b
  case neg =>
    have e1 : planE m b xs = 6 := by unfold planE; rw [if_neg hok]
    have e2 : planB m b xs = [] := by unfold planB; rw [e1]; rfl
    have e3 : planP m b xs = [] := by unfold planP; rw [e1]; rfl
    rw [e1, e2, e3]
    have HOK := Aside0.mk hok
    clear hok e1 e2 e3
    go_enter Tryd.func12, Tryd.ntmps12
    go_wp2_with (go_at_call 23; refine (rnew_no m b w HOK.out).mono ?_; rintro e w' ⟨rfl, rfl⟩)
    go_ret3
    exact ⟨_, _, rfl, RowI.nil _, RowI.nil _, Below.refl _ _⟩
  case pos =>
    have e1 : planE m b xs = eTo m b xs n := by unfold planE; rw [if_pos hok, HN.out]
    rw [e1]
    have HE1 := Aside0.mk e1
    have HOK := Aside0.mk hok
    clear hok e1
    go_enter Tryd.func12, Tryd.ntmps12
    go_wp2_with (go_at_call 23; refine (rnew_yes m b w HOK.out.1 HOK.out.2).mono ?_; rintro e w1 ⟨p, rfl, hp, ht, hb⟩; have HP := Aside0.mk hp; have HT := Aside0.mk ht; have HB := Aside0.mk hb; clear hp ht hb)
    obtain ⟨B, hB⟩ : ∃ B, B = w1.heap.size := ⟨_, rfl⟩
    have HBB := Aside0.mk hB
    clear hB
    go_loopw [6, 7, 26] (fun v u i wr => ∃ k : Nat, i = .int .i64 (k : Int) ∧ Aside0 (k ≤ n) ∧ Aside0 (Two wr B v ((List.range k).map (lv m b xs)) u ((List.range k).map (pd m b xs))) ∧ Aside0 (Tank wr p m b (lv m b xs k)) ∧ Aside0 (Below w.heap.size w wr ∧ B ≤ wr.heap.size) ∧ Aside0 (eTo m b xs k = 0)) (fun _ _ i _ => n - (intOf i).toNat)
    case atStart => exact ⟨0, rfl, ⟨by omega⟩, ⟨Two.nil _ _⟩, HT, ⟨HB.out, by rw [HBB.out]; exact Nat.le_refl _⟩, ⟨rfl⟩⟩
    case round =>
      obtain ⟨k, rfl, HK, H2, HTK, HBW, HE⟩ := hrel
      by_cases hk : k < n
      · have hk1 : (k : Int) < (n : Int) := by omega
        have hk0 : (0 : Int) ≤ (k : Int) := by omega
        have HKT := Aside0.mk hk
        obtain ⟨ad, rfl, hx⟩ := Kd.at_int (Kd.C_below HR.out HBW.out.1) (k : Int) (by omega) (by omega)
        rw [Int.toNat_natCast] at hx
        have hlv : lv m b xs (k + 1) = tkLvl m b (lv m b xs k) (rd xs (k : Int)) := rfl
        have hpd : pd m b xs k = tkPad m b (lv m b xs k) (rd xs (k : Int)) := rfl
        have her : er m b xs k = tkErr m b (lv m b xs k) (rd xs (k : Int)) := rfl
        have HLV := Aside0.mk hlv
        have HPD := Aside0.mk hpd
        have HER := Aside0.mk her
        obtain ⟨E, hE⟩ : ∃ E, E = er m b xs k := ⟨_, rfl⟩
        have HEE := Aside0.mk hE
        clear hk hlv hpd her hE
        by_cases hz : E = 0
        case neg =>
          have hne : (E != 0) = true := bne_iff_ne.mpr hz
          have HZ := Aside0.mk hz
          have e3 : eTo m b xs n = E := by rw [eTo_first HE.out (by rw [← HEE.out]; exact hz) HKT.out, HEE.out]
          have e4 : planE m b xs ≠ 0 := by rw [HE1.out, e3]; exact hz
          have e5 : planB m b xs = [] := by unfold planB; rw [if_neg e4]
          have e6 : planP m b xs = [] := by unfold planP; rw [if_neg e4]
          have E3 := Aside0.mk e3
          have E5 := Aside0.mk e5
          have E6 := Aside0.mk e6
          clear hz e3 e4 e5 e6
          go_wp2_with (first
            | (go_at_call 26; refine (rlevel_any HTK.out).mono ?_; rintro e w' ⟨rfl, rfl⟩)
            | (go_at_call 25; refine (rtake_at (rd xs (k : Int)) _ _ _ HTK.out HPD.out.symm (HER.out.symm.trans HEE.out.symm) HLV.out.symm).mono ?_; rintro e w2 ⟨rfl, ht, hu⟩; have HU := Aside0.mk hu; clear ht hu))
          go_ret3
          exact ⟨_, _, by rw [E3.out]; rfl, by rw [E5.out]; exact RowI.nil _, by rw [E6.out]; exact RowI.nil _, Upd.below HBW.out.1 HP.out (Nat.le_refl _) HU.out⟩
        case pos =>
          subst hz
          have hkk : k + 1 ≤ 200 := by have := HKT.out; omega
          have hpB : p < B := by rw [HBB.out]; exact HT.out.lt
          have HPB := Aside0.mk hpB
          have E1 : Aside0 (eTo m b xs (k + 1) = 0) := ⟨by simp only [eTo]; rw [if_pos HE.out]; exact HEE.out.symm⟩
          clear hpB
          go_wp2_with (first
            | (go_at_call 26; refine (rlevel_any HTK.out).mono ?_; rintro e w' ⟨rfl, rfl⟩)
            | (go_at_call 25; refine (rtake_at (rd xs (k : Int)) _ _ _ HTK.out HPD.out.symm (HER.out.symm.trans HEE.out.symm) HLV.out.symm).mono ?_; rintro e w2 ⟨rfl, ht, hu⟩; have HU := Aside0.mk hu; have HT2 := Aside0.mk ht; have H22 := Aside0.mk (H2.out.upd hu HPB.out); have HS2 := Aside0.mk hu.size; clear ht hu H2 HTK)
            | ((with_reducible refine gate_dst (N := 44) rfl ?_); refine Kd.R_append_row (Value.int .i64) (0 : Int) (h1 := fun _ => rfl) (w0 := w2) B rfl (.tmp 41) (.tmp 43) 23 3 (.int .i64 0) 8 rfl Tryd.underlying23 info3 rfl (by decide) u6 _ [lv m b xs k] _ 1 1 (fun k => some k ≠ u7.ownBlock) rfl rfl ((H22.out.below (below_alloc (Below.refl _ _) _)).fresh) (H22.out.below (below_alloc (Below.refl _ _) _)).a (lit1 _ _) ((Below.refl _ _).alloc (by have := HBW.out.2; have := HS2.out; omega) _) (by have := HBW.out.2; have := HS2.out; simp; omega) (by simp; omega) ?_; intro v1 w3 hv1 hb3 hg3 hat3; have H23 := Aside0.mk ((H22.out.below (below_alloc (Below.refl _ _) _)).grown hv1 hg3 hat3); have HB3 := Aside0.mk hb3; have HG3 := Aside0.mk hg3.size; clear hv1 hb3 hg3 hat3)
            | ((with_reducible refine gate_dst (N := 48) rfl ?_); refine Kd.R_append_row (Value.int .i64) (0 : Int) (h1 := fun _ => rfl) (w0 := w3) B rfl (.tmp 45) (.tmp 47) 23 3 (.int .i64 0) 8 rfl Tryd.underlying23 info3 rfl (by decide) u7 _ [pd m b xs k] _ 1 1 (fun k => some k ≠ v1.ownBlock) rfl rfl ((H23.out.symm.below (below_alloc (Below.refl _ _) _)).fresh) (H23.out.symm.below (below_alloc (Below.refl _ _) _)).a (lit1 _ _) ((Below.refl _ _).alloc (by have := HBW.out.2; have := HS2.out; have := HG3.out; simp at this; omega) _) (by have := HBW.out.2; have := HS2.out; have := HG3.out; simp at this ⊢; omega) (by simp; omega) ?_; intro u1 w4 hv1 hb3 hg3 hat3; have H24 := Aside0.mk ((H23.out.symm.below (below_alloc (Below.refl _ _) _)).grown hv1 hg3 hat3); have HB4 := Aside0.mk hb3; have HG4 := Aside0.mk hg3.size; clear hv1 hb3 hg3 hat3))
          go_roundw
          case rel =>
            have hb34 : Below B w2 w4 := HB3.out.trans HB4.out
            refine ⟨k + 1, by go_num, ⟨HKT.out⟩, ⟨?_⟩, ⟨HT2.out.of_block (hb34.block p HPB.out)⟩, ⟨?_, ?_⟩, E1⟩
            · rw [← map_snoc, ← map_snoc]; exact H24.out.symm
            · have hBw : w.heap.size ≤ B := by have := HB.out.size; have := HBB.out; omega
              exact (Upd.below HBW.out.1 HP.out (Nat.le_refl _) HU.out).trans (hb34.mono hBw)
            · have := HBW.out.2; have := HS2.out; have := hb34.size; omega
          case measure => have := HKT.out; simp [intOf]; omega
      · have hkn : k = n := by have := HK.out; omega
        subst hkn
        have e3 : planE m b xs = 0 := by rw [HE1.out, HE.out]
        have e5 : planB m b xs = (List.range k).map (lv m b xs) := by unfold planB; rw [if_pos e3, HN.out]
        have e6 : planP m b xs = (List.range k).map (pd m b xs) := by unfold planP; rw [if_pos e3, HN.out]
        have E5 := Aside0.mk e5
        have E6 := Aside0.mk e6
        clear e3 e5 e6
        go_wp2
        go_ret3
        exact ⟨_, _, by rw [HE.out]; rfl, by rw [E5.out]; exact RowI.of_R H2.out.a, by rw [E6.out]; exact RowI.of_R H2.out.b, HBW.out.1⟩
end Go.Proofs.YtacoekniljimoaaDoor.Res
