/- Chapter 23, the pools: Add of the reference; Copy of both. Conditions: none beyond each theorem's own. -/
import Derived.Test.YtacoekniljimoaaDoorAD
namespace Go.Proofs.YtacoekniljimoaaDoor.Res
open Go.RowKit Go.Proofs.YtacoekniljimoaaDoorW.PrintWords Go.Proofs.YtacoekniljimoaaDoorW.PrintLast Go.Proofs.YtacoekniljimoaaDoorW.PrintMore
attribute [local go_sem] max2_int min2_int max_two min_two
set_option linter.unusedVariables false
set_option linter.unusedSimpArgs false
theorem radd_bad {back : Int} {Ab : Option Addr} {nb cb : Nat} {q : Nat} {w : World} (h : ¬ (0 ≤ back ∧ back ≤ 511) ∨ 2047 < nb) :
    Calls Tryd.prog 34 #[.pointer (some ⟨q, 0, none⟩), .int .i64 back, .slice Ab nb cb] w fun e w' => e = .returned (.tuple #[.slice none 0 0, .int .i64 6]) ∧ w' = w := by
  by_cases h1 : back < 0
  · clear h
    go_enter Tryd.func34, Tryd.ntmps34
    go_wp2
    go_ret2
    exact ⟨rfl, rfl⟩
  · by_cases h2 : 511 < back
    · clear h
      go_enter Tryd.func34, Tryd.ntmps34
      go_wp2
      go_ret2
      exact ⟨rfl, rfl⟩
    · have hn : (2047 : Int) < (nb : Int) := by omega
      clear h
      go_enter Tryd.func34, Tryd.ntmps34
      go_wp2
      go_ret2
      exact ⟨rfl, rfl⟩
section
variable {w : World} {q c : Nat} {A : Option Addr} {l : List Int}
theorem pool_boxed {w1 : World} {A1 : Option Addr} {c1 n : Nat} {t : TypeId} {q : Nat} (hq : q = w1.heap.size) (hn : l.length = n) (hc : n ≤ c1) (hr : Kd.C (Kd.int .u8) w1 A1 n l) (h5 : n ≤ 511) (hb : ∀ ad, A1 = some ad → 0 < n → ad.block < w1.heap.size) : Pool (w1.alloc (.cells #[.slice A1 n c1] t)) q A1 c1 l := by
  subst hn
  exact ⟨by rw [World.cell?_alloc_at _ _ _ _ hq]; rfl, World.frozen?_alloc_at _ _ _ _ hq, hc, Kd.C_alloc hr _, h5, fun ad e h => by have := hb ad e h; omega⟩
theorem app_row {w1 : World} {o : Obj} {A0 : Option Addr} {n : Nat} {v : Value} (h : App (w.alloc o) w1 A0 0 n [] l v) : ∃ A1 c1, v = .slice A1 n c1 ∧ n ≤ c1 ∧ Kd.C (Kd.int .u8) w1 A1 n l ∧ (∀ ad, A1 = some ad → 0 < n → w.heap.size ≤ ad.block ∧ ad.block < w1.heap.size) ∧ Below w.heap.size w w1 := by
  obtain ⟨A1, c1, e, hc, hr, _, hf⟩ := h.rd
  simp only [Nat.zero_add, List.nil_append] at e hc hr
  refine ⟨A1, c1, e, hc, hr, fun ad ea hn => ?_, below_step (below_alloc (Below.refl _ _) _) h.below⟩
  obtain ⟨g, eg, hg⟩ := hf hn
  rw [ea] at eg
  cases eg
  simp only [World.size_alloc] at hg
  refine ⟨by show w.heap.size ≤ g; omega, ?_⟩
  obtain ⟨ad', e', hc'⟩ := (Kd.reads_of_C (d := (0 : Int)) hr).2.2 hn
  cases ea.symm.trans e'
  have := hc' 0 hn
  simp only [Addr.add, if_true] at this
  exact World.block_lt_of_cell? w1 _ this
set_option maxHeartbeats 4000000 in
theorem pcopy_any (h : Pool w q A c l) : Calls Tryd.prog 31 #[.pointer (some ⟨q, 0, none⟩)] w fun e w' => ∃ q' A' c', e = .returned (.pointer (some ⟨q', 0, none⟩)) ∧ w.heap.size ≤ q' ∧ Pool w' q' A' c' l ∧ NewRow w.heap.size q' A' l.length ∧ Below w.heap.size w w' := by
  obtain ⟨n, hn⟩ : ∃ n, n = l.length := ⟨_, rfl⟩
  have HRW := Aside0.mk (show Kd.C (Kd.int .u8) w A n l by rw [hn]; exact h.row)
  have hc := h.cell
  have hf := h.fz
  have hql := h.lt
  have h5 : n ≤ 511 := by rw [hn]; exact h.le
  rw [← hn] at hc
  have HN := Aside0.mk hn
  clear h hn
  go_enter Tryd.func31, Tryd.ntmps31
  go_wp2_with ((with_reducible refine gate_dst (N := 10) rfl ?_); refine append_full rfl (.tmp 5) (.tmp 9) rfl _ 0 [] rfl (C_empty _ _) A n c l rfl (Kd.C_alloc HRW.out _) (by omega) ?_; intro v1 w1 hA; obtain ⟨A1, c1, rfl, hc1, hr1, hb1, hbel⟩ := app_row hA; have HC1 := Aside0.mk hc1; have HR1 := Aside0.mk hr1; have HBK := Aside0.mk hb1; have HBEL := Aside0.mk hbel; simp only [Nat.zero_add]; clear hA hc1 hr1 hb1 hbel)
  go_ret
  exact ⟨_, A1, c1, rfl, HBEL.out.size, pool_boxed rfl HN.out.symm HC1.out HR1.out h5 (fun ad e hn => (HBK.out ad e hn).2), fun ad e hn => ⟨(HBK.out ad e (by rw [HN.out]; exact hn)).1, by have := (HBK.out ad e (by rw [HN.out]; exact hn)).2; omega⟩, below_alloc HBEL.out _⟩
set_option maxHeartbeats 4000000 in
theorem rpcopy_any (h : Pool w q A c l) : Calls Tryd.prog 32 #[.pointer (some ⟨q, 0, none⟩)] w fun e w' => ∃ q' A' c', e = .returned (.pointer (some ⟨q', 0, none⟩)) ∧ w.heap.size ≤ q' ∧ Pool w' q' A' c' l ∧ NewRow w.heap.size q' A' l.length ∧ Below w.heap.size w w' := by
  obtain ⟨n, hn⟩ : ∃ n, n = l.length := ⟨_, rfl⟩
  have HRW := Aside0.mk (show Kd.C (Kd.int .u8) w A n l by rw [hn]; exact h.row)
  have hc := h.cell
  have hf := h.fz
  have hql := h.lt
  have h5 : n ≤ 511 := by rw [hn]; exact h.le
  rw [← hn] at hc
  have HN := Aside0.mk hn
  clear h hn
  go_enter Tryd.func32, Tryd.ntmps32
  go_wp2_with ((with_reducible refine gate_dst (N := 8) rfl ?_); refine append_full rfl (.tmp 3) (.tmp 7) rfl _ 0 [] rfl (C_empty _ _) A n c l rfl (Kd.C_alloc HRW.out _) (by omega) ?_; intro v1 w1 hA; obtain ⟨A1, c1, rfl, hc1, hr1, hb1, hbel⟩ := app_row hA; have HC1 := Aside0.mk hc1; have HR1 := Aside0.mk hr1; have HBK := Aside0.mk hb1; have HBEL := Aside0.mk hbel; simp only [Nat.zero_add]; clear hA hc1 hr1 hb1 hbel)
  go_ret
  exact ⟨_, A1, c1, rfl, HBEL.out.size, pool_boxed rfl HN.out.symm HC1.out HR1.out h5 (fun ad e hn => (HBK.out ad e hn).2), fun ad e hn => ⟨(HBK.out ad e (by rw [HN.out]; exact hn)).1, by have := (HBK.out ad e (by rw [HN.out]; exact hn)).2; omega⟩, below_alloc HBEL.out _⟩
end
/-- All the bytes, gathered in memory of the call's own. -/
structure Gath (w w1 : World) (A1 : Option Addr) (M c1 : Nat) (L : List Int) : Prop where
  cap : M ≤ c1
  row : Kd.C (Kd.int .u8) w1 A1 M L
  blk : ∀ ad, A1 = some ad → 0 < M → w.heap.size ≤ ad.block
  bel : Below w.heap.size w w1
theorem gath_of_app {w w1 : World} {o : Obj} {A0 : Option Addr} {n m : Nat} {l bs : List Int} {v : Value} (h : App (w.alloc o) w1 A0 n m l bs v) (hn : n = 0) : ∃ A1 c1, v = .slice A1 (n + m) c1 ∧ Gath w w1 A1 (n + m) c1 (l ++ bs) := by
  subst hn
  obtain ⟨A1, c1, e, hc, hr, hz, hf⟩ := h.rd
  refine ⟨A1, c1, e, hc, hr, fun ad ea hn => ?_, below_step (below_alloc (Below.refl _ _) _) h.below⟩
  obtain ⟨g, eg, hg⟩ := hf (by omega)
  rw [ea] at eg
  cases eg
  simp only [World.size_alloc] at hg
  show w.heap.size ≤ g
  omega
theorem gath_of_R {w w1 : World} {B n m : Nat} {ok : Nat → Prop} {v : Value} {l bs : List Int} (h : Kd.R (Kd.int .u8) 5 w1 B ok v (l ++ bs)) (hl : l.length = n) (hb : bs.length = m) (hn : 0 < n) (hB : w.heap.size ≤ B) (hbel : Below w.heap.size w w1) : ∃ A1 c1, v = .slice A1 (n + m) c1 ∧ Gath w w1 A1 (n + m) c1 (l ++ bs) := by
  have hlen : (l ++ bs).length = n + m := by simp [hl, hb]
  obtain ⟨g, cap, ev, hg1, hg2, _⟩ := Kd.R_form h (by rw [hlen]; omega)
  rw [hlen] at ev
  subst ev
  obtain ⟨_, h2, h3⟩ := Kd.R_reads' h
  rw [hlen] at h3
  exact ⟨_, _, rfl, h2, h3, fun ad e _ => by cases e; exact Nat.le_trans hB hg1, hbel⟩
set_option maxRecDepth 100000 in
set_option maxHeartbeats 8000000 in
theorem radd_ok {back : Int} {A Ab : Option Addr} {nb cb q c : Nat} {l bs : List Int} {w : World} (hP : Pool w q A c l) (hbk : 0 ≤ back ∧ back ≤ 511) (hbs : Kd.C (Kd.int .u8) w Ab nb bs) (hnb : nb ≤ 2047) :
    Calls Tryd.prog 34 #[.pointer (some ⟨q, 0, none⟩), .int .i64 back, .slice Ab nb cb] w (AddPost w q l bs back) := by
  obtain ⟨n, hn⟩ : ∃ n, n = l.length := ⟨_, rfl⟩
  have HP := Aside0.mk hP
  have HBS := Aside0.mk hbs
  have hc := hP.cell
  have hf := hP.fz
  have hql := hP.lt
  have hn5 : n ≤ 511 := by rw [hn]; exact hP.le
  have hnc : n ≤ c := by rw [hn]; exact hP.cap
  have HRW := Aside0.mk (show Kd.C (Kd.int .u8) w A n l by rw [hn]; exact hP.row)
  rw [← hn] at hc
  have HN := Aside0.mk hn
  obtain ⟨hb0, hb1⟩ := hbk
  have hd1 : ¬ (2047 : Int) < (nb : Int) := by omega
  clear hP hbs hn
  go_enter Tryd.func34, Tryd.ntmps34
  by_cases hn0 : n = 0
  case' pos =>
    have HN0 := Aside0.mk hn0
    clear hn0
    go_upto_region 4 with (first
      | ((with_reducible refine gate_dst (N := 26) rfl ?_); refine append_full rfl (.tmp 21) (.tmp 25) rfl _ 0 [] rfl (C_empty _ _) A n c l rfl (Kd.C_alloc HRW.out _) (by omega) ?_; intro v0 w0 hA; obtain ⟨A0, c0, rfl, hc0, hr0, hz0, _⟩ := hA.rd; have hw0 := hA.none HN0.out; obtain ⟨rfl, rfl⟩ := hz0 HN0.out; subst hw0; rw [Nat.zero_add, List.nil_append] at hr0; have HR0 := Aside0.mk hr0; simp only [Nat.zero_add]; clear hA hc0 hr0 hz0)
      | ((with_reducible refine gate_dst (N := 28) rfl ?_); refine append_full rfl (.tmp 26) (.tmp 27) rfl (some ⟨w.heap.size, 0, none⟩) n l (by obtain rfl := HN0.out; rfl) HR0.out Ab nb cb bs rfl (Kd.C_alloc HBS.out _) (by omega) ?_; intro v1 w1 hA; have HA := Aside0.mk hA; clear hA))
    obtain ⟨A1, c1, rfl, HGATH⟩ := gath_of_app HA.out HN0.out
    clear HN0
  case' neg =>
    have hn1 : 0 < n := by omega
    go_upto_region 4 with (first
      | ((with_reducible refine gate_dst (N := 26) rfl ?_); refine append_full rfl (.tmp 21) (.tmp 25) rfl _ 0 [] rfl (C_empty _ _) A n c l rfl (Kd.C_alloc HRW.out _) (by omega) ?_; intro v0 w0 hA; have hR0 := hA.own hn1; rw [World.size_alloc, List.nil_append] at hR0; have HR0 := Aside0.mk hR0; have HB0 := Aside0.mk (below_step (below_alloc (Below.refl w.heap.size w) _) hA.below); have hs0 := hA.below.size; simp only [World.size_alloc] at hs0; have HS0 := Aside0.mk hs0; clear hA hs0 hR0)
      | ((with_reducible refine gate_dst (N := 28) rfl ?_); refine Kd.R_append_row (Value.int .u8) (0 : Int) (h1 := fun _ => rfl) (w0 := w0) (w.heap.size + 1) rfl (.tmp 26) (.tmp 27) 37 5 (.int .u8 0) 1 rfl Tryd.underlying37 info5 rfl (by decide) v0 l bs Ab nb cb (fun _ => True) rfl rfl (fun _ _ => trivial) HR0.out (Kd.C_below HBS.out HB0.out) (Below.refl _ _) HS0.out (by have := HN.out; omega) ?_; intro v1 w1 hv1 hb1 _ _; have HV1 := Aside0.mk hv1; have HB1_ := Aside0.mk (HB0.out.trans (hb1.mono (Nat.le_add_right _ 1))); clear hv1 hb1))
    obtain ⟨A1, c1, rfl, HGATH⟩ := gath_of_R (w := w) HV1.out HN.out.symm HBS.out.1 hn1 (Nat.le_add_right _ 1) HB1_.out
  all_goals
    have HG := Aside0.mk HGATH
    have hP1 := HP.out.below HGATH.bel
    have hql1 := hP1.lt
    have hcq := hP1.cell
    have hfq := hP1.fz
    rw [← HN.out] at hcq
    clear HGATH
  all_goals
    obtain ⟨M, hM⟩ : ∃ M, M = n + nb := ⟨_, rfl⟩
    rw [← hM] at HG ⊢
    have hM2 : M ≤ 2558 := by omega
    obtain ⟨k, hk⟩ : ∃ k, k = M - 511 := ⟨_, rfl⟩
    have hkM : k ≤ M := by omega
    have hlen : (l ++ bs).length = M := HG.out.row.1
    have hkeep : keepL l bs = (l ++ bs).drop k := by unfold keepL; rw [hlen, hk]
    have HALLT : Aside0 (∀ ad, A1 = some ad → 0 < M → ad.block < w1.heap.size) := ⟨fun ad e hn => by
      obtain ⟨ad', e', hc'⟩ := (Kd.reads_of_C (d := (0 : Int)) HG.out.row).2.2 hn
      cases e.symm.trans e'
      have := hc' 0 hn
      simp only [Addr.add, if_true] at this
      exact World.block_lt_of_cell? w1 _ this⟩
    have HM := Aside0.mk hM
    have HK := Aside0.mk hk
    obtain ⟨A2, hA2⟩ : ∃ A2, A2 = (if c1 = k then A1 else A1.map (·.add k)) := ⟨_, rfl⟩
    obtain ⟨n2, hn2⟩ : ∃ n2, n2 = M - k := ⟨_, rfl⟩
    obtain ⟨c2, hc2⟩ : ∃ c2, c2 = c1 - k := ⟨_, rfl⟩
    have hrow2 := C_from HG.out.row hkM HG.out.cap
    have hsl := fun W => run_from A1 M c1 k hkM HG.out.cap W
    rw [← hA2, ← hn2, ← hkeep] at hrow2
    simp only [← hA2, ← hn2, ← hc2] at hsl
    have HR2 := Aside0.mk hrow2
    have hn25 : n2 ≤ 511 := by omega
    have hn2M : n2 ≤ M := by omega
    have hnc2 : n2 ≤ c2 := by have := HG.out.cap; omega
    have HA2 := Aside0.mk hA2
    clear hM hk hlen hkeep hrow2 hA2 hn2 hc2 hc hf
    by_cases hgt : 511 < M
    · have e1 : (M : Int) - 511 = (k : Int) := by have := HK.out; omega
      have hkk : (0 : Int) < (k : Int) := by omega
      go_upto_region 6 with (fail)
      obtain ⟨W4, hW4⟩ : ∃ W4, W4 = w1.setCell ⟨q, 0, none⟩ (.slice A2 n2 c2) := ⟨_, rfl⟩
      have hA2b : ∀ ad, A2 = some ad → 0 < n2 → w.heap.size ≤ ad.block ∧ ad.block ≠ q ∧ ad.block < w1.heap.size := fun ad e hn => by
        rw [HA2.out] at e
        obtain ⟨ad', ea, eb⟩ := blk_from e
        have h1 := HG.out.blk ad' ea (by omega)
        have h2 := HALLT.out ad' ea (by omega)
        rw [eb]
        omega
      have hPL : Pool W4 q A2 c2 (keepL l bs) := by
        rw [hW4]
        exact ⟨by rw [World.cell?_setCell_same _ _ _ hcq, HR2.out.1], by rw [World.frozen?_setCell]; exact hfq, by rw [HR2.out.1]; omega, by rw [HR2.out.1]; exact C_block HR2.out (fun ad e hn => Below.heap_setCell _ _ _ _ (hA2b ad e hn).2.1), by rw [HR2.out.1]; omega, fun ad e hn => (hA2b ad e (by rw [HR2.out.1] at hn; exact hn)).2.1⟩
      have hNEW : NewRow w.heap.size q A2 (keepL l bs).length := fun ad e hn => ⟨(hA2b ad e (by rw [HR2.out.1] at hn; exact hn)).1, (hA2b ad e (by rw [HR2.out.1] at hn; exact hn)).2.1⟩
      have hUPD : Upd q w W4 := by rw [hW4]; exact (Upd.of_below HG.out.bel).trans (Upd.set w1 0 q 0 _)
      have hsz4 : W4.heap.size = w1.heap.size := by rw [hW4]; simp [World.setCell]
      have hLT4 : ∀ ad, A2 = some ad → 0 < (keepL l bs).length → ad.block < W4.heap.size := fun ad e hn => by rw [hsz4]; exact (hA2b ad e (by rw [HR2.out.1] at hn; exact hn)).2.2
      have hall4 : Kd.C (Kd.int .u8) W4 A1 M (l ++ bs) := by
        rw [hW4]
        refine C_block HG.out.row (fun ad e hn => Below.heap_setCell _ _ _ _ ?_)
        have := HG.out.blk ad e hn
        show ad.block ≠ q
        omega
      rw [← hW4]
      have HPL := Aside0.mk hPL
      have HNEW := Aside0.mk hNEW
      have HUPD := Aside0.mk hUPD
      have HLT4 := Aside0.mk hLT4
      have HALL4 := Aside0.mk hall4
      have hM1 := HG.out.cap
      clear hPL hNEW hUPD hLT4 hall4 hsz4 hA2b hW4 hcq hfq hsl
      by_cases hbn : (n : Int) < back
      · go_wp2
        go_ret2
        exact ⟨A2, c2, ⟨HPL.out, HNEW.out, HUPD.out⟩, .inl ⟨by rw [← HN.out]; exact hbn, rfl⟩⟩
      · have hbn2 : back ≤ (n : Int) := by omega
        obtain ⟨j, hj⟩ : ∃ j, j = n - back.toNat := ⟨_, rfl⟩
        have hjM : j ≤ M := by have := HM.out; omega
        have ej : (n : Int) - back = (j : Int) := by omega
        have hsl5 := fun W => run_from A1 M c1 j hjM hM1 W
        rw [← ej] at hsl5
        have hrow5 := C_from HALL4.out hjM hM1
        obtain ⟨A5, hA5⟩ : ∃ X, X = (if c1 = j then A1 else A1.map (·.add j)) := ⟨_, rfl⟩
        obtain ⟨n5, hn5e⟩ : ∃ X, X = M - j := ⟨_, rfl⟩
        obtain ⟨c5, hc5⟩ : ∃ X, X = c1 - j := ⟨_, rfl⟩
        simp only [← hA5, ← hn5e, ← hc5] at hsl5 hrow5
        have HR5 := Aside0.mk hrow5
        have HJ := Aside0.mk hj
        have hn55 : n5 ≤ 2558 := by omega
        clear hrow5 hA5 hn5e hc5 ej hj hjM
        go_wp2_with (first
          | ((with_reducible refine gate_dst (N := 52) rfl ?_); refine append_full rfl (.tmp 46) (.tmp 51) rfl _ 0 [] rfl (C_empty _ _) A5 n5 c5 ((l ++ bs).drop j) rfl (Kd.C_alloc HR5.out _) (by omega) ?_; intro v5 w5 hA5; have HA5 := Aside0.mk hA5; clear hA5))
        go_ret2
        have hb5 : Below W4.heap.size W4 w5 := below_step (below_alloc (Below.refl _ _) _) HA5.out.below
        refine ⟨A2, c2, ⟨HPL.out.below hb5, HNEW.out, HUPD.out.trans (Upd.of_below hb5)⟩, .inr ⟨by rw [← HN.out]; exact hbn2, _, rfl, ?_⟩⟩
        rw [← HN.out, ← HJ.out]
        exact data_of HA5.out HR5.out.1 HUPD.out.size HLT4.out
    · have e1 : ¬ (0 : Int) < (M : Int) - 511 := by omega
      have ek : (k : Int) = 0 := by have := HK.out; omega
      rw [ek] at hsl
      have HE := Aside0.mk ek
      clear ek
      go_upto_region 6 with (fail)
      obtain ⟨W4, hW4⟩ : ∃ W4, W4 = w1.setCell ⟨q, 0, none⟩ (.slice A2 n2 c2) := ⟨_, rfl⟩
      have hA2b : ∀ ad, A2 = some ad → 0 < n2 → w.heap.size ≤ ad.block ∧ ad.block ≠ q ∧ ad.block < w1.heap.size := fun ad e hn => by
        rw [HA2.out] at e
        obtain ⟨ad', ea, eb⟩ := blk_from e
        have h1 := HG.out.blk ad' ea (by omega)
        have h2 := HALLT.out ad' ea (by omega)
        rw [eb]
        omega
      have hPL : Pool W4 q A2 c2 (keepL l bs) := by
        rw [hW4]
        exact ⟨by rw [World.cell?_setCell_same _ _ _ hcq, HR2.out.1], by rw [World.frozen?_setCell]; exact hfq, by rw [HR2.out.1]; omega, by rw [HR2.out.1]; exact C_block HR2.out (fun ad e hn => Below.heap_setCell _ _ _ _ (hA2b ad e hn).2.1), by rw [HR2.out.1]; omega, fun ad e hn => (hA2b ad e (by rw [HR2.out.1] at hn; exact hn)).2.1⟩
      have hNEW : NewRow w.heap.size q A2 (keepL l bs).length := fun ad e hn => ⟨(hA2b ad e (by rw [HR2.out.1] at hn; exact hn)).1, (hA2b ad e (by rw [HR2.out.1] at hn; exact hn)).2.1⟩
      have hUPD : Upd q w W4 := by rw [hW4]; exact (Upd.of_below HG.out.bel).trans (Upd.set w1 0 q 0 _)
      have hsz4 : W4.heap.size = w1.heap.size := by rw [hW4]; simp [World.setCell]
      have hLT4 : ∀ ad, A2 = some ad → 0 < (keepL l bs).length → ad.block < W4.heap.size := fun ad e hn => by rw [hsz4]; exact (hA2b ad e (by rw [HR2.out.1] at hn; exact hn)).2.2
      have hall4 : Kd.C (Kd.int .u8) W4 A1 M (l ++ bs) := by
        rw [hW4]
        refine C_block HG.out.row (fun ad e hn => Below.heap_setCell _ _ _ _ ?_)
        have := HG.out.blk ad e hn
        show ad.block ≠ q
        omega
      rw [← hW4]
      have HPL := Aside0.mk hPL
      have HNEW := Aside0.mk hNEW
      have HUPD := Aside0.mk hUPD
      have HLT4 := Aside0.mk hLT4
      have HALL4 := Aside0.mk hall4
      have hM1 := HG.out.cap
      clear hPL hNEW hUPD hLT4 hall4 hsz4 hA2b hW4 hcq hfq hsl
      by_cases hbn : (n : Int) < back
      · go_wp2
        go_ret2
        exact ⟨A2, c2, ⟨HPL.out, HNEW.out, HUPD.out⟩, .inl ⟨by rw [← HN.out]; exact hbn, rfl⟩⟩
      · have hbn2 : back ≤ (n : Int) := by omega
        obtain ⟨j, hj⟩ : ∃ j, j = n - back.toNat := ⟨_, rfl⟩
        have hjM : j ≤ M := by have := HM.out; omega
        have ej : (n : Int) - back = (j : Int) := by omega
        have hsl5 := fun W => run_from A1 M c1 j hjM hM1 W
        rw [← ej] at hsl5
        have hrow5 := C_from HALL4.out hjM hM1
        obtain ⟨A5, hA5⟩ : ∃ X, X = (if c1 = j then A1 else A1.map (·.add j)) := ⟨_, rfl⟩
        obtain ⟨n5, hn5e⟩ : ∃ X, X = M - j := ⟨_, rfl⟩
        obtain ⟨c5, hc5⟩ : ∃ X, X = c1 - j := ⟨_, rfl⟩
        simp only [← hA5, ← hn5e, ← hc5] at hsl5 hrow5
        have HR5 := Aside0.mk hrow5
        have HJ := Aside0.mk hj
        have hn55 : n5 ≤ 2558 := by omega
        clear hrow5 hA5 hn5e hc5 ej hj hjM
        go_wp2_with (first
          | ((with_reducible refine gate_dst (N := 52) rfl ?_); refine append_full rfl (.tmp 46) (.tmp 51) rfl _ 0 [] rfl (C_empty _ _) A5 n5 c5 ((l ++ bs).drop j) rfl (Kd.C_alloc HR5.out _) (by omega) ?_; intro v5 w5 hA5; have HA5 := Aside0.mk hA5; clear hA5))
        go_ret2
        have hb5 : Below W4.heap.size W4 w5 := below_step (below_alloc (Below.refl _ _) _) HA5.out.below
        refine ⟨A2, c2, ⟨HPL.out.below hb5, HNEW.out, HUPD.out.trans (Upd.of_below hb5)⟩, .inr ⟨by rw [← HN.out]; exact hbn2, _, rfl, ?_⟩⟩
        rw [← HN.out, ← HJ.out]
        exact data_of HA5.out HR5.out.1 HUPD.out.size HLT4.out
end Go.Proofs.YtacoekniljimoaaDoor.Res
