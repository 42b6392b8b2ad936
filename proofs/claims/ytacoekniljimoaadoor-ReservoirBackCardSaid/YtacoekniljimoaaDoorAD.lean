/- Chapter 23, the pools: Add of the program. Conditions: none beyond each theorem's own. -/
import Derived.Test.YtacoekniljimoaaDoorPA
namespace Go.Proofs.YtacoekniljimoaaDoor.Res
open Go.RowKit Go.Proofs.YtacoekniljimoaaDoorW.PrintWords Go.Proofs.YtacoekniljimoaaDoorW.PrintLast Go.Proofs.YtacoekniljimoaaDoorW.PrintMore
attribute [local go_sem] max2_int min2_int max_two min_two
set_option linter.unusedVariables false
set_option linter.unusedSimpArgs false
/-- The bytes that a pool keeps behind an Add. -/
def keepL (l bs : List Int) : List Int := (l ++ bs).drop ((l ++ bs).length - 511)
theorem keepL_le (l bs : List Int) : (keepL l bs).length ≤ 511 := by unfold keepL; rw [List.length_drop]; omega
theorem C_empty (w : World) (A : Option Addr) : Kd.C (Kd.int .u8) w A 0 [] := ⟨rfl, by omega, fun h => by omega⟩
theorem pool_stored {w1 w3 : World} {o : Obj} {A0 A3 : Option Addr} {q n2 c3 : Nat} {L : List Int} {vold : Value} (h : App (w1.alloc o) w3 A0 0 n2 [] L (.slice A3 n2 c3)) (hL : L.length = n2) (h5 : n2 ≤ 511) (hq : q < w1.heap.size) (hcq : w3.cell? ⟨q, 0, none⟩ = some vold) (hfq : w3.frozen? ⟨q, 0, none⟩ = false) :
    Pool (w3.setCell ⟨q, 0, none⟩ (.slice A3 n2 c3)) q A3 c3 L ∧ NewRow w1.heap.size q A3 L.length ∧ (∀ ad, A3 = some ad → 0 < L.length → ad.block < w3.heap.size) := by
  obtain ⟨A1, c1, e, hc, hr, _, hf⟩ := h.rd
  simp only [Value.slice.injEq, Nat.zero_add, List.nil_append] at e hc hr
  obtain ⟨rfl, _, rfl⟩ := e
  subst hL
  have hnew : NewRow w1.heap.size q A3 L.length := fun ad e hn => by
    obtain ⟨g, eg, hg⟩ := hf hn
    rw [e] at eg
    cases eg
    simp only [World.size_alloc] at hg
    exact ⟨by show w1.heap.size ≤ g; omega, by show g ≠ q; omega⟩
  refine ⟨⟨World.cell?_setCell_same _ _ _ hcq, by rw [World.frozen?_setCell]; exact hfq, hc, C_block hr (fun ad e hn => Below.heap_setCell _ _ _ _ (hnew ad e hn).2), h5, fun ad e hn => (hnew ad e hn).2⟩, hnew, fun ad e hn => ?_⟩
  obtain ⟨ad', e', hc'⟩ := (Kd.reads_of_C (d := (0 : Int)) hr).2.2 hn
  cases e.symm.trans e'
  have := hc' 0 hn
  simp only [Addr.add, if_true] at this
  exact World.block_lt_of_cell? w3 _ this
/-- What Add leaves of the pool. -/
structure Added (w w' : World) (q : Nat) (A' : Option Addr) (c' : Nat) (L : List Int) : Prop where
  pool : Pool w' q A' c' L
  new : NewRow w.heap.size q A' L.length
  upd : Upd q w w'
/-- The data that Add hands back. -/
structure Data (w w' : World) (A' : Option Addr) (L : List Int) (v : Value) (D : List Int) : Prop where
  rd : ∃ Av cv, v = .slice Av D.length cv ∧ D.length ≤ cv ∧ Kd.C (Kd.int .u8) w' Av D.length D
  own : 0 < D.length → ∃ B, w.heap.size ≤ B ∧ (∀ ad, A' = some ad → 0 < L.length → ad.block < B) ∧ Kd.R (Kd.int .u8) 5 w' B (fun _ => True) v D
theorem data_of {w W4 w5 : World} {o : Obj} {A0 A' : Option Addr} {n5 : Nat} {L D : List Int} {v : Value} (h : App (W4.alloc o) w5 A0 0 n5 [] D v) (hD : D.length = n5) (hw : w.heap.size ≤ W4.heap.size) (hA : ∀ ad, A' = some ad → 0 < L.length → ad.block < W4.heap.size) : Data w w5 A' L v D := by
  subst hD
  refine ⟨?_, fun hn => ⟨(W4.alloc o).heap.size, by simp; omega, fun ad e hl => by have := hA ad e hl; simp; omega, by simpa using h.own hn⟩⟩
  obtain ⟨A1, c1, e, hc, hr, _, _⟩ := h.rd
  simp only [Nat.zero_add, List.nil_append] at e hc hr
  exact ⟨A1, c1, e, hc, hr⟩
/-- What Add comes to. -/
def AddPost (w : World) (q : Nat) (l bs : List Int) (back : Int) (e : Ending) (w' : World) : Prop := ∃ A' c', Added w w' q A' c' (keepL l bs) ∧
      (((l.length : Int) < back ∧ e = .returned (.tuple #[.slice none 0 0, .int .i64 5])) ∨
       (back ≤ (l.length : Int) ∧ ∃ v, e = .returned (.tuple #[v, .int .i64 0]) ∧ Data w w' A' (keepL l bs) v ((l ++ bs).drop (l.length - back.toNat))))
set_option maxRecDepth 100000 in
set_option maxHeartbeats 8000000 in
theorem add_ok {back : Int} {A Ab : Option Addr} {nb cb q c : Nat} {l bs : List Int} {w : World} (hL : Lim w) (hP : Pool w q A c l) (hbk : 0 ≤ back ∧ back ≤ 511) (hbs : Kd.C (Kd.int .u8) w Ab nb bs) (hnb : nb ≤ 2047) :
    Calls Tryd.prog 21 #[.pointer (some ⟨q, 0, none⟩), .int .i64 back, .slice Ab nb cb] w (AddPost w q l bs back) := by
  obtain ⟨n, hn⟩ : ∃ n, n = l.length := ⟨_, rfl⟩
  have HL := Aside0.mk hL
  have HP := Aside0.mk hP
  have HBS := Aside0.mk hbs
  have g2 := hL.c2
  have g3 := hL.c3
  have hp := hL.pos
  have hc := hP.cell
  have hf := hP.fz
  have hql := hP.lt
  have hi : inB back 0 511 = true := inB_true hbk.1 hbk.2
  have hd : decide ((nb : Int) > 2047) = false := decide_eq_false (by omega)
  have hd2 : decide ((2047 : Int) < (nb : Int)) = false := decide_eq_false (by omega)
  have hn5 : n ≤ 511 := by rw [hn]; exact hP.le
  have hnc : n ≤ c := by rw [hn]; exact hP.cap
  have HRW := Aside0.mk (show Kd.C (Kd.int .u8) w A n l by rw [hn]; exact hP.row)
  rw [← hn] at hc
  have HN := Aside0.mk hn
  obtain ⟨hb0, hb1⟩ := hbk
  clear hL hP hbs hn
  go_enter Tryd.func21, Tryd.ntmps21
  go_upto_region 7 with (first
    | (go_at_call 37; refine (in_any _ _ _ _).mono ?_; rintro e w' ⟨rfl, rfl⟩)
    | ((with_reducible refine gate_dst (N := 37) rfl ?_); refine append_full rfl (.tmp 35) (.tmp 36) rfl A n l rfl (Kd.C_alloc HRW.out _) Ab nb cb bs rfl (Kd.C_alloc HBS.out _) (by omega) ?_; intro v1 w1 hA; have HA := Aside0.mk hA; clear hA))
  obtain ⟨A1, c1, rfl, hc1, hall, hz1, hg1⟩ := HA.out.rd
  have hb1' : Below w.heap.size w w1 := below_step (below_alloc (Below.refl _ _) _) HA.out.below
  have hP1 := HP.out.below hb1'
  have hql1 := hP1.lt
  have hcq := hP1.cell
  have hfq := hP1.fz
  rw [← HN.out] at hcq
  obtain ⟨M, hM⟩ : ∃ M, M = n + nb := ⟨_, rfl⟩
  rw [← hM] at hc1 hall ⊢
  have hM2 : M ≤ 2558 := by omega
  obtain ⟨k, hk⟩ : ∃ k, k = M - 511 := ⟨_, rfl⟩
  have hkM : k ≤ M := by omega
  have hlen : (l ++ bs).length = M := hall.1
  have hkeep : keepL l bs = (l ++ bs).drop k := by unfold keepL; rw [hlen, hk]
  have hallq : ∀ ad, A1 = some ad → 0 < M → ad.block ≠ q := fun ad e hn => by
    rcases Nat.eq_zero_or_pos nb with h0 | h0
    · rw [(hz1 h0).1] at e
      exact HP.out.ne ad e (by rw [← HN.out]; omega)
    · obtain ⟨g, eg, hg⟩ := hg1 h0
      rw [eg] at e
      cases e
      simp only [World.size_alloc] at hg
      show g ≠ q
      omega
  clear hz1 hg1
  have HALL := Aside0.mk hall
  have HKP := Aside0.mk hkeep
  have HM := Aside0.mk hM
  have HK := Aside0.mk hk
  have HLEN := Aside0.mk hlen
  have HB1 := Aside0.mk hb1'
  have HP1 := Aside0.mk hP1
  obtain ⟨A2, hA2⟩ : ∃ A2, A2 = (if c1 = k then A1 else A1.map (·.add k)) := ⟨_, rfl⟩
  obtain ⟨n2, hn2⟩ : ∃ n2, n2 = M - k := ⟨_, rfl⟩
  obtain ⟨c2, hc2⟩ : ∃ c2, c2 = c1 - k := ⟨_, rfl⟩
  have hrow2 := C_from hall hkM hc1
  have hsl := fun W => run_from A1 M c1 k hkM hc1 W
  rw [← hA2, ← hn2] at hrow2
  rw [← hkeep] at hrow2
  simp only [← hA2, ← hn2, ← hc2] at hsl
  have HR2 := Aside0.mk hrow2
  have hn25 : n2 ≤ 511 := by omega
  have HN2 := Aside0.mk hn2
  clear hall hb1' hP1 hM hk hlen hkeep hrow2 hA2 hn2 hc2 hc hf hi hd hd2 g2 g3 hp
  by_cases hgt : 511 < M
  · have e1 : (M : Int) - 511 = (k : Int) := by have := HK.out; omega
    have hkk : (0 : Int) < (k : Int) := by omega
    go_upto_region 8 with (first
      | ((with_reducible refine gate_dst (N := 46) rfl ?_); refine append_full rfl (.tmp 39) (.tmp 45) rfl _ 0 [] rfl (C_empty _ _) A2 n2 c2 (keepL l bs) rfl (Kd.C_alloc HR2.out _) (by omega) ?_; intro v3 w3 hA3; obtain ⟨A3, c3, rfl, hc3, hall3, _, hfr3⟩ := hA3.rd; rw [Nat.zero_add] at hc3 hall3 hA3 ⊢; have hb3 := below_step (below_alloc (Below.refl _ _) _) hA3.below; have hcq3 := (hb3.cell (p := ⟨q, 0, none⟩) hql1).trans hcq; have hfq3 := (hb3.frozen (p := ⟨q, 0, none⟩) hql1).trans hfq; have HA3 := Aside0.mk hA3; have HB3 := Aside0.mk hb3; clear hA3 hall3 hfr3 hb3))
    obtain ⟨hpl, hnew, hlt4⟩ := pool_stored HA3.out HR2.out.1 hn25 hql1 hcq3 hfq3
    have HNEW := Aside0.mk (show NewRow w.heap.size q A3 (keepL l bs).length from fun ad e hn => ⟨Nat.le_trans HB1.out.size (hnew ad e hn).1, (hnew ad e hn).2⟩)
    have HUPD := Aside0.mk (show Upd q w (w3.setCell ⟨q, 0, none⟩ (.slice A3 n2 c3)) from (Upd.of_below (below_step HB1.out HB3.out)).trans (Upd.set w3 0 q 0 _))
    have hsz4 : (w3.setCell ⟨q, 0, none⟩ (.slice A3 n2 c3)).heap.size = w3.heap.size := by simp [World.setCell]
    rw [← hsz4] at hlt4
    obtain ⟨W4, hW4⟩ : ∃ W4, W4 = w3.setCell ⟨q, 0, none⟩ (.slice A3 n2 c3) := ⟨_, rfl⟩
    have hall4 : Kd.C (Kd.int .u8) W4 A1 M (l ++ bs) := by
      rw [hW4]
      refine C_block (Kd.C_below HALL.out HB3.out) (fun ad e hn => Below.heap_setCell _ _ _ _ ?_)
      exact hallq ad e hn
    rw [← hW4] at hpl HUPD hlt4 ⊢
    have HPL := Aside0.mk hpl
    have HLT4 := Aside0.mk hlt4
    have HALL4 := Aside0.mk hall4
    clear hpl hnew hlt4 hsz4 hW4 hcq3 hfq3 hcq hfq hsl hc3 hall4
    by_cases hbn : (n : Int) < back
    · go_wp2
      go_ret2
      exact ⟨A3, c3, ⟨HPL.out, HNEW.out, HUPD.out⟩, .inl ⟨by rw [← HN.out]; exact hbn, rfl⟩⟩
    · have hbn2 : back ≤ (n : Int) := by omega
      obtain ⟨j, hj⟩ : ∃ j, j = n - back.toNat := ⟨_, rfl⟩
      have hjM : j ≤ M := by have := HM.out; omega
      have ej : (n : Int) - back = (j : Int) := by omega
      have hsl5 := fun W => run_from A1 M c1 j hjM hc1 W
      rw [← ej] at hsl5
      have hrow5 := C_from HALL4.out hjM hc1
      obtain ⟨A5, hA5⟩ : ∃ X, X = (if c1 = j then A1 else A1.map (·.add j)) := ⟨_, rfl⟩
      obtain ⟨n5, hn5e⟩ : ∃ X, X = M - j := ⟨_, rfl⟩
      obtain ⟨c5, hc5⟩ : ∃ X, X = c1 - j := ⟨_, rfl⟩
      simp only [← hA5, ← hn5e, ← hc5] at hsl5 hrow5
      have HR5 := Aside0.mk hrow5
      have HJ := Aside0.mk hj
      have hn55 : n5 ≤ 2558 := by omega
      clear hrow5 hA5 hn5e hc5 ej hj hjM
      go_wp2_with (first
        | ((with_reducible refine gate_dst (N := 58) rfl ?_); refine append_full rfl (.tmp 52) (.tmp 57) rfl _ 0 [] rfl (C_empty _ _) A5 n5 c5 ((l ++ bs).drop j) rfl (Kd.C_alloc HR5.out _) (by omega) ?_; intro v5 w5 hA5; have HA5 := Aside0.mk hA5; clear hA5))
      go_ret2
      have hb5 : Below W4.heap.size W4 w5 := below_step (below_alloc (Below.refl _ _) _) HA5.out.below
      refine ⟨A3, c3, ⟨HPL.out.below hb5, HNEW.out, HUPD.out.trans (Upd.of_below hb5)⟩, .inr ⟨by rw [← HN.out]; exact hbn2, _, rfl, ?_⟩⟩
      rw [← HN.out, ← HJ.out]
      exact data_of HA5.out HR5.out.1 HUPD.out.size HLT4.out
  · have e1 : ¬ (0 : Int) < (M : Int) - 511 := by omega
    have ek : (k : Int) = 0 := by have := HK.out; omega
    rw [ek] at hsl
    have HE := Aside0.mk ek
    clear ek
    go_upto_region 8 with (first
      | ((with_reducible refine gate_dst (N := 46) rfl ?_); refine append_full rfl (.tmp 39) (.tmp 45) rfl _ 0 [] rfl (C_empty _ _) A2 n2 c2 (keepL l bs) rfl (Kd.C_alloc HR2.out _) (by omega) ?_; intro v3 w3 hA3; obtain ⟨A3, c3, rfl, hc3, hall3, _, hfr3⟩ := hA3.rd; rw [Nat.zero_add] at hc3 hall3 hA3 ⊢; have hb3 := below_step (below_alloc (Below.refl _ _) _) hA3.below; have hcq3 := (hb3.cell (p := ⟨q, 0, none⟩) hql1).trans hcq; have hfq3 := (hb3.frozen (p := ⟨q, 0, none⟩) hql1).trans hfq; have HA3 := Aside0.mk hA3; have HB3 := Aside0.mk hb3; clear hA3 hall3 hfr3 hb3))
    obtain ⟨hpl, hnew, hlt4⟩ := pool_stored HA3.out HR2.out.1 hn25 hql1 hcq3 hfq3
    have HNEW := Aside0.mk (show NewRow w.heap.size q A3 (keepL l bs).length from fun ad e hn => ⟨Nat.le_trans HB1.out.size (hnew ad e hn).1, (hnew ad e hn).2⟩)
    have HUPD := Aside0.mk (show Upd q w (w3.setCell ⟨q, 0, none⟩ (.slice A3 n2 c3)) from (Upd.of_below (below_step HB1.out HB3.out)).trans (Upd.set w3 0 q 0 _))
    have hsz4 : (w3.setCell ⟨q, 0, none⟩ (.slice A3 n2 c3)).heap.size = w3.heap.size := by simp [World.setCell]
    rw [← hsz4] at hlt4
    obtain ⟨W4, hW4⟩ : ∃ W4, W4 = w3.setCell ⟨q, 0, none⟩ (.slice A3 n2 c3) := ⟨_, rfl⟩
    have hall4 : Kd.C (Kd.int .u8) W4 A1 M (l ++ bs) := by
      rw [hW4]
      refine C_block (Kd.C_below HALL.out HB3.out) (fun ad e hn => Below.heap_setCell _ _ _ _ ?_)
      exact hallq ad e hn
    rw [← hW4] at hpl HUPD hlt4 ⊢
    have HPL := Aside0.mk hpl
    have HLT4 := Aside0.mk hlt4
    have HALL4 := Aside0.mk hall4
    clear hpl hnew hlt4 hsz4 hW4 hcq3 hfq3 hcq hfq hsl hc3 hall4
    by_cases hbn : (n : Int) < back
    · go_wp2
      go_ret2
      exact ⟨A3, c3, ⟨HPL.out, HNEW.out, HUPD.out⟩, .inl ⟨by rw [← HN.out]; exact hbn, rfl⟩⟩
    · have hbn2 : back ≤ (n : Int) := by omega
      obtain ⟨j, hj⟩ : ∃ j, j = n - back.toNat := ⟨_, rfl⟩
      have hjM : j ≤ M := by have := HM.out; omega
      have ej : (n : Int) - back = (j : Int) := by omega
      have hsl5 := fun W => run_from A1 M c1 j hjM hc1 W
      rw [← ej] at hsl5
      have hrow5 := C_from HALL4.out hjM hc1
      obtain ⟨A5, hA5⟩ : ∃ X, X = (if c1 = j then A1 else A1.map (·.add j)) := ⟨_, rfl⟩
      obtain ⟨n5, hn5e⟩ : ∃ X, X = M - j := ⟨_, rfl⟩
      obtain ⟨c5, hc5⟩ : ∃ X, X = c1 - j := ⟨_, rfl⟩
      simp only [← hA5, ← hn5e, ← hc5] at hsl5 hrow5
      have HR5 := Aside0.mk hrow5
      have HJ := Aside0.mk hj
      have hn55 : n5 ≤ 2558 := by omega
      clear hrow5 hA5 hn5e hc5 ej hj hjM
      go_wp2_with (first
        | ((with_reducible refine gate_dst (N := 58) rfl ?_); refine append_full rfl (.tmp 52) (.tmp 57) rfl _ 0 [] rfl (C_empty _ _) A5 n5 c5 ((l ++ bs).drop j) rfl (Kd.C_alloc HR5.out _) (by omega) ?_; intro v5 w5 hA5; have HA5 := Aside0.mk hA5; clear hA5))
      go_ret2
      have hb5 : Below W4.heap.size W4 w5 := below_step (below_alloc (Below.refl _ _) _) HA5.out.below
      refine ⟨A3, c3, ⟨HPL.out.below hb5, HNEW.out, HUPD.out.trans (Upd.of_below hb5)⟩, .inr ⟨by rw [← HN.out]; exact hbn2, _, rfl, ?_⟩⟩
      rw [← HN.out, ← HJ.out]
      exact data_of HA5.out HR5.out.1 HUPD.out.size HLT4.out
end Go.Proofs.YtacoekniljimoaaDoor.Res
