/- Chapter 23: the chapter's examples hold. Conditions: none but what the limits hold. -/
import Derived.Test.YtacoekniljimoaaDoorLE
import Derived.Test.YtacoekniljimoaaDoorAD
import Derived.Test.YtacoekniljimoaaDoorSA
namespace Go.Proofs.YtacoekniljimoaaDoor.Res
open Go.RowKit Go.Proofs.YtacoekniljimoaaDoorW.PrintWords Go.Proofs.YtacoekniljimoaaDoorW.PrintLast Go.Proofs.YtacoekniljimoaaDoorW.PrintMore
attribute [local go_sem] max2_int min2_int max_two min_two
set_option linter.unusedVariables false
set_option linter.unusedSimpArgs false
theorem least_at {b : Int} {A : Option Addr} {c : Nat} {xs : List Int} {n : Nat} {w : World} (y h : Int) (hL : Lim w) (hn : xs.length = n) (hr : Kd.C (Kd.int .i64) w A n xs) (hc : n ≤ c) (hl : n ≤ 200) (H : IsLeast b xs y h) :
    Calls Tryd.prog 13 #[.int .i64 b, .slice A n c] w fun e w' => e = .returned (.tuple #[.int .i64 y, .int .i64 h]) ∧ Below w.heap.size w w' := by
  refine (least_any b A c xs n w hL hn hr hc hl).mono ?_
  rintro e w' ⟨y', h', rfl, H', hb⟩
  obtain ⟨rfl, rfl⟩ := H.same H'.out
  exact ⟨rfl, hb⟩
theorem lit_row {k : IntKind} (W : World) (e : TypeId) (xs : List Int) (hm : xs.length ≤ 9223372036854775807) : Kd.C (Kd.int k) (W.alloc (.cells (xs.map (Value.int k)).toArray e)) (some ⟨W.heap.size, 0, none⟩) xs.length xs := by
  refine Kd.C_of_reads (enc := Value.int k) (h1 := fun _ => rfl) (d := (0 : Int)) ⟨rfl, hm, fun _ => ⟨_, rfl, fun j hj => ?_⟩⟩
  rw [Addr.add_lit, Nat.zero_add, World.cell?_alloc_at _ _ _ _ rfl]
  simp [hj]
theorem ex_least1 : IsLeast 0 [5, 7, 3] 7 0 := by
  refine .inr (.inl ⟨?_, by decide, by decide, rfl, by decide, fun j h1 h2 => ?_⟩)
  · rintro (h | ⟨i, hi, h⟩)
    · exact h (by decide)
    · rcases i with _ | _ | _ | i <;> first | (simp [rd] at h; done) | (simp at hi; omega)
  · have : j = 1 ∨ j = 2 ∨ j = 3 ∨ j = 4 ∨ j = 5 ∨ j = 6 := by omega
    rcases this with rfl | rfl | rfl | rfl | rfl | rfl <;> decide
theorem ex_least2 : IsLeast 10 [5, 7, 3] 6 0 := by
  refine .inr (.inl ⟨?_, by decide, by decide, rfl, by decide, fun j h1 h2 => ?_⟩)
  · rintro (h | ⟨i, hi, h⟩)
    · exact h (by decide)
    · rcases i with _ | _ | _ | i <;> first | (simp [rd] at h; done) | (simp at hi; omega)
  · have : j = 1 ∨ j = 2 ∨ j = 3 ∨ j = 4 ∨ j = 5 := by omega
    rcases this with rfl | rfl | rfl | rfl | rfl <;> decide
theorem add_at {back : Int} {A Ab : Option Addr} {nb cb q c : Nat} {l bs L D : List Int} {w : World} (hL : Lim w) (hP : Pool w q A c l) (hbk : 0 ≤ back ∧ back ≤ 511) (hbs : Kd.C (Kd.int .u8) w Ab nb bs) (hnb : nb ≤ 2047) (hb2 : back ≤ (l.length : Int)) (hK : keepL l bs = L) (hD : (l ++ bs).drop (l.length - back.toNat) = D) :
    Calls Tryd.prog 21 #[.pointer (some ⟨q, 0, none⟩), .int .i64 back, .slice Ab nb cb] w fun e w' => ∃ A' c' Av cv, e = .returned (.tuple #[.slice Av D.length cv, .int .i64 0]) ∧ D.length ≤ cv ∧ Kd.C (Kd.int .u8) w' Av D.length D ∧ Pool w' q A' c' L ∧ Upd q w w' := by
  subst hK hD
  refine (add_ok hL hP hbk hbs hnb).mono ?_
  rintro e w' ⟨A', c', ha, ⟨h, _⟩ | ⟨_, v, rfl, hd⟩⟩
  · omega
  · obtain ⟨Av, cv, rfl, h1, h2⟩ := hd.rd
    exact ⟨A', c', Av, cv, rfl, h1, h2, ha.pool, ha.upd⟩
set_option maxRecDepth 100000 in
set_option maxHeartbeats 8000000 in
theorem awake_any {w : World} (hL : Lim w) : Calls Tryd.prog 10 #[] w fun e w' => e = .returned (.bool true) ∧ Below w.heap.size w w' := by
  have HL0 := Aside0.mk hL
  clear hL
  go_enter Tryd.func10, Tryd.ntmps10
  go_wp2_with (first
    | (go_at_call 16; refine (new_yes 100 50 _ HL0.out ⟨by omega, by omega⟩ ⟨by omega, by omega⟩).mono ?_; rintro e w1 ⟨p, rfl, hp, ht, hb⟩; have HP := Aside0.mk hp; have HT1 := Aside0.mk ht; have HB1 := Aside0.mk hb; have HL1 := Aside0.mk (HL0.out.below' hb); have HPP := Aside0.mk (show 0 < p from Nat.lt_of_lt_of_le HL0.out.pos hp); clear hp ht hb)
    | (go_at_call 19; refine (take_at 80 0 0 20 HT1.out (by decide) (by decide) (by decide)).mono ?_; rintro e w2 ⟨rfl, ht, hu⟩; have HT2 := Aside0.mk ht; have HB2 := Aside0.mk (Upd.below HB1.out HP.out (Nat.le_refl _) hu); have HL2 := Aside0.mk (hu.lim HPP.out HL1.out); clear ht hu HT1)
    | (go_at_call 17; refine (level_any HT2.out).mono ?_; rintro e w' ⟨rfl, rfl⟩)
    | (go_at_call 19; refine (take_at 30 40 0 50 HT2.out (by decide) (by decide) (by decide)).mono ?_; rintro e w3 ⟨rfl, ht, hu⟩; have HT3 := Aside0.mk ht; have HB3 := Aside0.mk (Upd.below HB2.out HP.out (Nat.le_refl _) hu); have HL3 := Aside0.mk (hu.lim HPP.out HL2.out); clear ht hu HT2)
    | (go_at_call 19; refine (take_at 150 0 0 0 HT3.out (by decide) (by decide) (by decide)).mono ?_; rintro e w4 ⟨rfl, ht, hu⟩; have HT4 := Aside0.mk ht; have HB4 := Aside0.mk (Upd.below HB3.out HP.out (Nat.le_refl _) hu); have HL4 := Aside0.mk (hu.lim HPP.out HL3.out); clear ht hu HT3)
    | (go_at_call 13; refine (least_at 7 0 (HL4.out.below' (below_alloc (Below.refl _ _) _)) rfl (lit_row w4 3 [5, 7, 3] (by decide)) (Nat.le_refl _) (by decide) ex_least1).mono ?_; rintro e w5 ⟨rfl, hb⟩; have hb' := below_step (below_alloc (Below.refl w4.heap.size w4) _) hb; have HT5 := Aside0.mk (HT4.out.below hb'); have HB5 := Aside0.mk (below_step HB4.out hb'); have HL5 := Aside0.mk (HL4.out.below' hb'); clear hb hb' HL4)
    | (go_at_call 13; refine (least_at 6 0 (HL5.out.below' (below_alloc (Below.refl _ _) _)) rfl (lit_row w5 3 [5, 7, 3] (by decide)) (Nat.le_refl _) (by decide) ex_least2).mono ?_; rintro e w6 ⟨rfl, hb⟩; have hb' := below_step (below_alloc (Below.refl w5.heap.size w5) _) hb; have HT6 := Aside0.mk (HT5.out.below hb'); have HB6 := Aside0.mk (below_step HB5.out hb'); have HL6 := Aside0.mk (HL5.out.below' hb'); clear hb hb' HL5)
    | (go_at_call 20; refine (open_any _).mono ?_; rintro e w7 ⟨q, rfl, hq, hpl, hb⟩; have HQ := Aside0.mk hq; have HPL7 := Aside0.mk hpl; have HT7 := Aside0.mk (HT6.out.below hb); have HB7 := Aside0.mk (below_step HB6.out hb); have HL7 := Aside0.mk (HL6.out.below' hb); have HNE := Aside0.mk (show p ≠ q by have := HT6.out.lt; omega); have HWQ := Aside0.mk (show w.heap.size ≤ q by have := HB6.out.size; omega); have HQP := Aside0.mk (show 0 < q by have := HT6.out.lt; omega); clear hq hpl hb)
    | (go_at_call 21; refine (add_at (L := [1, 2, 3]) (D := [1, 2, 3]) (HL7.out.below' (below_alloc (Below.refl _ _) _)) (HPL7.out.below (below_alloc (Below.refl _ _) _)) ⟨by omega, by omega⟩ (lit_row w7 5 [1, 2, 3] (by decide)) (by decide) (by decide) (by decide) (by decide)).mono ?_; rintro e w8 ⟨A8, c8, Av8, cv8, rfl, h1, h2, hpl, hu⟩; have hu' := (Upd.of_below (p := q) (below_alloc (Below.refl w7.heap.size w7) _)).trans hu; have HPL8 := Aside0.mk hpl; have HT8 := Aside0.mk (HT7.out.other hu' HNE.out); have HB8 := Aside0.mk (Upd.below HB7.out HWQ.out (Nat.le_refl _) hu'); have HL8 := Aside0.mk (hu'.lim HQP.out HL7.out); clear h1 h2 hpl hu hu' HL7)
    | (go_at_call 21; refine (add_at (L := [1, 2, 3, 4]) (D := [2, 3, 4]) (HL8.out.below' (below_alloc (Below.refl _ _) _)) (HPL8.out.below (below_alloc (Below.refl _ _) _)) ⟨by omega, by omega⟩ (lit_row w8 5 [4] (by decide)) (by decide) (by decide) (by decide) (by decide)).mono ?_; rintro e w9 ⟨A9, c9, Av9, cv9, rfl, h1, h2, hpl, hu⟩; have hu' := (Upd.of_below (p := q) (below_alloc (Below.refl w8.heap.size w8) _)).trans hu; have HPL9 := Aside0.mk hpl; have HT9 := Aside0.mk (HT8.out.other hu' HNE.out); have HB9 := Aside0.mk (Upd.below HB8.out HWQ.out (Nat.le_refl _) hu'); have HR9 := Aside0.mk h2; clear h1 h2 hpl hu hu' HL8)
    | (go_at_call 17; refine (level_any HT9.out).mono ?_; rintro e w' ⟨rfl, rfl⟩)
    | (go_at_call 18; refine (most_any HT9.out).mono ?_; rintro e w' ⟨rfl, ⟨k, rfl⟩⟩)
    | (go_at_call 22; refine (same_true (n := 3) (xs := [2, 3, 4]) (Kd.C_alloc (Kd.C_drewN HR9.out k) _) (lit_row _ 5 [2, 3, 4] (by decide)) (by decide)).mono ?_; rintro e wA ⟨rfl, hb⟩; have hb' := below_step (pw_below_drewN (Below.refl w9.heap.size w9) k) (below_step (below_alloc (Below.refl _ _) _) hb); have HPLA := Aside0.mk (HPL9.out.below hb'); have HBA := Aside0.mk (below_step HB9.out hb'); clear hb hb')
    | (go_at_call 33; refine (kept_any HPLA.out).mono ?_; rintro e w' ⟨rfl, rfl⟩))
  go_ret
  exact ⟨rfl, HBA.out⟩
end Go.Proofs.YtacoekniljimoaaDoor.Res
