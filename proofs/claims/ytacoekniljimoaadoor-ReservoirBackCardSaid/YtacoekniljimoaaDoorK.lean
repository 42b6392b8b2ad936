/- Chapter 23, the tanks: Take and Copy. Conditions: none beyond each theorem's own. -/
import Derived.Test.YtacoekniljimoaaDoorT
namespace Go.Proofs.YtacoekniljimoaaDoor.Res
open Go.RowKit Go.Proofs.YtacoekniljimoaaDoorW.PrintWords Go.Proofs.YtacoekniljimoaaDoorW.PrintLast Go.Proofs.YtacoekniljimoaaDoorW.PrintMore
attribute [local go_sem] max2_int min2_int max_two min_two
set_option linter.unusedVariables false
set_option linter.unusedSimpArgs false
/-- What Take gives: padding, error, level. -/
def tkPad (m b l n : Int) : Int := if n < 0 then 0 else if l + m < n then 0 else if 0 < l + m - n - b then l + m - n - b else 0
def tkErr (m b l n : Int) : Int := if n < 0 then 6 else if l + m < n then 2 else 0
def tkLvl (m b l n : Int) : Int := if n < 0 then l else if l + m < n then l else if 0 < l + m - n - b then b else l + m - n
theorem tkLvl_range {m b l : Int} (n : Int) (hb : 0 ≤ b ∧ b ≤ 511) (hl : 0 ≤ l ∧ l ≤ b) : 0 ≤ tkLvl m b l n ∧ tkLvl m b l n ≤ b := by
  unfold tkLvl
  split
  · omega
  · split
    · omega
    · split <;> omega
theorem tk_neg {m b l n : Int} (h : n < 0) : tkPad m b l n = 0 ∧ tkErr m b l n = 6 ∧ tkLvl m b l n = l := by
  unfold tkPad tkErr tkLvl; rw [if_pos h, if_pos h, if_pos h]; exact ⟨rfl, rfl, rfl⟩
theorem tk_full {m b l n : Int} (h0 : ¬ n < 0) (h : l + m < n) : tkPad m b l n = 0 ∧ tkErr m b l n = 2 ∧ tkLvl m b l n = l := by
  unfold tkPad tkErr tkLvl; rw [if_neg h0, if_neg h0, if_neg h0, if_pos h, if_pos h, if_pos h]; exact ⟨rfl, rfl, rfl⟩
theorem tk_over {m b l n : Int} (h0 : ¬ n < 0) (h : ¬ l + m < n) (hp : 0 < l + m - n - b) : tkPad m b l n = l + m - n - b ∧ tkErr m b l n = 0 ∧ tkLvl m b l n = b := by
  unfold tkPad tkErr tkLvl; rw [if_neg h0, if_neg h0, if_neg h0, if_neg h, if_neg h, if_neg h, if_pos hp, if_pos hp]; exact ⟨rfl, rfl, rfl⟩
theorem tk_in {m b l n : Int} (h0 : ¬ n < 0) (h : ¬ l + m < n) (hp : ¬ 0 < l + m - n - b) : tkPad m b l n = 0 ∧ tkErr m b l n = 0 ∧ tkLvl m b l n = l + m - n := by
  unfold tkPad tkErr tkLvl; rw [if_neg h0, if_neg h0, if_neg h0, if_neg h, if_neg h, if_neg h, if_neg hp, if_neg hp]; exact ⟨rfl, rfl, rfl⟩
theorem Tank.set {w : World} {p : Nat} {m b l l' : Int} (h : Tank w p m b l) (n : Nat) (hl' : 0 ≤ l' ∧ l' ≤ b) : Tank ((w.drewN n).setCell ⟨p, 2, none⟩ (.int .i64 l')) p m b l' := by
  have hc : (w.drewN n).cell? ⟨p, 2, none⟩ = some (.int .i64 l) := h.c2
  refine ⟨?_, ?_, ?_, ?_, h.hm, h.hb, hl'⟩
  · exact (World.cell?_setCell_other (w.drewN n) ⟨p, 2, none⟩ ⟨p, 0, none⟩ (.int .i64 l') (by simp)).trans h.c0
  · exact (World.cell?_setCell_other (w.drewN n) ⟨p, 2, none⟩ ⟨p, 1, none⟩ (.int .i64 l') (by simp)).trans h.c1
  · rw [World.cell?_setCell_same _ _ _ hc]
  · rw [World.frozen?_setCell]; exact h.fz
theorem Tank.mk' {w : World} {m b l : Int} {q p : Nat} {t : TypeId} (h : Tank w q m b l) (hp : p = w.heap.size) : Tank (w.alloc (.cells #[.int .i64 m, .int .i64 b, .int .i64 l] t)) p m b l :=
  ⟨by rw [World.cell?_alloc_at _ _ _ _ hp]; rfl, by rw [World.cell?_alloc_at _ _ _ _ hp]; rfl, by rw [World.cell?_alloc_at _ _ _ _ hp]; rfl, World.frozen?_alloc_at _ _ _ _ hp, h.hm, h.hb, h.hl⟩
theorem ret2i {a a' c c' : Int} (h : a = a') (h' : c = c') : Ending.returned (.tuple #[.int .i64 a, .int .i64 c]) = .returned (.tuple #[.int .i64 a', .int .i64 c']) := by rw [h, h']
section
variable {w : World} {p : Nat} {m b l : Int}
set_option maxHeartbeats 2000000 in
theorem take_any (n : Int) (h : Tank w p m b l) : Calls Tryd.prog 19 #[.pointer (some ⟨p, 0, none⟩), .int .i64 n] w fun e w' => e = .returned (.tuple #[.int .i64 (tkPad m b l n), .int .i64 (tkErr m b l n)]) ∧ Tank w' p m b (tkLvl m b l n) ∧ Upd p w w' := by
  have H := Lib.hid h
  have hc := h.c2
  have hc0 := h.c0
  have hc1 := h.c1
  have hfz := h.fz
  obtain ⟨h1, h2⟩ := h.hm
  obtain ⟨h3, h4⟩ := h.hl
  obtain ⟨h5, h6⟩ := h.hb
  clear h
  by_cases hn : n < 0
  · have E := Lib.hid (tk_neg (m := m) (b := b) (l := l) hn)
    go_enter Tryd.func19, Tryd.ntmps19
    go_wp2
    go_ret2
    exact ⟨ret2i E.out.1.symm E.out.2.1.symm, by rw [E.out.2.2]; exact H.out, Upd.of_below (Below.refl _ _)⟩
  · by_cases hf : l + m < n
    · have E := Lib.hid (tk_full (b := b) hn hf)
      go_enter Tryd.func19, Tryd.ntmps19
      go_wp2_with (go_at_call 18; refine (most_any H.out).mono ?_; rintro e w' ⟨rfl, ⟨k, rfl⟩⟩)
      go_ret2
      exact ⟨ret2i E.out.1.symm E.out.2.1.symm, by rw [E.out.2.2]; exact H.out.drewN _, Upd.of_below (pw_below_drewN (Below.refl _ _) _)⟩
    · by_cases hp : 0 < l + m - n - b
      · have E := Lib.hid (tk_over hn hf hp)
        go_enter Tryd.func19, Tryd.ntmps19
        go_wp2_with (first | (go_at_call 18; refine (most_any H.out).mono ?_; rintro e w' ⟨rfl, ⟨k, rfl⟩⟩) | (go_at_call 18; refine (most_any (H.out.drewN _)).mono ?_; rintro e w' ⟨rfl, ⟨k2, rfl⟩⟩))
        go_ret2
        refine ⟨ret2i E.out.1.symm E.out.2.1.symm, ?_, Upd.set _ _ _ _ _⟩
        rw [E.out.2.2, show l + m - n - (l + m - n - b) = b by omega]
        exact H.out.set _ (by omega)
      · have E := Lib.hid (tk_in hn hf hp)
        go_enter Tryd.func19, Tryd.ntmps19
        go_wp2_with (first | (go_at_call 18; refine (most_any H.out).mono ?_; rintro e w' ⟨rfl, ⟨k, rfl⟩⟩) | (go_at_call 18; refine (most_any (H.out.drewN _)).mono ?_; rintro e w' ⟨rfl, ⟨k2, rfl⟩⟩))
        go_ret2
        refine ⟨ret2i E.out.1.symm E.out.2.1.symm, ?_, Upd.set _ _ _ _ _⟩
        rw [E.out.2.2]
        exact H.out.set _ (by omega)
set_option maxHeartbeats 2000000 in
theorem rtake_any (n : Int) (h : Tank w p m b l) : Calls Tryd.prog 25 #[.pointer (some ⟨p, 0, none⟩), .int .i64 n] w fun e w' => e = .returned (.tuple #[.int .i64 (tkPad m b l n), .int .i64 (tkErr m b l n)]) ∧ Tank w' p m b (tkLvl m b l n) ∧ Upd p w w' := by
  have H := Lib.hid h
  have hc := h.c2
  have hc0 := h.c0
  have hc1 := h.c1
  have hfz := h.fz
  obtain ⟨h1, h2⟩ := h.hm
  obtain ⟨h3, h4⟩ := h.hl
  obtain ⟨h5, h6⟩ := h.hb
  clear h
  by_cases hn : n < 0
  · have E := Lib.hid (tk_neg (m := m) (b := b) (l := l) hn)
    go_enter Tryd.func25, Tryd.ntmps25
    go_wp2
    go_ret2
    exact ⟨ret2i E.out.1.symm E.out.2.1.symm, by rw [E.out.2.2]; exact H.out, Upd.of_below (Below.refl _ _)⟩
  · by_cases hf : l + m < n
    · have E := Lib.hid (tk_full (b := b) hn hf)
      go_enter Tryd.func25, Tryd.ntmps25
      go_wp2_with (go_at_call 27; refine (rmost_any H.out).mono ?_; rintro e w' ⟨rfl, ⟨k, rfl⟩⟩)
      go_ret2
      exact ⟨ret2i E.out.1.symm E.out.2.1.symm, by rw [E.out.2.2]; exact H.out.drewN _, Upd.of_below (pw_below_drewN (Below.refl _ _) _)⟩
    · by_cases hp : 0 < l + m - n - b
      · have E := Lib.hid (tk_over hn hf hp)
        go_enter Tryd.func25, Tryd.ntmps25
        go_wp2_with (first | (go_at_call 27; refine (rmost_any H.out).mono ?_; rintro e w' ⟨rfl, ⟨k, rfl⟩⟩) | (go_at_call 27; refine (rmost_any (H.out.drewN _)).mono ?_; rintro e w' ⟨rfl, ⟨k2, rfl⟩⟩))
        go_ret2
        refine ⟨ret2i E.out.1.symm E.out.2.1.symm, ?_, Upd.set _ _ _ _ _⟩
        rw [E.out.2.2, show l + m - n - (l + m - n - b) = b by omega]
        exact H.out.set _ (by omega)
      · have E := Lib.hid (tk_in hn hf hp)
        go_enter Tryd.func25, Tryd.ntmps25
        go_wp2_with (first | (go_at_call 27; refine (rmost_any H.out).mono ?_; rintro e w' ⟨rfl, ⟨k, rfl⟩⟩) | (go_at_call 27; refine (rmost_any (H.out.drewN _)).mono ?_; rintro e w' ⟨rfl, ⟨k2, rfl⟩⟩))
        go_ret2
        refine ⟨ret2i E.out.1.symm E.out.2.1.symm, ?_, Upd.set _ _ _ _ _⟩
        rw [E.out.2.2]
        exact H.out.set _ (by omega)
theorem copy_any (h : Tank w p m b l) : Calls Tryd.prog 24 #[.pointer (some ⟨p, 0, none⟩)] w fun e w' => ∃ q, e = .returned (.pointer (some ⟨q, 0, none⟩)) ∧ w.heap.size ≤ q ∧ Tank w' q m b l ∧ Below w.heap.size w w' := by
  have H := Lib.hid h
  have hc := h.c2
  have hc0 := h.c0
  have hc1 := h.c1
  have hlt := h.lt
  clear h
  go_enter Tryd.func24, Tryd.ntmps24
  go_wp2
  go_ret
  exact ⟨_, rfl, Nat.le_refl _, Tank.mk' H.out (by simp), (Below.refl _ _).alloc (Nat.le_refl _) _⟩
end
end Go.Proofs.YtacoekniljimoaaDoor.Res
