/- The machine's side of laws of the seat Ytjplalkgabpinaa, printed by a program of this session over the kit's printer: functions of the Go program as Lean functions, each with a proof that the call computes it. Conditions: none beyond each theorem's own. -/
import Derived.Test.YtjplalkgabpinaaHnx0
import Derived.Test.YtjplalkgabpinaaHnx5
import Derived.Test.YtjplalkgabpinaaHnx6
import Derived.Test.YtjplalkgabpinaaHnx8
import Derived.Test.YtjplalkgabpinaaHnx9
import Derived.Test.YtjplalkgabpinaaHnx10
namespace Go.Proofs.Ytjplalkgabpinaa.Hn
open Go.RowKit Go.Proofs.YtjplalkgabpinaaW.PrintWords Go.Proofs.YtjplalkgabpinaaW.PrintLast Go.Proofs.YtjplalkgabpinaaW.PrintMore
attribute [local go_sem] max2_int min2_int max_two min_two max_three min_three max_four min_four   -- for this text's walks alone
set_option linter.unusedVariables false
set_option linter.unusedSimpArgs false

/-! ### shawmlaw13_flat: function 26 (by hand) -/
section
/-- 128 numbers, the first n of which are a. -/
def flN (a : Int) (n : Nat) : List Int := List.replicate n a ++ List.replicate (128 - n) 0
theorem flN_length (a : Int) (n : Nat) (h : n ≤ 128) : (flN a n).length = 128 := by unfold flN; simp; omega
theorem flN_set (a : Int) (n : Nat) (h : n < 128) : (flN a n).set n a = flN a (n + 1) := by
  unfold flN
  rw [List.set_append_right _ _ (by simp), List.length_replicate, Nat.sub_self]
  obtain ⟨m, hm⟩ : ∃ m, 128 - n = m + 1 := ⟨127 - n, by omega⟩
  have hm' : 128 - (n + 1) = m := by omega
  rw [hm, hm', List.replicate_succ, List.set_cons_zero, List.replicate_succ', List.append_assoc]
  rfl
def shawmlaw13_flat.f (a0 : Int) : Option (List Int) := some (List.replicate 128 a0)
set_option maxHeartbeats 4000000 in
theorem shawmlaw13_flat.calls (a0 : Int) (r : List Int) (w : World) (h : shawmlaw13_flat.f a0 = some r) :
    Calls Try.prog 26 #[.int .i64 a0] w fun e w' => ∃ v0_ : Value, e = .returned v0_ ∧ Kd.R (Kd.int .i64) 3 w' w.heap.size (fun _ => True) v0_ r ∧ Below w.heap.size w w' := by
  obtain rfl := Option.some.inj h
  clear h
  go_enter Try.func26, Try.ntmps26
  go_wp2_with ((with_reducible refine gate_dst (N := 5) rfl ?_); refine Kd.R_make (Kd.int .i64) (w0 := w) w.heap.size 3 rfl (N := 5) rfl 22 _ _ rfl 128 rfl rfl Try.underlying22 (.int .i64 0) 8 info3 rfl (by decide) (by omega) 0 (ok := fun _ => True) (okp := fun _ => True) rfl (fun _ hk => hk) trivial (by omega) (by omega) (Below.refl _ _) (Nat.le_refl _) ?_; intro v1 w1 ho hb _ _; simp only [Int.reduceToNat] at ho; have HB1 := Aside0.mk hb; clear hb; obtain ⟨g, cap, ev, hg1, hg2, _⟩ := Kd.R_form ho (by simp); rw [List.length_replicate] at ev; subst ev; have HO1 := Aside0.mk ho; clear ho hg1 hg2)
  go_loopw [8] (fun i wr => ∃ n : Nat, i = .int .i64 n ∧ Aside0 (n ≤ 128) ∧ Aside0 (Kd.R (Kd.int .i64) 3 wr w.heap.size (fun _ => True) (.slice (some ⟨g, 0, none⟩) 128 cap) (flN a0 n)) ∧ Aside0 (Below w.heap.size w wr)) (fun i _ => 128 - (intOf i).toNat)
  case atStart => exact ⟨0, rfl, ⟨by omega⟩, ⟨HO1.out⟩, HB1⟩
  case round =>
    obtain ⟨n, rfl, HN, HO, HB⟩ := hrel
    by_cases hn : n < 128
    · have ho := HO.out
      have hlen := flN_length a0 n HN.out
      obtain ⟨go, co, eo, hg1, hg2, _⟩ := Kd.R_form ho (by rw [hlen]; omega)
      rw [hlen] at eo
      injection eo with e1 e2 e3
      injection e1 with e1
      injection e1 with e1
      subst e1
      subst e3
      obtain ⟨hx, hf⟩ := Kd.R_celln (0 : Int) ho (n : Int) (by omega) (by omega)
      have hput := (Kd.R_putg ho (n : Int) a0).1
      simp only [Int.toNat_natCast] at hx hf hput
      have hn' : (n : Int) < 128 := by omega
      have HPUT := Aside0.mk hput
      have HB2 := Aside0.mk (below_set (j := n) (v := .int .i64 a0) HB.out hg1)
      have HNT := Aside0.mk hn
      clear hput hg1 hg2 hlen e2 ho
      go_wp2
      go_roundw
      case rel => exact ⟨n + 1, by go_num, ⟨HNT.out⟩, ⟨by rw [← flN_set a0 n HNT.out]; exact HPUT.out⟩, HB2⟩
      case measure => simp [intOf]; omega
    · obtain rfl : n = 128 := by have := HN.out; omega
      go_wp2
      go_ret
      exact ⟨_, rfl, by have := HO.out; unfold flN at this; simpa using this, HB.out⟩
end

/-! ### shawmlaw13_awake: function 10 (by hand) -/
section
variable {w : World} {A A0 A1 A2 A3 : Option Addr} {n c c0 c1 c2 c3 : Nat}
theorem lit_reads {α : Type} {enc : α → Value} (h1 : ∀ x, (enc x).oneCell' = true) (W : World) (e : TypeId) (xs : List α) (hm : xs.length ≤ 9223372036854775807) : Kd.C (Kd.scalar enc h1) (W.alloc (.cells (xs.map enc).toArray e)) (some ⟨W.heap.size, 0, none⟩) xs.length xs := by
  refine ⟨rfl, hm, fun _ => ⟨_, rfl, fun j p hj => ⟨[enc p], rfl, rfl, fun i u hu => ?_⟩⟩⟩
  cases i with
  | zero =>
    have : enc p = u := by simpa using hu
    subst this
    have hb : Whole (W.alloc (.cells (xs.map enc).toArray e)) W.heap.size e (xs.map enc).toArray := World.alloc_heap_new W _
    have ea : (⟨W.heap.size, 0, none⟩ : Addr).add (j * (Kd.scalar enc h1).sz + 0) = ⟨W.heap.size, j, none⟩ := by
      simp only [Kd.scalar, Nat.mul_one, Nat.add_zero]
      by_cases hj0 : j = 0
      · subst hj0; simp [Addr.add]
      · simp [Addr.add, hj0]
    rw [ea, hb.cell]
    simp [hj]
  | succ i => simp at hu
theorem lit_int (W : World) (x : Int) : Kd.C (Kd.int .i64) (W.alloc (.cells #[.int .i64 x] 3)) (some ⟨W.heap.size, 0, none⟩) 1 [x] := lit_reads (enc := Value.int .i64) (fun _ => rfl) W 3 [x] (by simp)
theorem lit_bool (W : World) (x : Bool) : Kd.C Kd.bool (W.alloc (.cells #[.bool x] 4)) (some ⟨W.heap.size, 0, none⟩) 1 [x] := lit_reads (enc := Value.bool) (fun _ => rfl) W 4 [x] (by simp)
theorem R_told {α : Type} {d : Kd α} {e : Nat} {W : World} {base : Nat} {ok : Nat → Prop} {v : Value} {xs : List α} (h : Kd.R d e W base ok v xs) (hn : xs.length = n) : ∃ A c, v = .slice A n c ∧ n ≤ c ∧ Kd.C d W A n xs := by
  subst hn; exact Kd.R_reads h
def fl (a : Int) : List Int := List.replicate 128 a
theorem fl_length (a : Int) : (fl a).length = 128 := by simp [fl]
theorem flat_at (a : Int) (w : World) : Calls Try.prog 26 #[.int .i64 a] w fun e w' => ∃ A c, e = .returned (.slice A 128 c) ∧ 128 ≤ c ∧ Kd.C (Kd.int .i64) w' A 128 (fl a) ∧ Below w.heap.size w w' := by
  refine (shawmlaw13_flat.calls a (fl a) w rfl).mono ?_
  rintro e w' ⟨v, rfl, hr, hb⟩
  obtain ⟨A, c, rfl, hc, hC⟩ := R_told hr (fl_length a)
  exact ⟨A, c, rfl, hc, hC, hb⟩
theorem ex_choose : stereo_Choose.f 300 (fl 5) (fl 5) [128] = some ([true], 0) := by decide +kernel
theorem ex_gains : stereo_Gains.f 300 (fl 1) (fl (-1)) [128] = some ([13696], 0) := by decide +kernel
theorem ex_couple : stereo_Couple.f (fl 5) (fl 5) [128] [true] = some (fl 5, fl 0, 0) := by decide +kernel
theorem ex_part : stereo_Part.f (fl 5) (fl 0) [128] [true] = some (fl 5, fl 5, 0) := by decide +kernel
theorem ex_cross : stereo_Cross.f (fl 5) (fl 5) [128] = some ([256], 0) := by decide +kernel
theorem ex_bools : shawmref09_Bools.f 9 [true] [true] = some true := by decide +kernel
theorem ex_ints (a : Int) (h : a = 5 ∨ a = 0) : shawmref02_Ints.f 300 (fl a) (fl a) = some true := by rcases h with rfl | rfl <;> decide +kernel
theorem ex_int1 (a : Int) (h : a = 13696 ∨ a = 256) : shawmref02_Ints.f 9 [a] [a] = some true := by rcases h with rfl | rfl <;> decide +kernel
theorem choose_at {l r : List Int} (w : World) (hl : l.length = 128) (hr : r.length = 128) (h0 : Kd.C (Kd.int .i64) w A0 128 l) (hc0 : 128 ≤ c0) (h1 : Kd.C (Kd.int .i64) w A1 128 r) (hc1 : 128 ≤ c1) (h2 : Kd.C (Kd.int .i64) w A2 1 [128]) (hc2 : 1 ≤ c2) {x : Bool} (h : stereo_Choose.f 300 l r [128] = some ([x], 0)) :
    Calls Try.prog 11 #[.slice A0 128 c0, .slice A1 128 c1, .slice A2 1 c2] w fun e w' => ∃ A c, e = .returned (.tuple #[.slice A 1 c, .int .i64 0]) ∧ 1 ≤ c ∧ Kd.C Kd.bool w' A 1 [x] ∧ Below w.heap.size w w' := by
  have H := stereo_Choose.calls 300 A0 c0 l A1 c1 r A2 c2 [128] [x] 0 w (by rw [hl]; exact h0) (by rw [hl]; exact hc0) (by rw [hr]; exact h1) (by rw [hr]; exact hc1) h2 hc2 h
  rw [hl, hr] at H
  refine H.mono ?_
  rintro e w' ⟨v, rfl, hr, hb⟩
  obtain ⟨A, c, rfl, hc, hC⟩ := R_told (n := 1) hr rfl
  exact ⟨A, c, rfl, hc, hC, hb⟩
theorem gains_at {l r : List Int} (w : World) (hl : l.length = 128) (hr : r.length = 128) (h0 : Kd.C (Kd.int .i64) w A0 128 l) (hc0 : 128 ≤ c0) (h1 : Kd.C (Kd.int .i64) w A1 128 r) (hc1 : 128 ≤ c1) (h2 : Kd.C (Kd.int .i64) w A2 1 [128]) (hc2 : 1 ≤ c2) {x : Int} (h : stereo_Gains.f 300 l r [128] = some ([x], 0)) :
    Calls Try.prog 12 #[.slice A0 128 c0, .slice A1 128 c1, .slice A2 1 c2] w fun e w' => ∃ A c, e = .returned (.tuple #[.slice A 1 c, .int .i64 0]) ∧ 1 ≤ c ∧ Kd.C (Kd.int .i64) w' A 1 [x] ∧ Below w.heap.size w w' := by
  have H := stereo_Gains.calls 300 A0 c0 l A1 c1 r A2 c2 [128] [x] 0 w (by rw [hl]; exact h0) (by rw [hl]; exact hc0) (by rw [hr]; exact h1) (by rw [hr]; exact hc1) h2 hc2 h
  rw [hl, hr] at H
  refine H.mono ?_
  rintro e w' ⟨v, rfl, hr, hb⟩
  obtain ⟨A, c, rfl, hc, hC⟩ := R_told (n := 1) hr rfl
  exact ⟨A, c, rfl, hc, hC, hb⟩
theorem cross_at {l r : List Int} (w : World) (hl : l.length = 128) (hr : r.length = 128) (h0 : Kd.C (Kd.int .i64) w A0 128 l) (hc0 : 128 ≤ c0) (h1 : Kd.C (Kd.int .i64) w A1 128 r) (hc1 : 128 ≤ c1) (h2 : Kd.C (Kd.int .i64) w A2 1 [128]) (hc2 : 1 ≤ c2) {x : Int} (h : stereo_Cross.f l r [128] = some ([x], 0)) :
    Calls Try.prog 16 #[.slice A0 128 c0, .slice A1 128 c1, .slice A2 1 c2] w fun e w' => ∃ A c, e = .returned (.tuple #[.slice A 1 c, .int .i64 0]) ∧ 1 ≤ c ∧ Kd.C (Kd.int .i64) w' A 1 [x] ∧ Below w.heap.size w w' := by
  have H := stereo_Cross.calls A0 c0 l A1 c1 r A2 c2 [128] [x] 0 w (by rw [hl]; exact h0) (by rw [hl]; exact hc0) (by rw [hr]; exact h1) (by rw [hr]; exact hc1) h2 hc2 h
  rw [hl, hr] at H
  refine H.mono ?_
  rintro e w' ⟨v, rfl, hr, hb⟩
  obtain ⟨A, c, rfl, hc, hC⟩ := R_told (n := 1) hr rfl
  exact ⟨A, c, rfl, hc, hC, hb⟩
theorem couple_at {l r X Y : List Int} {m : Bool} (w : World) (hl : l.length = 128) (hr : r.length = 128) (hX : X.length = 128) (hY : Y.length = 128) (h0 : Kd.C (Kd.int .i64) w A0 128 l) (hc0 : 128 ≤ c0) (h1 : Kd.C (Kd.int .i64) w A1 128 r) (hc1 : 128 ≤ c1) (h2 : Kd.C (Kd.int .i64) w A2 1 [128]) (hc2 : 1 ≤ c2) (h3 : Kd.C Kd.bool w A3 1 [m]) (hc3 : 1 ≤ c3) (h : stereo_Couple.f l r [128] [m] = some (X, Y, 0)) :
    Calls Try.prog 13 #[.slice A0 128 c0, .slice A1 128 c1, .slice A2 1 c2, .slice A3 1 c3] w fun e w' => ∃ A B c d, e = .returned (.tuple #[.slice A 128 c, .slice B 128 d, .int .i64 0]) ∧ 128 ≤ c ∧ 128 ≤ d ∧ Kd.C (Kd.int .i64) w' A 128 X ∧ Kd.C (Kd.int .i64) w' B 128 Y ∧ Below w.heap.size w w' := by
  have H := stereo_Couple.calls A0 c0 l A1 c1 r A2 c2 [128] A3 c3 [m] X Y 0 w (by rw [hl]; exact h0) (by rw [hl]; exact hc0) (by rw [hr]; exact h1) (by rw [hr]; exact hc1) h2 hc2 h3 hc3 h
  rw [hl, hr] at H
  refine H.mono ?_
  rintro e w' ⟨v, v', rfl, hr, hr', hb⟩
  obtain ⟨A, c, rfl, hc, hC⟩ := R_told hr hX
  obtain ⟨B, d, rfl, hd, hD⟩ := R_told hr' hY
  exact ⟨A, B, c, d, rfl, hc, hd, hC, hD, hb⟩
theorem part_at {l r X Y : List Int} {m : Bool} (w : World) (hl : l.length = 128) (hr : r.length = 128) (hX : X.length = 128) (hY : Y.length = 128) (h0 : Kd.C (Kd.int .i64) w A0 128 l) (hc0 : 128 ≤ c0) (h1 : Kd.C (Kd.int .i64) w A1 128 r) (hc1 : 128 ≤ c1) (h2 : Kd.C (Kd.int .i64) w A2 1 [128]) (hc2 : 1 ≤ c2) (h3 : Kd.C Kd.bool w A3 1 [m]) (hc3 : 1 ≤ c3) (h : stereo_Part.f l r [128] [m] = some (X, Y, 0)) :
    Calls Try.prog 23 #[.slice A0 128 c0, .slice A1 128 c1, .slice A2 1 c2, .slice A3 1 c3] w fun e w' => ∃ A B c d, e = .returned (.tuple #[.slice A 128 c, .slice B 128 d, .int .i64 0]) ∧ 128 ≤ c ∧ 128 ≤ d ∧ Kd.C (Kd.int .i64) w' A 128 X ∧ Kd.C (Kd.int .i64) w' B 128 Y ∧ Below w.heap.size w w' := by
  have H := stereo_Part.calls A0 c0 l A1 c1 r A2 c2 [128] A3 c3 [m] X Y 0 w (by rw [hl]; exact h0) (by rw [hl]; exact hc0) (by rw [hr]; exact h1) (by rw [hr]; exact hc1) h2 hc2 h3 hc3 h
  rw [hl, hr] at H
  refine H.mono ?_
  rintro e w' ⟨v, v', rfl, hr, hr', hb⟩
  obtain ⟨A, c, rfl, hc, hC⟩ := R_told hr hX
  obtain ⟨B, d, rfl, hd, hD⟩ := R_told hr' hY
  exact ⟨A, B, c, d, rfl, hc, hd, hC, hD, hb⟩
theorem below_of_drawn {W W' : World} (h : Drawn0 W W') : Below W.heap.size W W' := by obtain ⟨n, rfl⟩ := h; exact pw_below_drewN (Below.refl _ _) n
theorem ints_at {l : List Int} (k : Nat) (w : World) (hl : l.length = n) (h0 : Kd.C (Kd.int .i64) w A0 n l) (hc0 : n ≤ c0) (h1 : Kd.C (Kd.int .i64) w A1 n l) (hc1 : n ≤ c1) (h : shawmref02_Ints.f k l l = some true) :
    Calls Try.prog 17 #[.slice A0 n c0, .slice A1 n c1] w fun e w' => e = .returned (.bool true) ∧ Below w.heap.size w w' := by
  subst hl; exact (shawmref02_Ints.calls k A0 c0 l A1 c1 l true w h0 hc0 h1 hc1 h).mono fun _ _ h => ⟨h.1, below_of_drawn h.2⟩
theorem bools_at {l : List Bool} (k : Nat) (w : World) (hl : l.length = n) (h0 : Kd.C Kd.bool w A0 n l) (hc0 : n ≤ c0) (h1 : Kd.C Kd.bool w A1 n l) (hc1 : n ≤ c1) (h : shawmref09_Bools.f k l l = some true) :
    Calls Try.prog 21 #[.slice A0 n c0, .slice A1 n c1] w fun e w' => e = .returned (.bool true) ∧ Below w.heap.size w w' := by
  subst hl; exact (shawmref09_Bools.calls k A0 c0 l A1 c1 l true w h0 hc0 h1 hc1 h).mono fun _ _ h => ⟨h.1, below_of_drawn h.2⟩
end
/-- A token: an arm that has been used is not used again. -/
structure Tok (n : Nat) : Prop where
def shawmlaw13_awake.f : Option Bool := some true
set_option maxHeartbeats 8000000 in
set_option maxRecDepth 100000 in
theorem shawmlaw13_awake.calls (r : Bool) (w : World) (h : shawmlaw13_awake.f = some r) :
    Calls Try.prog 10 #[] w fun e w' => e = .returned (.bool r) ∧ Below w.heap.size w w' := by
  obtain rfl : true = r := by injection h
  clear h
  have ONE := Aside0.mk (lit_int w 128)
  have HB0 := Aside0.mk (below_alloc (Below.refl w.heap.size w) (.cells #[.int .i64 128] 3))
  have tk1 : Tok 1 := ⟨⟩
  have tk2 : Tok 2 := ⟨⟩
  have tk3 : Tok 3 := ⟨⟩
  have tk4 : Tok 4 := ⟨⟩
  have tk5 : Tok 5 := ⟨⟩
  have tk6 : Tok 6 := ⟨⟩
  have tk7 : Tok 7 := ⟨⟩
  have tk8 : Tok 8 := ⟨⟩
  have tk9 : Tok 9 := ⟨⟩
  have tk10 : Tok 10 := ⟨⟩
  have tk11 : Tok 11 := ⟨⟩
  have tk12 : Tok 12 := ⟨⟩
  have tk13 : Tok 13 := ⟨⟩
  have tk14 : Tok 14 := ⟨⟩
  have tk15 : Tok 15 := ⟨⟩
  have tk16 : Tok 16 := ⟨⟩
  have tk17 : Tok 17 := ⟨⟩
  have tk18 : Tok 18 := ⟨⟩
  have tk19 : Tok 19 := ⟨⟩
  have tk20 : Tok 20 := ⟨⟩
  have tk21 : Tok 21 := ⟨⟩
  have tk22 : Tok 22 := ⟨⟩
  have tk23 : Tok 23 := ⟨⟩
  have tk24 : Tok 24 := ⟨⟩
  go_enter Try.func10, Try.ntmps10
  go_wp2_with (first
    | (go_at_call 26; have t_ := tk1; refine (flat_at (5) _).mono ?_; rintro e w1 ⟨Aa, ca, rfl, hc, hC, hb⟩; have ONE_ := Aside0.mk (Kd.C_below ONE.out hb); clear ONE; have ONE := ONE_; clear ONE_; have HB1 := Aside0.mk (below_step HB0.out hb); have Ra := Aside0.mk hC; have Ka := Aside0.mk hc; clear hb t_ tk1)
    | (go_at_call 26; have t_ := tk2; refine (flat_at (5) _).mono ?_; rintro e w2 ⟨Ab, cb, rfl, hc, hC, hb⟩; have ONE_ := Aside0.mk (Kd.C_below ONE.out hb); clear ONE; have ONE := ONE_; clear ONE_; have Ra_ := Aside0.mk (Kd.C_below Ra.out hb); clear Ra; have Ra := Ra_; clear Ra_; have HB2 := Aside0.mk (below_step HB1.out hb); have Rb := Aside0.mk hC; have Kb := Aside0.mk hc; clear hb t_ tk2)
    | (go_at_call 11; have t_ := tk3; refine (choose_at _ (fl_length 5) (fl_length 5) Ra.out Ka.out Rb.out Kb.out ONE.out (Nat.le_refl _) ex_choose).mono ?_; rintro e w3 ⟨Am, cm, rfl, hc, hC, hb⟩; have ONE_ := Aside0.mk (Kd.C_below ONE.out hb); clear ONE; have ONE := ONE_; clear ONE_; have Ra_ := Aside0.mk (Kd.C_below Ra.out hb); clear Ra; have Ra := Ra_; clear Ra_; have Rb_ := Aside0.mk (Kd.C_below Rb.out hb); clear Rb; have Rb := Rb_; clear Rb_; have HB3 := Aside0.mk (below_step HB2.out hb); have Rm := Aside0.mk hC; have Km := Aside0.mk hc; clear hb t_ tk3)
    | (go_at_call 26; have t_ := tk4; refine (flat_at (1) _).mono ?_; rintro e w4 ⟨Ag, cg, rfl, hc, hC, hb⟩; have ONE_ := Aside0.mk (Kd.C_below ONE.out hb); clear ONE; have ONE := ONE_; clear ONE_; have Rm_ := Aside0.mk (Kd.C_below Rm.out hb); clear Rm; have Rm := Rm_; clear Rm_; have HB4 := Aside0.mk (below_step HB3.out hb); have Rg := Aside0.mk hC; have Kg := Aside0.mk hc; clear hb t_ tk4)
    | (go_at_call 26; have t_ := tk5; refine (flat_at (-1) _).mono ?_; rintro e w5 ⟨Ah, ch, rfl, hc, hC, hb⟩; have ONE_ := Aside0.mk (Kd.C_below ONE.out hb); clear ONE; have ONE := ONE_; clear ONE_; have Rm_ := Aside0.mk (Kd.C_below Rm.out hb); clear Rm; have Rm := Rm_; clear Rm_; have Rg_ := Aside0.mk (Kd.C_below Rg.out hb); clear Rg; have Rg := Rg_; clear Rg_; have HB5 := Aside0.mk (below_step HB4.out hb); have Rh := Aside0.mk hC; have Kh := Aside0.mk hc; clear hb t_ tk5)
    | (go_at_call 12; have t_ := tk6; refine (gains_at _ (fl_length 1) (fl_length (-1)) Rg.out Kg.out Rh.out Kh.out ONE.out (Nat.le_refl _) ex_gains).mono ?_; rintro e w6 ⟨Ax, cx, rfl, hc, hC, hb⟩; have ONE_ := Aside0.mk (Kd.C_below ONE.out hb); clear ONE; have ONE := ONE_; clear ONE_; have Rm_ := Aside0.mk (Kd.C_below Rm.out hb); clear Rm; have Rm := Rm_; clear Rm_; have Rg_ := Aside0.mk (Kd.C_below Rg.out hb); clear Rg; have Rg := Rg_; clear Rg_; have Rh_ := Aside0.mk (Kd.C_below Rh.out hb); clear Rh; have Rh := Rh_; clear Rh_; have HB6 := Aside0.mk (below_step HB5.out hb); have Rx := Aside0.mk hC; have Kx := Aside0.mk hc; clear hb t_ tk6)
    | (go_at_call 26; have t_ := tk7; refine (flat_at (5) _).mono ?_; rintro e w7 ⟨Ai, ci, rfl, hc, hC, hb⟩; have ONE_ := Aside0.mk (Kd.C_below ONE.out hb); clear ONE; have ONE := ONE_; clear ONE_; have Rm_ := Aside0.mk (Kd.C_below Rm.out hb); clear Rm; have Rm := Rm_; clear Rm_; have Rx_ := Aside0.mk (Kd.C_below Rx.out hb); clear Rx; have Rx := Rx_; clear Rx_; have HB7 := Aside0.mk (below_step HB6.out hb); have Ri := Aside0.mk hC; have Ki := Aside0.mk hc; clear hb t_ tk7)
    | (go_at_call 26; have t_ := tk8; refine (flat_at (5) _).mono ?_; rintro e w8 ⟨Aj, cj, rfl, hc, hC, hb⟩; have ONE_ := Aside0.mk (Kd.C_below ONE.out hb); clear ONE; have ONE := ONE_; clear ONE_; have Rm_ := Aside0.mk (Kd.C_below Rm.out hb); clear Rm; have Rm := Rm_; clear Rm_; have Rx_ := Aside0.mk (Kd.C_below Rx.out hb); clear Rx; have Rx := Rx_; clear Rx_; have Ri_ := Aside0.mk (Kd.C_below Ri.out hb); clear Ri; have Ri := Ri_; clear Ri_; have HB8 := Aside0.mk (below_step HB7.out hb); have Rj := Aside0.mk hC; have Kj := Aside0.mk hc; clear hb t_ tk8)
    | (go_at_call 13; have t_ := tk9; refine (couple_at _ (fl_length 5) (fl_length 5) (fl_length 5) (fl_length 0) Ri.out Ki.out Rj.out Kj.out ONE.out (Nat.le_refl _) Rm.out Km.out ex_couple).mono ?_; rintro e w9 ⟨Ap, Aq, cp, cq, rfl, hc, hc', hC, hC', hb⟩; have ONE_ := Aside0.mk (Kd.C_below ONE.out hb); clear ONE; have ONE := ONE_; clear ONE_; have Rm_ := Aside0.mk (Kd.C_below Rm.out hb); clear Rm; have Rm := Rm_; clear Rm_; have Rx_ := Aside0.mk (Kd.C_below Rx.out hb); clear Rx; have Rx := Rx_; clear Rx_; have Ri_ := Aside0.mk (Kd.C_below Ri.out hb); clear Ri; have Ri := Ri_; clear Ri_; have Rj_ := Aside0.mk (Kd.C_below Rj.out hb); clear Rj; have Rj := Rj_; clear Rj_; have HB9 := Aside0.mk (below_step HB8.out hb); have Rp := Aside0.mk hC; have Kp := Aside0.mk hc; have Rq := Aside0.mk hC'; have Kq := Aside0.mk hc'; clear hb t_ tk9)
    | (go_at_call 23; have t_ := tk10; refine (part_at _ (fl_length 5) (fl_length 0) (fl_length 5) (fl_length 5) Rp.out Kp.out Rq.out Kq.out ONE.out (Nat.le_refl _) Rm.out Km.out ex_part).mono ?_; rintro e w10 ⟨Al, Ar, cl, cr, rfl, hc, hc', hC, hC', hb⟩; have ONE_ := Aside0.mk (Kd.C_below ONE.out hb); clear ONE; have ONE := ONE_; clear ONE_; have Rm_ := Aside0.mk (Kd.C_below Rm.out hb); clear Rm; have Rm := Rm_; clear Rm_; have Rx_ := Aside0.mk (Kd.C_below Rx.out hb); clear Rx; have Rx := Rx_; clear Rx_; have Rp_ := Aside0.mk (Kd.C_below Rp.out hb); clear Rp; have Rp := Rp_; clear Rp_; have Rq_ := Aside0.mk (Kd.C_below Rq.out hb); clear Rq; have Rq := Rq_; clear Rq_; have HB10 := Aside0.mk (below_step HB9.out hb); have Rl := Aside0.mk hC; have Kl := Aside0.mk hc; have Rr := Aside0.mk hC'; have Kr := Aside0.mk hc'; clear hb t_ tk10)
    | (go_at_call 26; have t_ := tk11; refine (flat_at (5) _).mono ?_; rintro e w11 ⟨As, cs, rfl, hc, hC, hb⟩; have ONE_ := Aside0.mk (Kd.C_below ONE.out hb); clear ONE; have ONE := ONE_; clear ONE_; have Rm_ := Aside0.mk (Kd.C_below Rm.out hb); clear Rm; have Rm := Rm_; clear Rm_; have Rx_ := Aside0.mk (Kd.C_below Rx.out hb); clear Rx; have Rx := Rx_; clear Rx_; have Rp_ := Aside0.mk (Kd.C_below Rp.out hb); clear Rp; have Rp := Rp_; clear Rp_; have Rq_ := Aside0.mk (Kd.C_below Rq.out hb); clear Rq; have Rq := Rq_; clear Rq_; have Rl_ := Aside0.mk (Kd.C_below Rl.out hb); clear Rl; have Rl := Rl_; clear Rl_; have Rr_ := Aside0.mk (Kd.C_below Rr.out hb); clear Rr; have Rr := Rr_; clear Rr_; have HB11 := Aside0.mk (below_step HB10.out hb); have Rs := Aside0.mk hC; have Ks := Aside0.mk hc; clear hb t_ tk11)
    | (go_at_call 26; have t_ := tk12; refine (flat_at (5) _).mono ?_; rintro e w12 ⟨At, ct, rfl, hc, hC, hb⟩; have ONE_ := Aside0.mk (Kd.C_below ONE.out hb); clear ONE; have ONE := ONE_; clear ONE_; have Rm_ := Aside0.mk (Kd.C_below Rm.out hb); clear Rm; have Rm := Rm_; clear Rm_; have Rx_ := Aside0.mk (Kd.C_below Rx.out hb); clear Rx; have Rx := Rx_; clear Rx_; have Rp_ := Aside0.mk (Kd.C_below Rp.out hb); clear Rp; have Rp := Rp_; clear Rp_; have Rq_ := Aside0.mk (Kd.C_below Rq.out hb); clear Rq; have Rq := Rq_; clear Rq_; have Rl_ := Aside0.mk (Kd.C_below Rl.out hb); clear Rl; have Rl := Rl_; clear Rl_; have Rr_ := Aside0.mk (Kd.C_below Rr.out hb); clear Rr; have Rr := Rr_; clear Rr_; have Rs_ := Aside0.mk (Kd.C_below Rs.out hb); clear Rs; have Rs := Rs_; clear Rs_; have HB12 := Aside0.mk (below_step HB11.out hb); have Rt := Aside0.mk hC; have Kt := Aside0.mk hc; clear hb t_ tk12)
    | (go_at_call 16; have t_ := tk13; refine (cross_at _ (fl_length 5) (fl_length 5) Rs.out Ks.out Rt.out Kt.out ONE.out (Nat.le_refl _) ex_cross).mono ?_; rintro e w13 ⟨Ay, cy, rfl, hc, hC, hb⟩; have ONE_ := Aside0.mk (Kd.C_below ONE.out hb); clear ONE; have ONE := ONE_; clear ONE_; have Rm_ := Aside0.mk (Kd.C_below Rm.out hb); clear Rm; have Rm := Rm_; clear Rm_; have Rx_ := Aside0.mk (Kd.C_below Rx.out hb); clear Rx; have Rx := Rx_; clear Rx_; have Rp_ := Aside0.mk (Kd.C_below Rp.out hb); clear Rp; have Rp := Rp_; clear Rp_; have Rq_ := Aside0.mk (Kd.C_below Rq.out hb); clear Rq; have Rq := Rq_; clear Rq_; have Rl_ := Aside0.mk (Kd.C_below Rl.out hb); clear Rl; have Rl := Rl_; clear Rl_; have Rr_ := Aside0.mk (Kd.C_below Rr.out hb); clear Rr; have Rr := Rr_; clear Rr_; have Rs_ := Aside0.mk (Kd.C_below Rs.out hb); clear Rs; have Rs := Rs_; clear Rs_; have Rt_ := Aside0.mk (Kd.C_below Rt.out hb); clear Rt; have Rt := Rt_; clear Rt_; have HB13 := Aside0.mk (below_step HB12.out hb); have Ry := Aside0.mk hC; have Ky := Aside0.mk hc; clear hb t_ tk13)
    | (go_at_call 21; have t_ := tk14; refine (bools_at 9 _ rfl (Kd.C_alloc Rm.out _) Km.out (lit_bool _ true) (Nat.le_refl _) ex_bools).mono ?_; rintro e w14 ⟨rfl, hb⟩; have Rm_ := Aside0.mk (Kd.C_below (Kd.C_alloc Rm.out _) hb); clear Rm; have Rm := Rm_; clear Rm_; have Rx_ := Aside0.mk (Kd.C_below (Kd.C_alloc Rx.out _) hb); clear Rx; have Rx := Rx_; clear Rx_; have Rp_ := Aside0.mk (Kd.C_below (Kd.C_alloc Rp.out _) hb); clear Rp; have Rp := Rp_; clear Rp_; have Rq_ := Aside0.mk (Kd.C_below (Kd.C_alloc Rq.out _) hb); clear Rq; have Rq := Rq_; clear Rq_; have Rl_ := Aside0.mk (Kd.C_below (Kd.C_alloc Rl.out _) hb); clear Rl; have Rl := Rl_; clear Rl_; have Rr_ := Aside0.mk (Kd.C_below (Kd.C_alloc Rr.out _) hb); clear Rr; have Rr := Rr_; clear Rr_; have Ry_ := Aside0.mk (Kd.C_below (Kd.C_alloc Ry.out _) hb); clear Ry; have Ry := Ry_; clear Ry_; have HB14 := Aside0.mk (below_step (below_alloc HB13.out _) hb); clear hb t_ tk14)
    | (go_at_call 17; have t_ := tk15; refine (ints_at 9 _ rfl (Kd.C_alloc Rx.out _) Kx.out (lit_int _ 13696) (Nat.le_refl _) (ex_int1 _ (.inl rfl))).mono ?_; rintro e w15 ⟨rfl, hb⟩; have Rx_ := Aside0.mk (Kd.C_below (Kd.C_alloc Rx.out _) hb); clear Rx; have Rx := Rx_; clear Rx_; have Rp_ := Aside0.mk (Kd.C_below (Kd.C_alloc Rp.out _) hb); clear Rp; have Rp := Rp_; clear Rp_; have Rq_ := Aside0.mk (Kd.C_below (Kd.C_alloc Rq.out _) hb); clear Rq; have Rq := Rq_; clear Rq_; have Rl_ := Aside0.mk (Kd.C_below (Kd.C_alloc Rl.out _) hb); clear Rl; have Rl := Rl_; clear Rl_; have Rr_ := Aside0.mk (Kd.C_below (Kd.C_alloc Rr.out _) hb); clear Rr; have Rr := Rr_; clear Rr_; have Ry_ := Aside0.mk (Kd.C_below (Kd.C_alloc Ry.out _) hb); clear Ry; have Ry := Ry_; clear Ry_; have HB15 := Aside0.mk (below_step (below_alloc HB14.out _) hb); clear hb t_ tk15)
    | (go_at_call 26; have t_ := tk16; refine (flat_at (5) _).mono ?_; rintro e w16 ⟨Au1, cu1, rfl, hc, hC, hb⟩; have Rp_ := Aside0.mk (Kd.C_below Rp.out hb); clear Rp; have Rp := Rp_; clear Rp_; have Rq_ := Aside0.mk (Kd.C_below Rq.out hb); clear Rq; have Rq := Rq_; clear Rq_; have Rl_ := Aside0.mk (Kd.C_below Rl.out hb); clear Rl; have Rl := Rl_; clear Rl_; have Rr_ := Aside0.mk (Kd.C_below Rr.out hb); clear Rr; have Rr := Rr_; clear Rr_; have Ry_ := Aside0.mk (Kd.C_below Ry.out hb); clear Ry; have Ry := Ry_; clear Ry_; have HB16 := Aside0.mk (below_step HB15.out hb); have Ru1 := Aside0.mk hC; have Ku1 := Aside0.mk hc; clear hb t_ tk16)
    | (go_at_call 17; have t_ := tk17; refine (ints_at 300 _ (fl_length 5) Rp.out Kp.out Ru1.out Ku1.out (ex_ints _ (.inl rfl))).mono ?_; rintro e w17 ⟨rfl, hb⟩; have Rp_ := Aside0.mk (Kd.C_below Rp.out hb); clear Rp; have Rp := Rp_; clear Rp_; have Rq_ := Aside0.mk (Kd.C_below Rq.out hb); clear Rq; have Rq := Rq_; clear Rq_; have Rl_ := Aside0.mk (Kd.C_below Rl.out hb); clear Rl; have Rl := Rl_; clear Rl_; have Rr_ := Aside0.mk (Kd.C_below Rr.out hb); clear Rr; have Rr := Rr_; clear Rr_; have Ry_ := Aside0.mk (Kd.C_below Ry.out hb); clear Ry; have Ry := Ry_; clear Ry_; have Ru1_ := Aside0.mk (Kd.C_below Ru1.out hb); clear Ru1; have Ru1 := Ru1_; clear Ru1_; have HB17 := Aside0.mk (below_step HB16.out hb); clear hb t_ tk17)
    | (go_at_call 26; have t_ := tk18; refine (flat_at (0) _).mono ?_; rintro e w18 ⟨Au2, cu2, rfl, hc, hC, hb⟩; have Rq_ := Aside0.mk (Kd.C_below Rq.out hb); clear Rq; have Rq := Rq_; clear Rq_; have Rl_ := Aside0.mk (Kd.C_below Rl.out hb); clear Rl; have Rl := Rl_; clear Rl_; have Rr_ := Aside0.mk (Kd.C_below Rr.out hb); clear Rr; have Rr := Rr_; clear Rr_; have Ry_ := Aside0.mk (Kd.C_below Ry.out hb); clear Ry; have Ry := Ry_; clear Ry_; have HB18 := Aside0.mk (below_step HB17.out hb); have Ru2 := Aside0.mk hC; have Ku2 := Aside0.mk hc; clear hb t_ tk18)
    | (go_at_call 17; have t_ := tk19; refine (ints_at 300 _ (fl_length 0) Rq.out Kq.out Ru2.out Ku2.out (ex_ints _ (.inr rfl))).mono ?_; rintro e w19 ⟨rfl, hb⟩; have Rq_ := Aside0.mk (Kd.C_below Rq.out hb); clear Rq; have Rq := Rq_; clear Rq_; have Rl_ := Aside0.mk (Kd.C_below Rl.out hb); clear Rl; have Rl := Rl_; clear Rl_; have Rr_ := Aside0.mk (Kd.C_below Rr.out hb); clear Rr; have Rr := Rr_; clear Rr_; have Ry_ := Aside0.mk (Kd.C_below Ry.out hb); clear Ry; have Ry := Ry_; clear Ry_; have Ru2_ := Aside0.mk (Kd.C_below Ru2.out hb); clear Ru2; have Ru2 := Ru2_; clear Ru2_; have HB19 := Aside0.mk (below_step HB18.out hb); clear hb t_ tk19)
    | (go_at_call 26; have t_ := tk20; refine (flat_at (5) _).mono ?_; rintro e w20 ⟨Au3, cu3, rfl, hc, hC, hb⟩; have Rl_ := Aside0.mk (Kd.C_below Rl.out hb); clear Rl; have Rl := Rl_; clear Rl_; have Rr_ := Aside0.mk (Kd.C_below Rr.out hb); clear Rr; have Rr := Rr_; clear Rr_; have Ry_ := Aside0.mk (Kd.C_below Ry.out hb); clear Ry; have Ry := Ry_; clear Ry_; have HB20 := Aside0.mk (below_step HB19.out hb); have Ru3 := Aside0.mk hC; have Ku3 := Aside0.mk hc; clear hb t_ tk20)
    | (go_at_call 17; have t_ := tk21; refine (ints_at 300 _ (fl_length 5) Rl.out Kl.out Ru3.out Ku3.out (ex_ints _ (.inl rfl))).mono ?_; rintro e w21 ⟨rfl, hb⟩; have Rl_ := Aside0.mk (Kd.C_below Rl.out hb); clear Rl; have Rl := Rl_; clear Rl_; have Rr_ := Aside0.mk (Kd.C_below Rr.out hb); clear Rr; have Rr := Rr_; clear Rr_; have Ry_ := Aside0.mk (Kd.C_below Ry.out hb); clear Ry; have Ry := Ry_; clear Ry_; have Ru3_ := Aside0.mk (Kd.C_below Ru3.out hb); clear Ru3; have Ru3 := Ru3_; clear Ru3_; have HB21 := Aside0.mk (below_step HB20.out hb); clear hb t_ tk21)
    | (go_at_call 26; have t_ := tk22; refine (flat_at (5) _).mono ?_; rintro e w22 ⟨Au4, cu4, rfl, hc, hC, hb⟩; have Rr_ := Aside0.mk (Kd.C_below Rr.out hb); clear Rr; have Rr := Rr_; clear Rr_; have Ry_ := Aside0.mk (Kd.C_below Ry.out hb); clear Ry; have Ry := Ry_; clear Ry_; have HB22 := Aside0.mk (below_step HB21.out hb); have Ru4 := Aside0.mk hC; have Ku4 := Aside0.mk hc; clear hb t_ tk22)
    | (go_at_call 17; have t_ := tk23; refine (ints_at 300 _ (fl_length 5) Rr.out Kr.out Ru4.out Ku4.out (ex_ints _ (.inl rfl))).mono ?_; rintro e w23 ⟨rfl, hb⟩; have Rr_ := Aside0.mk (Kd.C_below Rr.out hb); clear Rr; have Rr := Rr_; clear Rr_; have Ry_ := Aside0.mk (Kd.C_below Ry.out hb); clear Ry; have Ry := Ry_; clear Ry_; have Ru4_ := Aside0.mk (Kd.C_below Ru4.out hb); clear Ru4; have Ru4 := Ru4_; clear Ru4_; have HB23 := Aside0.mk (below_step HB22.out hb); clear hb t_ tk23)
    | (go_at_call 17; have t_ := tk24; refine (ints_at 9 _ rfl (Kd.C_alloc Ry.out _) Ky.out (lit_int _ 256) (Nat.le_refl _) (ex_int1 _ (.inr rfl))).mono ?_; rintro e w24 ⟨rfl, hb⟩; have Ry_ := Aside0.mk (Kd.C_below (Kd.C_alloc Ry.out _) hb); clear Ry; have Ry := Ry_; clear Ry_; have HB24 := Aside0.mk (below_step (below_alloc HB23.out _) hb); clear hb t_ tk24))
  go_ret
  exact ⟨rfl, HB24.out⟩

/-! ### shawmref06_within: function 31 -/
def shawmref06_within.l0 : Nat → Int → List Int → Int → Int → Option (Bool)
  | 0, _, _, _, _ => none
  | k + 1, x0, x7, x8, x9 => if x9 < x8 then (if 0 ≤ x9 then (if x9 < (x7.length : Int) then (if (rd x7 x9) < (wrap64 (-x0)) then (some false) else (if (rd x7 x9) > x0 then (some false) else (shawmref06_within.l0 k x0 x7 x8 (wrap64 (x9 + 1))))) else (none)) else (none)) else (some true)
def shawmref06_within.f (k : Nat) (a0 : Int) (l1 : List Int) : Option (Bool) := shawmref06_within.l0 k a0 l1 (l1.length : Int) 0
theorem shawmref06_within.mono_l : ∀ k, (∀ y0 y1 y2 y3, LeO (shawmref06_within.l0 k y0 y1 y2 y3) (shawmref06_within.l0 (k + 1) y0 y1 y2 y3))
  | 0 => fun _ _ _ _ r h => by simp [shawmref06_within.l0] at h
  | k + 1 => by
    have ih0 := shawmref06_within.mono_l k
    · intro y0 y1 y2 y3
      unfold shawmref06_within.l0
      repeat' first
      | (with_reducible exact ih0 _ _ _ _)
      | (with_reducible exact LeO.refl _)
      | (with_reducible exact LeO.none _)
      | (with_reducible refine LeO.ite ?_ ?_)
      | (with_reducible refine LeO.bind ?_ (fun _ => ?_))
      | exact ih0 _ _ _ _
      | exact LeO.none _
      | refine LeO.ite ?_ ?_
      | refine LeO.bind ?_ (fun _ => ?_)
theorem shawmref06_within.mono : ∀ a0 a1 k, LeO (shawmref06_within.f k a0 a1) (shawmref06_within.f (k + 1) a0 a1) := by
  intro a0 a1 k
  have ih0 := shawmref06_within.mono_l k
  unfold shawmref06_within.f
  repeat' first
      | (with_reducible exact ih0 _ _ _ _)
      | (with_reducible exact LeO.refl _)
      | (with_reducible exact LeO.none _)
      | (with_reducible refine LeO.ite ?_ ?_)
      | (with_reducible refine LeO.bind ?_ (fun _ => ?_))
      | exact ih0 _ _ _ _
      | exact LeO.none _
      | refine LeO.ite ?_ ?_
      | refine LeO.bind ?_ (fun _ => ?_)
set_option maxHeartbeats 8000000 in
set_option maxRecDepth 100000 in
theorem shawmref06_within.calls (k : Nat) (a0 : Int) (A1 : Option Addr) (c1 : Nat) (l1 : List Int) (r : Bool) (w : World) (hr1 : Kd.C (Kd.int .i64) w A1 l1.length l1) (hc1 : l1.length ≤ c1) (h : shawmref06_within.f k a0 l1 = some r) :
    Calls Try.prog 31 #[.int .i64 a0, .slice A1 l1.length c1] w fun e w' => e = .returned (.bool r) ∧ Drawn0 w w' := by
  have HR1 := Aside0.mk hr1
  have HC1 := Aside0.mk hc1
  clear hr1 hc1
  have H : (shawmref06_within.l0 k a0 l1 (l1.length : Int) 0) = some r := h
  clear h
  have H' := Aside0.mk H
  clear H
  go_enter Try.func31, Try.ntmps31
  go_wp2
  go_loopg [9] k (fun kq v9 w' => ∃ (x9_1 : Int), v9 = .int .i64 x9_1 ∧ Aside0 (shawmref06_within.l0 kq a0 l1 (l1.length : Int) x9_1 = some r) ∧ Aside0 (kq ≤ k) ∧ Drawn0 w w')
  case atStart => exact ⟨(0), (by first | rfl | (simp; done) | (simp [*]; done)), H', ⟨Nat.le_refl _⟩, by repeat (first | exact Drawn0.refl _ | apply Drawn0.step)⟩
  case round =>
    clear H'
    try clear c1
    try clear p2
    obtain ⟨x9_1, rfl, HA, HK1, ⟨m1, rfl⟩⟩ := hrel
    cases gk with
    | zero => exact absurd HA.out (by simp [shawmref06_within.l0])
    | succ k1 =>
      have H := HA.out
      clear HA
      simp only [shawmref06_within.l0] at H
      by_cases c3 : x9_1 < (l1.length : Int)
      · rw [if_pos c3] at H
        have c3b0 : decide (x9_1 < (l1.length : Int)) = true := decide_eq_true c3
        clear c3
        by_cases c4 : 0 ≤ x9_1
        · rw [if_pos c4] at H
          have c4b0 : decide (0 ≤ x9_1) = true := decide_eq_true c4
          clear c4
          by_cases c5 : x9_1 < (l1.length : Int)
          · rw [if_pos c5] at H
            have c5b0 : decide (x9_1 < (l1.length : Int)) = true := decide_eq_true c5
            clear c5
            by_cases c6 : (rd l1 x9_1) < (wrap64 (-a0))
            · rw [if_pos c6] at H
              have c6b0 : decide ((rd l1 x9_1) < (wrap64 (-a0))) = true := decide_eq_true c6
              clear c6
              obtain rfl := Option.some.inj H
              have p127 : 0 ≤ (x9_1 : Int) := of_decide_eq_true (by first | (with_reducible assumption) | assumption)
              have q127 : x9_1 < (l1.length : Int) := of_decide_eq_true (by first | (with_reducible assumption) | assumption)
              obtain ⟨ad127, e127, hx127_0⟩ := Kd.at_int HR1.out x9_1 p127 q127
              cases e127
              replace p127 := eq_true p127
              replace q127 := eq_true q127
              go_wp2
              go_ret
              exact ⟨by first | rfl | (simp; done) | (simp [*]; done), by repeat (first | exact Drawn0.refl _ | apply Drawn0.step)⟩
            · rw [if_neg c6] at H
              have c6b0 : decide ((rd l1 x9_1) < (wrap64 (-a0))) = false := decide_eq_false c6
              clear c6
              by_cases c7 : (rd l1 x9_1) > a0
              · rw [if_pos c7] at H
                have c7b0 : decide (a0 < (rd l1 x9_1)) = true := decide_eq_true c7
                clear c7
                obtain rfl := Option.some.inj H
                have p127 : 0 ≤ (x9_1 : Int) := of_decide_eq_true (by first | (with_reducible assumption) | assumption)
                have q127 : x9_1 < (l1.length : Int) := of_decide_eq_true (by first | (with_reducible assumption) | assumption)
                obtain ⟨ad127, e127, hx127_0⟩ := Kd.at_int HR1.out x9_1 p127 q127
                cases e127
                replace p127 := eq_true p127
                replace q127 := eq_true q127
                go_wp2
                go_ret
                exact ⟨by first | rfl | (simp; done) | (simp [*]; done), by repeat (first | exact Drawn0.refl _ | apply Drawn0.step)⟩
              · rw [if_neg c7] at H
                have c7b0 : decide (a0 < (rd l1 x9_1)) = false := decide_eq_false c7
                clear c7
                have H' := Aside0.mk H
                clear H
                have p127 : 0 ≤ (x9_1 : Int) := of_decide_eq_true (by first | (with_reducible assumption) | assumption)
                have q127 : x9_1 < (l1.length : Int) := of_decide_eq_true (by first | (with_reducible assumption) | assumption)
                obtain ⟨ad127, e127, hx127_0⟩ := Kd.at_int HR1.out x9_1 p127 q127
                cases e127
                replace p127 := eq_true p127
                replace q127 := eq_true q127
                go_wp2
                go_roundg k1
                case measure => have := HK1.out; omega
                case rel => exact ⟨(wrap64 (x9_1 + 1)), (by first | rfl | (simp; done) | (simp [*]; done)), H', ⟨by have := HK1.out; omega⟩, by repeat (first | exact Drawn0.refl _ | apply Drawn0.step)⟩
          · rw [if_neg c5] at H
            exact absurd H (by simp)
        · rw [if_neg c4] at H
          exact absurd H (by simp)
      · rw [if_neg c3] at H
        have c3b0 : decide (x9_1 < (l1.length : Int)) = false := decide_eq_false c3
        clear c3
        obtain rfl := Option.some.inj H
        go_wp2
        go_ret
        exact ⟨by first | rfl | (simp; done) | (simp [*]; done), by repeat (first | exact Drawn0.refl _ | apply Drawn0.step)⟩

/-! ### shawmref06_Within: function 14 -/
def shawmref06_Within.f (k : Nat) (a0 : Int) (l1 : List Int) : Option (Bool) := (shawmref06_within.f k a0 l1).bind fun t128 => (some t128)
theorem shawmref06_Within.mono : ∀ a0 a1 k, LeO (shawmref06_Within.f k a0 a1) (shawmref06_Within.f (k + 1) a0 a1) := by
  intro a0 a1 k
  unfold shawmref06_Within.f
  repeat' first
      | (with_reducible exact shawmref06_within.mono _ _ _)
      | (with_reducible exact LeO.refl _)
      | (with_reducible exact LeO.none _)
      | (with_reducible refine LeO.ite ?_ ?_)
      | (with_reducible refine LeO.bind ?_ (fun _ => ?_))
      | exact shawmref06_within.mono _ _ _
      | exact LeO.none _
      | refine LeO.ite ?_ ?_
      | refine LeO.bind ?_ (fun _ => ?_)
set_option maxHeartbeats 8000000 in
set_option maxRecDepth 100000 in
theorem shawmref06_Within.calls (k : Nat) (a0 : Int) (A1 : Option Addr) (c1 : Nat) (l1 : List Int) (r : Bool) (w : World) (hr1 : Kd.C (Kd.int .i64) w A1 l1.length l1) (hc1 : l1.length ≤ c1) (h : shawmref06_Within.f k a0 l1 = some r) :
    Calls Try.prog 14 #[.int .i64 a0, .slice A1 l1.length c1] w fun e w' => e = .returned (.bool r) ∧ Drawn0 w w' := by
  have HR1 := Aside0.mk hr1
  have HC1 := Aside0.mk hc1
  clear hr1 hc1
  have H : ((shawmref06_within.f k a0 l1).bind fun t128 => (some t128)) = some r := h
  clear h
  replace H := Option.bind_eq_some_iff.mp H
  obtain ⟨t128, A30, H⟩ := H
  replace H : (some t128) = some r := H
  have A3 := Aside0.mk A30
  clear A30
  obtain rfl := Option.some.inj H
  go_enter Try.func14, Try.ntmps14
  go_wp2_with (first | ((with_reducible refine gate_callee (f := 31) rfl ?_); refine goesL_ (some 7) rfl rfl Try.func31 (by kernel_rfl) rfl #[.int .i64 a0, .slice A1 l1.length c1] rfl (by (try simp only [List.map_toArray, List.map_cons, List.map_nil]); first | done | rfl | (simp only [List.length_drop, List.length_take]; rfl)) ?_; (with_reducible refine (shawmref06_within.calls k a0 _ _ l1 t128 _ ?side1 ?side2 A3.out).mono ?_); (case side1 => repeat (first | exact HR1.out | (with_reducible refine Kd.C_alloc ?_ _) | (with_reducible refine Kd.C_drewN ?_ _) | (with_reducible refine Kd.C_drew ?_))); (case side2 => exact HC1.out); rintro e w' ⟨rfl, ⟨nd, rfl⟩⟩; refine ⟨_, rfl, ?_⟩))
  go_ret
  exact ⟨by first | rfl | (simp; done) | (simp [*]; done), by repeat (first | exact Drawn0.refl _ | apply Drawn0.step)⟩

end Go.Proofs.Ytjplalkgabpinaa.Hn
