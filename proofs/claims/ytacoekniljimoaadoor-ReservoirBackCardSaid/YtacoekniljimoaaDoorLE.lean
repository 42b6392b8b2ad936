/- Chapter 23: Least: what it answers, for any bound and sizes (at most 200 sizes). -/
import Derived.Test.YtacoekniljimoaaDoorPL
import Derived.Test.YtacoekniljimoaaDoorRL
namespace Go.Proofs.YtacoekniljimoaaDoor.Res
open Go.RowKit Go.Proofs.YtacoekniljimoaaDoorW.PrintWords Go.Proofs.YtacoekniljimoaaDoorW.PrintLast Go.Proofs.YtacoekniljimoaaDoorW.PrintMore
attribute [local go_sem] max2_int min2_int max_two min_two
set_option linter.unusedVariables false
set_option linter.unusedSimpArgs false
theorem plan_any {m b : Int} {A : Option Addr} {c : Nat} {xs : List Int} {n : Nat} {w : World} (hL : Lim w) (hn : xs.length = n) (hr : Kd.C (Kd.int .i64) w A n xs) (hc : n ≤ c) (hl : n ≤ 200) :
    Calls Tryd.prog 11 #[.int .i64 m, .int .i64 b, .slice A n c] w fun e w' => ∃ v u, e = .returned (.tuple #[v, u, .int .i64 (planE m b xs)]) ∧ RowI w' v (planB m b xs) ∧ RowI w' u (planP m b xs) ∧ Below w.heap.size w w' := by
  by_cases hok : okR m b
  · exact plan_good m b A c xs n w hL hok hn hr hc hl
  · have e1 : planE m b xs = 6 := by unfold planE; rw [if_neg hok]
    have e2 : planB m b xs = [] := by unfold planB; rw [e1]; rfl
    have e3 : planP m b xs = [] := by unfold planP; rw [e1]; rfl
    refine (plan_bad m b A n c w hL hok).mono ?_
    rintro e w' ⟨rfl, hb⟩
    exact ⟨_, _, by rw [e1], by rw [e2]; exact RowI.nil _, by rw [e3]; exact RowI.nil _, hb⟩
theorem plan_at {m b : Int} {A : Option Addr} {c : Nat} {xs : List Int} {n : Nat} {w : World} (E : Int) (hL : Lim w) (hn : xs.length = n) (hr : Kd.C (Kd.int .i64) w A n xs) (hc : n ≤ c) (hl : n ≤ 200) (hE : planE m b xs = E) :
    Calls Tryd.prog 11 #[.int .i64 m, .int .i64 b, .slice A n c] w fun e w' => ∃ v u, e = .returned (.tuple #[v, u, .int .i64 E]) ∧ Below w.heap.size w w' := by
  subst hE
  refine (plan_any hL hn hr hc hl).mono ?_
  rintro e w' ⟨v, u, rfl, _, _, hb⟩
  exact ⟨v, u, rfl, hb⟩
/-! ### A greater mean serves where a smaller one does. -/
theorem lv_mono {b : Int} {xs : List Int} {m m' : Int} (hb : 0 ≤ b ∧ b ≤ 511) (h : m ≤ m') (hx : ∀ i : Nat, i < xs.length → 0 ≤ rd xs (i : Int)) (n : Nat) (hn : n ≤ xs.length) (h0 : eTo m b xs n = 0) : eTo m' b xs n = 0 ∧ lv m b xs n ≤ lv m' b xs n := by
  induction n with
  | zero => exact ⟨rfl, by simp [lv]⟩
  | succ n ih =>
    have hz : eTo m b xs n = 0 := by
      by_cases e : eTo m b xs n = 0
      · exact e
      · simp only [eTo] at h0
        rw [if_neg e] at h0
        exact absurd h0 e
    obtain ⟨i1, i2⟩ := ih (by omega) hz
    simp only [eTo] at h0 ⊢
    rw [if_pos hz] at h0
    rw [if_pos i1]
    have hxn := hx n (by omega)
    simp only [lv]
    unfold er at h0 ⊢
    unfold tkErr at h0 ⊢
    unfold tkLvl
    have hnn : ¬ rd xs (n : Int) < 0 := by omega
    rw [if_neg hnn] at h0 ⊢
    rw [if_neg hnn, if_neg hnn]
    by_cases hf : lv m b xs n + m < rd xs (n : Int)
    · rw [if_pos hf] at h0; omega
    · have hf' : ¬ lv m' b xs n + m' < rd xs (n : Int) := by omega
      rw [if_neg hf', if_neg hf, if_neg hf']
      refine ⟨rfl, ?_⟩
      split <;> split <;> omega
theorem planE_mono {b : Int} {xs : List Int} {m m' : Int} (hbad : ¬ badL b xs) (h1 : 1 ≤ m) (h : m ≤ m') (h2 : m' ≤ 2047) (h0 : planE m b xs = 0) : planE m' b xs = 0 := by
  have hb : 0 ≤ b ∧ b ≤ 511 := Classical.not_not.1 (fun hh => hbad (.inl hh))
  have hx : ∀ i : Nat, i < xs.length → 0 ≤ rd xs (i : Int) := fun i hi => Int.not_lt.1 (fun hh => hbad (.inr ⟨i, hi, hh⟩))
  have ok : okR m b := ⟨⟨h1, by omega⟩, hb⟩
  have ok' : okR m' b := ⟨⟨by omega, h2⟩, hb⟩
  unfold planE at h0 ⊢
  rw [if_pos ok] at h0
  rw [if_pos ok']
  exact (lv_mono hb h hx _ (Nat.le_refl _) h0).1
theorem planE_full {b : Int} {xs : List Int} {m : Int} (hbad : ¬ badL b xs) (h1 : 1 ≤ m) (h2 : m ≤ 2047) (h0 : planE m b xs ≠ 0) : planE m b xs = 2 := by
  have hb : 0 ≤ b ∧ b ≤ 511 := Classical.not_not.1 (fun hh => hbad (.inl hh))
  have hx : ∀ i : Nat, i < xs.length → 0 ≤ rd xs (i : Int) := fun i hi => Int.not_lt.1 (fun hh => hbad (.inr ⟨i, hi, hh⟩))
  have ok : okR m b := ⟨⟨h1, h2⟩, hb⟩
  unfold planE at h0 ⊢
  rw [if_pos ok] at h0 ⊢
  have : ∀ n, n ≤ xs.length → eTo m b xs n = 0 ∨ eTo m b xs n = 2 := by
    intro n
    induction n with
    | zero => intro _; exact .inl rfl
    | succ n ih =>
      intro hn
      simp only [eTo]
      rcases ih (by omega) with e | e
      · rw [if_pos e]
        unfold er tkErr
        rw [if_neg (by have := hx n (by omega); omega)]
        split
        · exact .inr rfl
        · exact .inl rfl
      · rw [if_neg (by rw [e]; decide)]
        exact .inr e
  rcases this _ (Nat.le_refl _) with e | e
  · exact absurd e h0
  · exact e
/-! ### The closure, the search, Least. -/
set_option maxRecDepth 100000 in
set_option maxHeartbeats 4000000 in
theorem enough_yes {m b : Int} {A : Option Addr} {c : Nat} {xs : List Int} {n B1 B2 : Nat} {w : World} (hL : Lim w) (hn : xs.length = n) (hr : Kd.C (Kd.int .i64) w A n xs) (hc : n ≤ c) (hl : n ≤ 200) (h1 : w.cell? ⟨B1, 0, none⟩ = some (.int .i64 b)) (h2 : w.cell? ⟨B2, 0, none⟩ = some (.slice A n c)) (hE : planE m b xs = 0) :
    Calls Tryd.prog 38 #[.int .i64 m, .pointer (some ⟨B1, 0, none⟩), .pointer (some ⟨B2, 0, none⟩)] w fun e w' => e = .returned (.bool true) ∧ Below w.heap.size w w' := by
  have HL := Aside0.mk hL
  have HN := Aside0.mk hn
  have HR := Aside0.mk hr
  have HC := Aside0.mk hc
  have HE := Aside0.mk hE
  clear hL hn hr hc hE
  go_enter Tryd.func38, Tryd.ntmps38
  go_wp2_with (go_at_call 11; refine (plan_at 0 HL.out HN.out HR.out HC.out hl HE.out).mono ?_; rintro e w1 ⟨v, u, rfl, hb⟩; have HB := Aside0.mk hb; clear hb)
  go_ret
  exact ⟨rfl, HB.out⟩
set_option maxRecDepth 100000 in
set_option maxHeartbeats 4000000 in
theorem enough_no {m b : Int} {A : Option Addr} {c : Nat} {xs : List Int} {n B1 B2 : Nat} {w : World} (hL : Lim w) (hn : xs.length = n) (hr : Kd.C (Kd.int .i64) w A n xs) (hc : n ≤ c) (hl : n ≤ 200) (h1 : w.cell? ⟨B1, 0, none⟩ = some (.int .i64 b)) (h2 : w.cell? ⟨B2, 0, none⟩ = some (.slice A n c)) (hE : planE m b xs ≠ 0) :
    Calls Tryd.prog 38 #[.int .i64 m, .pointer (some ⟨B1, 0, none⟩), .pointer (some ⟨B2, 0, none⟩)] w fun e w' => e = .returned (.bool false) ∧ Below w.heap.size w w' := by
  have HL := Aside0.mk hL
  have HN := Aside0.mk hn
  have HR := Aside0.mk hr
  have HC := Aside0.mk hc
  obtain ⟨E, hE2⟩ : ∃ E, E = planE m b xs := ⟨_, rfl⟩
  have hne : (E == 0) = false := beq_eq_false_iff_ne.2 (by rw [hE2]; exact hE)
  have HE := Aside0.mk hE2
  clear hL hn hr hc hE hE2
  go_enter Tryd.func38, Tryd.ntmps38
  go_wp2_with (go_at_call 11; refine (plan_at E HL.out HN.out HR.out HC.out hl HE.out.symm).mono ?_; rintro e w1 ⟨v, u, rfl, hb⟩; have HB := Aside0.mk hb; clear hb)
  go_ret
  exact ⟨rfl, HB.out⟩
/-- What the search finds. -/
structure Found (b : Int) (xs : List Int) (r : Int) : Prop where
  lo : 1 ≤ r
  hi : r ≤ 2048
  no : ∀ j : Int, 1 ≤ j → j < r → planE j b xs ≠ 0
  yes : r < 2048 → planE r b xs = 0
set_option maxRecDepth 100000 in
set_option maxHeartbeats 4000000 in
theorem search_any {b : Int} {A : Option Addr} {c : Nat} {xs : List Int} {n B1 B2 : Nat} {w : World} (hL : Lim w) (hn : xs.length = n) (hr : Kd.C (Kd.int .i64) w A n xs) (hc : n ≤ c) (hl : n ≤ 200) (h1 : w.cell? ⟨B1, 0, none⟩ = some (.int .i64 b)) (h2 : w.cell? ⟨B2, 0, none⟩ = some (.slice A n c)) (hbad : ¬ badL b xs) :
    Calls Tryd.prog 39 #[.int .i64 1, .int .i64 2048, .func (.func 38) #[] #[.pointer (some ⟨B1, 0, none⟩), .pointer (some ⟨B2, 0, none⟩)]] w fun e w' => ∃ r, e = .returned (.int .i64 r) ∧ Aside0 (Found b xs r) ∧ Below w.heap.size w w' := by
  have HL := Aside0.mk hL
  have HN := Aside0.mk hn
  have HR := Aside0.mk hr
  have HC := Aside0.mk hc
  have H1 := Aside0.mk h1
  have H2 := Aside0.mk h2
  have HBAD := Aside0.mk hbad
  clear hL hn hr hc h1 h2 hbad
  go_enter Tryd.func39, Tryd.ntmps39
  go_wp2
  go_loopw [0, 1] (fun lo hi wr => ∃ x y : Int, lo = .int .i64 x ∧ hi = .int .i64 y ∧ Aside0 (1 ≤ x ∧ x ≤ y ∧ y ≤ 2048) ∧ Aside0 (∀ j : Int, 1 ≤ j → j < x → planE j b xs ≠ 0) ∧ Aside0 (y < 2048 → planE y b xs = 0) ∧ Aside0 (Below w.heap.size w wr)) (fun lo hi _ => (intOf hi - intOf lo).toNat)
  case atStart => exact ⟨1, 2048, rfl, rfl, ⟨by omega⟩, ⟨fun j h1 h2 => by omega⟩, ⟨fun h => by omega⟩, ⟨Below.refl _ _⟩⟩
  case round =>
    obtain ⟨x, y, rfl, rfl, HXY, HLO, HHI, HB⟩ := hrel
    obtain ⟨hx1, hxy, hy⟩ := HXY.out
    by_cases hlt : x < y
    · have hm1 : x ≤ x + (y - x) / 2 := by omega
      have hm2 : x + (y - x) / 2 < y := by omega
      obtain ⟨q, hq⟩ : ∃ q, q = (y - x) / 2 := ⟨_, rfl⟩
      have HQ := Aside0.mk (show x ≤ x + q ∧ x + q < y by rw [hq]; exact ⟨hm1, hm2⟩)
      have HQE := Aside0.mk hq
      clear hm1 hm2 hq
      have HLT := Aside0.mk hlt
      by_cases hz : planE (x + (y - x) / 2) b xs = 0
      · have HZ := Aside0.mk hz
        clear hz
        go_wp2_with (go_at_call 38; refine (enough_yes (HL.out.below' HB.out) HN.out (Kd.C_below HR.out HB.out) HC.out hl (pw_cell_below HB.out H1.out) (pw_cell_below HB.out H2.out) HZ.out).mono ?_; rintro e w1 ⟨rfl, hb⟩; have HB1 := Aside0.mk (below_step HB.out hb); clear hb)
        go_roundw
        case rel => exact ⟨x, _, rfl, rfl, ⟨by have := HQ.out; rw [HQE.out] at this; omega⟩, HLO, ⟨fun _ => HZ.out⟩, HB1⟩
        case measure => have := HQ.out; rw [HQE.out] at this; simp [intOf]; omega
      · have HZ := Aside0.mk hz
        clear hz
        go_wp2_with (go_at_call 38; refine (enough_no (HL.out.below' HB.out) HN.out (Kd.C_below HR.out HB.out) HC.out hl (pw_cell_below HB.out H1.out) (pw_cell_below HB.out H2.out) HZ.out).mono ?_; rintro e w1 ⟨rfl, hb⟩; have HB1 := Aside0.mk (below_step HB.out hb); clear hb)
        go_roundw
        case rel =>
          refine ⟨_, y, rfl, rfl, ⟨by have := HQ.out; rw [HQE.out] at this; omega⟩, ⟨fun j h1 h2 h3 => ?_⟩, HHI, HB1⟩
          have := HQ.out
          rw [HQE.out] at this
          exact HZ.out (planE_mono HBAD.out h1 (show j ≤ x + (y - x) / 2 by omega) (by omega) h3)
        case measure => have := HQ.out; rw [HQE.out] at this; simp [intOf]; omega
    · have hxe : x = y := by omega
      have HF := Aside0.mk (show Found b xs x from ⟨by omega, by omega, HLO.out, by rw [hxe]; exact HHI.out⟩)
      clear hxe
      go_wp2
      go_ret
      exact ⟨x, rfl, HF, HB.out⟩
set_option maxRecDepth 100000 in
set_option maxHeartbeats 4000000 in
theorem least_any (b : Int) (A : Option Addr) (c : Nat) (xs : List Int) (n : Nat) (w : World) (hL : Lim w) (hn : xs.length = n) (hr : Kd.C (Kd.int .i64) w A n xs) (hc : n ≤ c) (hl : n ≤ 200) :
    Calls Tryd.prog 13 #[.int .i64 b, .slice A n c] w fun e w' => ∃ y h, e = .returned (.tuple #[.int .i64 y, .int .i64 h]) ∧ Aside0 (IsLeast b xs y h) ∧ Below w.heap.size w w' := by
  have HL := Aside0.mk hL
  have HN := Aside0.mk hn
  have HR := Aside0.mk hr
  have HC := Aside0.mk hc
  have g2 := hL.c2
  have g3 := hL.c3
  have hp := hL.pos
  clear hL hn hr hc
  by_cases hb : 0 ≤ b ∧ b ≤ 511
  case neg =>
    have HB : Aside0 (badL b xs) := ⟨.inl hb⟩
    have hi : inB b 0 511 = false := inB_false hb
    clear hb
    go_enter Tryd.func13, Tryd.ntmps13
    go_wp2_with (go_at_call 37; refine (in_any _ _ _ _).mono ?_; rintro e w' ⟨rfl, rfl⟩)
    go_ret2
    exact ⟨_, _, rfl, ⟨.inl ⟨HB.out, rfl, rfl⟩⟩, below_alloc (below_alloc (below_alloc (Below.refl _ _) _) _) _⟩
  case pos =>
    have HBD := Aside0.mk hb
    have hi : inB b 0 511 = true := inB_true hb.1 hb.2
    clear hb
    go_enter Tryd.func13, Tryd.ntmps13
    go_wp2_with (go_at_call 37; refine (in_any _ _ _ _).mono ?_; rintro e w' ⟨rfl, rfl⟩)
    obtain ⟨N, hN⟩ : ∃ N, N = w.heap.size := ⟨_, rfl⟩
    have k1 : (((w.alloc (.cells #[.int .i64 b] 3)).alloc (.cells #[.slice A n c] 23)).alloc (.cells #[.int .i64 0, .int .i64 511] 22)).cell? ⟨N, 0, none⟩ = some (.int .i64 b) := by rw [hN]; exact (((Boxed.new w 3 (.int .i64 b)).alloc (.cells #[.slice A n c] 23)).alloc (.cells #[.int .i64 0, .int .i64 511] 22)).cell
    have k2 : (((w.alloc (.cells #[.int .i64 b] 3)).alloc (.cells #[.slice A n c] 23)).alloc (.cells #[.int .i64 0, .int .i64 511] 22)).cell? ⟨N + 1, 0, none⟩ = some (.slice A n c) := by rw [hN]; have := Boxed.new (w.alloc (.cells #[.int .i64 b] 3)) 23 (.slice A n c); rw [World.size_alloc] at this; exact (this.alloc (.cells #[.int .i64 0, .int .i64 511] 22)).cell
    have hb : Below w.heap.size w (((w.alloc (.cells #[.int .i64 b] 3)).alloc (.cells #[.slice A n c] 23)).alloc (.cells #[.int .i64 0, .int .i64 511] 22)) := below_alloc (below_alloc (below_alloc (Below.refl _ _) _) _) _
    obtain ⟨W3, hW3⟩ : ∃ W, W = (((w.alloc (.cells #[.int .i64 b] 3)).alloc (.cells #[.slice A n c] 23)).alloc (.cells #[.int .i64 0, .int .i64 511] 22)) := ⟨_, rfl⟩
    rw [← hW3] at k1 k2 hb ⊢
    rw [← hN]
    have HB := Aside0.mk hb
    have K1 := Aside0.mk k1
    have K2 := Aside0.mk k2
    clear hW3 hb hN g2 g3 hp hi k1 k2
    go_loop [17] (fun i => ∃ k : Nat, i = .int .i64 (k : Int) ∧ Aside0 (k ≤ n) ∧ Aside0 (∀ j : Nat, j < k → 0 ≤ rd xs (j : Int))) (fun i => n - (intOf i).toNat)
    case atStart => exact ⟨0, rfl, ⟨by omega⟩, ⟨fun j hj => by omega⟩⟩
    case round =>
      obtain ⟨k, rfl, HK, HP⟩ := hrel
      by_cases hk : k < n
      · have hk1 : (k : Int) < (n : Int) := by omega
        have hk0 : (0 : Int) ≤ (k : Int) := by omega
        have HKT := Aside0.mk hk
        obtain ⟨ad, rfl, hx⟩ := Kd.at_int (Kd.C_below HR.out HB.out) (k : Int) (by omega) (by omega)
        rw [Int.toNat_natCast] at hx
        clear hk
        by_cases hz : rd xs (k : Int) < 0
        · have HBD2 : Aside0 (badL b xs) := ⟨.inr ⟨k, by rw [HN.out]; exact HKT.out, hz⟩⟩
          go_wp2
          go_ret2
          exact ⟨_, _, rfl, ⟨.inl ⟨HBD2.out, rfl, rfl⟩⟩, HB.out⟩
        · have HZ := Aside0.mk hz
          go_wp2
          go_round
          case rel =>
            refine ⟨k + 1, by go_num, ⟨HKT.out⟩, ⟨fun j hj => ?_⟩⟩
            by_cases e : j = k
            · subst e; have := HZ.out; omega
            · exact HP.out j (by omega)
          case measure => have := HKT.out; simp [intOf]; omega
      · have hkn : k = n := by have := HK.out; omega
        subst hkn
        have HG : Aside0 (¬ badL b xs) := ⟨fun h => by
          rcases h with h | ⟨i, hi, h⟩
          · exact h HBD.out
          · have := HP.out i (by rw [← HN.out]; exact hi); omega⟩
        go_wp2_with (go_at_call 39; refine (search_any (HL.out.below' HB.out) HN.out (Kd.C_below HR.out HB.out) HC.out hl K1.out K2.out HG.out).mono ?_; rintro e w1 ⟨r, rfl, HF, hb⟩; have HB1 := Aside0.mk (below_step HB.out hb); clear hb; have hr1 := HF.out.lo; have hr2 := HF.out.hi)
        · have hr3 : r = 2048 := by omega
          go_ret2
          exact ⟨_, _, rfl, ⟨.inr (.inr ⟨HG.out, rfl, rfl, fun j h1 h2 => HF.out.no j h1 (by omega)⟩)⟩, HB1.out⟩
        · go_ret2
          exact ⟨_, _, rfl, ⟨.inr (.inl ⟨HG.out, hr1, by omega, rfl, HF.out.yes (by omega), HF.out.no⟩)⟩, HB1.out⟩
end Go.Proofs.YtacoekniljimoaaDoor.Res
