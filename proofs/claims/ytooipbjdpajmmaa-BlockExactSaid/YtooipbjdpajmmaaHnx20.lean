/- The machine's side of laws of the seat Ytooipbjdpajmmaa, printed by a program of this session over the kit's printer: functions of the Go program as Lean functions, each with a proof that the call computes it. Conditions: none beyond each theorem's own. -/
import Derived.Test.YtooipbjdpajmmaaHnx0
namespace Go.Proofs.Ytooipbjdpajmmaa.Hn
open Go.RowKit Go.Proofs.YtooipbjdpajmmaaW.PrintWords Go.Proofs.YtooipbjdpajmmaaW.PrintLast Go.Proofs.YtooipbjdpajmmaaW.PrintMore
attribute [local go_sem] max2_int min2_int max_two min_two max_three min_three max_four min_four   -- for this text's walks alone
set_option linter.unusedVariables false
set_option linter.unusedSimpArgs false

/-! ### block_Layout: function 30 (by hand) -/
/-- The blocks of frames. -/
def layB (l : List Bool) : List Int := l.flatMap fun b => if b then List.replicate 8 16 else [128]
theorem layB_take (l : List Bool) (k : Nat) (h : k < l.length) : layB (l.take (k + 1)) = layB (l.take k) ++ (if rdOf false l (k : Int) = true then List.replicate 8 16 else [128]) := by
  unfold layB
  rw [List.take_succ_eq_append_getElem h, List.flatMap_append]
  congr 1
  have : rdOf false l (k : Int) = l[k] := by unfold rdOf; simp [List.getD_eq_getElem?_getD, h]
  rw [this]
  simp
theorem layB_le (l : List Bool) : (layB l).length ≤ 8 * l.length := by
  unfold layB
  induction l with
  | nil => simp
  | cons b l ih => 
    rw [List.flatMap_cons, List.length_append, List.length_cons]
    cases b
    · rw [if_neg (by simp)]; simp only [List.length_singleton]; omega
    · rw [if_pos rfl, List.length_replicate]; omega
theorem layB_takele (l : List Bool) (k : Nat) (h : l.length ≤ 64) : (layB (l.take k)).length ≤ 512 := by
  have := layB_le (l.take k)
  have := List.length_take_le' k l
  omega
def block_Layout.f (l0 : List Bool) : Option (List Int × Int) := if 64 < l0.length then some ([], 2) else some (layB l0, 0)
set_option maxHeartbeats 8000000 in
set_option maxRecDepth 100000 in
theorem block_Layout.calls (A0 : Option Addr) (c0 : Nat) (l0 : List Bool) (r1 : List Int) (r2 : Int) (w : World) (hr0 : Kd.C Kd.bool w A0 l0.length l0) (hc0 : l0.length ≤ c0) (h : block_Layout.f l0 = some (r1, r2)) :
    Calls Try.prog 30 #[.slice A0 l0.length c0] w fun e w' => ∃ v0_ : Value, e = .returned (.tuple #[v0_, .int .i64 r2]) ∧ Kd.R (Kd.int .i64) 3 w' w.heap.size (fun _ => True) v0_ r1 ∧ Below w.heap.size w w' := by
  have HR := Aside0.mk hr0
  clear hr0 hc0
  unfold block_Layout.f at h
  by_cases hl : 64 < l0.length
  · rw [if_pos hl] at h
    simp only [Option.some.injEq, Prod.mk.injEq] at h
    obtain ⟨rfl, rfl⟩ := h
    have hd0 : decide (64 < l0.length) = true := decide_eq_true hl
    have hd1 : decide ((64 : Int) < (l0.length : Int)) = true := decide_eq_true (by omega)
    clear hl
    go_enter Try.func30, Try.ntmps30
    go_wp2
    go_step3
    go_wp2
    rw [Exit.noGoto_ret]
    go_ret2
    exact ⟨_, rfl, Kd.R_nil _ _ _ _ _, Below.refl _ _⟩
  · rw [if_neg hl] at h
    simp only [Option.some.injEq, Prod.mk.injEq] at h
    obtain ⟨rfl, rfl⟩ := h
    have hd0 : decide (64 < l0.length) = false := decide_eq_false hl
    have hd1 : decide ((64 : Int) < (l0.length : Int)) = false := decide_eq_false (by omega)
    have HL := Aside0.mk (show l0.length ≤ 64 by omega)
    clear hl
    go_enter Try.func30, Try.ntmps30
    go_wp2
    go_step3
    go_wp2
    go_step3
    go_wp2
    go_loopw [4, 12] (fun v x wr => ∃ k : Nat, x = .int .i64 k ∧ Aside0 (k ≤ l0.length) ∧ Aside0 (Kd.R (Kd.int .i64) 3 wr w.heap.size (fun _ => True) v (layB (l0.take k))) ∧ Aside0 (Below w.heap.size w wr)) (fun _ x _ => l0.length - (intOf x).toNat)
    case atStart => exact ⟨0, rfl, ⟨Nat.zero_le _⟩, ⟨Kd.R_nil _ _ _ _ _⟩, ⟨Below.refl _ _⟩⟩
    case round =>
      obtain ⟨k, rfl, HK, HO, HB⟩ := hrel
      by_cases hlt : k < l0.length
      · have p0 : 0 ≤ (k : Int) := by omega
        have q0 : (k : Int) < (l0.length : Int) := by omega
        obtain ⟨ad, e, hx⟩ := Kd.at_bool HR.out (k : Int) p0 q0
        subst e
        replace hx := pw_cell_below HB.out hx
        simp only [Int.toNat_natCast] at hx
        have HLT := Aside0.mk hlt
        have HLN := Aside0.mk (layB_takele l0 k HL.out)
        have HST := Aside0.mk (layB_take l0 k hlt)
        have hd2 : decide (k < l0.length) = true := decide_eq_true hlt
        have hk64 : k < 64 := by have := HL.out; omega
        clear p0 q0
        cases hbv : rdOf false l0 (k : Int) with
        | false =>
          have HBV := Aside0.mk hbv
          rw [hbv] at hx
          clear hbv
          go_wp2_with (((with_reducible refine gate_builtin (b := .append) (xs := #[.tmp 18, .tmp 19]) rfl ?_); at_builtin; refine Kd.R_append (Kd.int .i64) (w0 := w) w.heap.size rfl (.tmp 18) (.tmp 19) 22 3 (.int .i64 0) 8 rfl Try.underlying22 info3 rfl (by decide) (by omega) _ (layB (l0.take k)) 128 [.int .i64 128] (fun _ => True) (fun _ => False) rfl rfl ?aP (fun _ hk => hk.elim) (fun _ _ => trivial) ?aO ?aB ?aS ?aL ?_; (case aP => exact rfl); (case aO => exact HO.out); (case aB => exact HB.out); (case aS => exact HB.out.size); (case aL => have h1 := HLN.out; omega); intro v1 w1 ho hb1 hg hat; have HO1 := Aside0.mk ho; have HB1 := Aside0.mk hb1; clear ho hb1 hg hat))
          go_roundw
          case rel => exact ⟨k + 1, by go_num, ⟨HLT.out⟩, ⟨by rw [HST.out, HBV.out, if_neg (by simp)]; exact HO1.out⟩, HB1⟩
          case measure => have := HLT.out; simp [intOf]; omega
        | true =>
          have HBV := Aside0.mk hbv
          rw [hbv] at hx
          clear hbv
          go_wp2
          go_loopw [4, 21] (fun v x wr => ∃ j : Nat, x = .int .i64 j ∧ Aside0 (j ≤ 8) ∧ Aside0 (Kd.R (Kd.int .i64) 3 wr w.heap.size (fun _ => True) v (layB (l0.take k) ++ List.replicate j 16)) ∧ Aside0 (Below w.heap.size w wr)) (fun _ x _ => 8 - (intOf x).toNat)
          case atStart => exact ⟨0, rfl, ⟨Nat.zero_le _⟩, ⟨by rw [List.replicate_zero, List.append_nil]; exact HO.out⟩, HB⟩
          case round =>
            obtain ⟨j, rfl, HJ, HOj, HBj⟩ := hrel
            by_cases hj : j < 8
            · have HJT := Aside0.mk hj
              have hd3 : decide ((j : Int) < 8) = true := decide_eq_true (by omega)
              go_wp2_with (((with_reducible refine gate_builtin (b := .append) (xs := #[.tmp 23, .tmp 24]) rfl ?_); at_builtin; refine Kd.R_append (Kd.int .i64) (w0 := w) w.heap.size rfl (.tmp 23) (.tmp 24) 22 3 (.int .i64 0) 8 rfl Try.underlying22 info3 rfl (by decide) (by omega) _ (layB (l0.take k) ++ List.replicate j 16) 16 [.int .i64 16] (fun _ => True) (fun _ => False) rfl rfl ?aP (fun _ hk => hk.elim) (fun _ _ => trivial) ?aO ?aB ?aS ?aL ?_; (case aP => exact rfl); (case aO => exact HOj.out); (case aB => exact HBj.out); (case aS => exact HBj.out.size); (case aL => have h1 := HLN.out; have h2 := HJ.out; rw [List.length_append, List.length_replicate]; omega); intro v1 w1 ho hb1 hg hat; have HO1 := Aside0.mk ho; have HB1 := Aside0.mk hb1; clear ho hb1 hg hat))
              go_roundw
              case rel => exact ⟨j + 1, by go_num, ⟨HJT.out⟩, ⟨by rw [List.replicate_succ', ← List.append_assoc]; exact HO1.out⟩, HB1⟩
              case measure => have := HJT.out; simp [intOf]; omega
            · have hd3 : decide ((j : Int) < 8) = false := decide_eq_false (by omega)
              obtain rfl : j = 8 := by have := HJ.out; omega
              go_wp2
              go_roundw
              case rel => exact ⟨k + 1, by go_num, ⟨HLT.out⟩, ⟨by rw [HST.out, HBV.out, if_pos rfl]; exact HOj.out⟩, HBj⟩
              case measure => have := HLT.out; simp [intOf]; omega
      · have hd2 : decide (k < l0.length) = false := decide_eq_false hlt
        obtain rfl : k = l0.length := by have := HK.out; omega
        clear hlt HK
        go_wp2
        rw [Exit.noGoto_ret]
        go_ret2
        exact ⟨_, rfl, by have := HO.out; rw [List.take_length] at this; exact this, HB.out⟩

-- NOT PRINTED: function 54 (block_each_bool_bool)

/-! ### block_Either: function 32 (by hand) -/
/-- Is frame i short by a or by b. -/
def eitherB (l m : List Bool) (i : Nat) : Bool := rdOf false l (i : Int) || rdOf false m (i : Int)
set_option maxHeartbeats 4000000 in
theorem either1_calls (A A' : Option Addr) (c c' b b' : Nat) (l m : List Bool) (i : Nat) (w : World) (hr : Kd.C Kd.bool w A l.length l) (hr' : Kd.C Kd.bool w A' l.length m) (hb : w.cell? ⟨b, 0, none⟩ = some (.slice A l.length c)) (hb' : w.cell? ⟨b', 0, none⟩ = some (.slice A' l.length c')) (hi : i < l.length) :
    Calls Try.prog 55 #[.int .i64 (i : Int), .pointer (some ⟨b, 0, none⟩), .pointer (some ⟨b', 0, none⟩)] w fun e w' => e = .returned (.bool (eitherB l m i)) ∧ Drawn0 w w' := by
  have p0 : 0 ≤ (i : Int) := by omega
  have q0 : (i : Int) < (l.length : Int) := by omega
  obtain ⟨ad, rfl, hx⟩ := Kd.at_bool hr (i : Int) p0 q0
  obtain ⟨ad', rfl, hx'⟩ := Kd.at_bool hr' (i : Int) p0 q0
  have hd : decide (i < l.length) = true := decide_eq_true hi
  have hd' : decide ((i : Int) < (l.length : Int)) = true := decide_eq_true q0
  simp only [Int.toNat_natCast] at hx hx'
  unfold eitherB
  generalize rdOf false l (i : Int) = x at *
  generalize rdOf false m (i : Int) = y at *
  clear hr hr' p0 q0
  cases x
  · go_enter Try.func55, Try.ntmps55
    go_wp2
    go_ret
    exact ⟨by simp, Drawn0.refl _⟩
  · go_enter Try.func55, Try.ntmps55
    go_wp2
    go_ret
    exact ⟨by simp, Drawn0.refl _⟩
set_option maxHeartbeats 4000000 in
set_option maxRecDepth 100000 in
theorem either_each (A A' : Option Addr) (c c' b b' : Nat) (l m : List Bool) (w : World) (hr : Kd.C Kd.bool w A l.length l) (hr' : Kd.C Kd.bool w A' l.length m) (hb : w.cell? ⟨b, 0, none⟩ = some (.slice A l.length c)) (hb' : w.cell? ⟨b', 0, none⟩ = some (.slice A' l.length c')) (hl : l.length ≤ 64) :
    Calls Try.prog 54 #[.slice A l.length c, .func (.func 55) #[] #[.pointer (some ⟨b, 0, none⟩), .pointer (some ⟨b', 0, none⟩)]] w fun e w' =>
      ∃ v0_ : Value, e = .returned v0_ ∧ Kd.R Kd.bool 4 w' w.heap.size (fun _ => True) v0_ ((List.range l.length).map (eitherB l m)) ∧ Below w.heap.size w w' := by
  have HR := Aside0.mk hr
  have HR' := Aside0.mk hr'
  have HL := Aside0.mk hl
  have HC0 := Aside0.mk hb
  have HC0' := Aside0.mk hb'
  have hbl := World.block_lt_of_cell? w _ hb
  have hbl' := World.block_lt_of_cell? w _ hb'
  simp only at hbl hbl'
  have HBL := Aside0.mk hbl
  have HBL' := Aside0.mk hbl'
  clear hr hb hbl hr' hb' hbl'
  go_enter Try.func54, Try.ntmps54
  go_wp2
  go_loopw [5, 9] (fun v x wr => ∃ k : Nat, x = .int .i64 k ∧ Aside0 (k ≤ l.length) ∧ Aside0 (Kd.R Kd.bool 4 wr w.heap.size (fun _ => True) v ((List.range k).map (eitherB l m))) ∧ Aside0 (Below w.heap.size w wr)) (fun _ x _ => l.length - (intOf x).toNat)
  case atStart => exact ⟨0, rfl, ⟨Nat.zero_le _⟩, ⟨Kd.R_nil _ _ _ _ _⟩, ⟨Below.refl _ _⟩⟩
  case round =>
    obtain ⟨k, rfl, HK, HO, HB⟩ := hrel
    by_cases hlt : k < l.length
    · have HLT := Aside0.mk hlt
      have hd0 : decide (k < l.length) = true := decide_eq_true hlt
      have hk64 : k < 64 := by omega
      clear hlt
      have HCELL := Aside0.mk ((HB.out.cell (p := ⟨b, 0, none⟩) HBL.out).trans HC0.out)
      have HCELL' := Aside0.mk ((HB.out.cell (p := ⟨b', 0, none⟩) HBL'.out).trans HC0'.out)
      go_wp2_with (first | (go_at_call 55; refine (either1_calls A A' c c' b b' l m k _ (Kd.C_below HR.out (by first | exact HB.out | exact HB.out.drew)) (Kd.C_below HR'.out (by first | exact HB.out | exact HB.out.drew)) HCELL.out HCELL'.out HLT.out).mono ?_; rintro e w1 ⟨rfl, ⟨nd, rfl⟩⟩) | ((with_reducible refine gate_builtin (b := .append) (xs := #[.tmp 12, .tmp 16]) rfl ?_); at_builtin; refine Kd.R_append Kd.bool (w0 := w) w.heap.size rfl (.tmp 12) (.tmp 16) 29 4 (.bool false) 1 rfl Try.underlying29 info4 rfl (by decide) (by omega) _ ((List.range k).map (eitherB l m)) (eitherB l m k) [.bool (eitherB l m k)] (fun _ => True) (fun _ => False) rfl rfl ?aP (fun _ hk => hk.elim) (fun _ _ => trivial) ?aO ?aB ?aS ?aL ?_; (case aP => exact rfl); (case aO => exact HO.out); (case aB => exact pw_below_drewN HB.out _); (case aS => exact HB.out.size); (case aL => have h1 := HK.out; have h2 := HL.out; rw [List.length_map, List.length_range]; omega); intro v1 w1 ho hb1 hg hat; have HO1 := Aside0.mk ho; have HB1 := Aside0.mk hb1; clear ho hb1 hg hat))
      go_roundw
      case rel => exact ⟨k + 1, by go_num, ⟨HLT.out⟩, ⟨by rw [List.range_succ, List.map_append]; exact HO1.out⟩, HB1⟩
      case measure => have := HLT.out; simp [intOf]; omega
    · have hd0 : decide (k < l.length) = false := decide_eq_false hlt
      obtain rfl : k = l.length := by have := HK.out; omega
      clear hlt
      go_wp2
      go_ret
      exact ⟨_, rfl, HO.out, HB.out⟩
def block_Either.f (l0 l1 : List Bool) : Option (List Bool × Int) := if 64 < l0.length ∨ 64 < l1.length then some ([], 2) else if l0.length = l1.length then some ((List.range l0.length).map (eitherB l0 l1), 0) else some ([], 4)
set_option maxHeartbeats 4000000 in
theorem block_Either.calls (A0 : Option Addr) (c0 : Nat) (l0 : List Bool) (A1 : Option Addr) (c1 : Nat) (l1 : List Bool) (r1 : List Bool) (r2 : Int) (w : World) (hr0 : Kd.C Kd.bool w A0 l0.length l0) (hc0 : l0.length ≤ c0) (hr1 : Kd.C Kd.bool w A1 l1.length l1) (hc1 : l1.length ≤ c1) (h : block_Either.f l0 l1 = some (r1, r2)) :
    Calls Try.prog 32 #[.slice A0 l0.length c0, .slice A1 l1.length c1] w fun e w' => ∃ v0_ : Value, e = .returned (.tuple #[v0_, .int .i64 r2]) ∧ Kd.R Kd.bool 4 w' w.heap.size (fun _ => True) v0_ r1 ∧ Below w.heap.size w w' := by
  have HR := Aside0.mk hr0
  have HR1 := Aside0.mk hr1
  clear hr0 hc0 hr1 hc1
  unfold block_Either.f at h
  by_cases hm : l0.length < l1.length
  · have hne : l0.length ≠ l1.length := by omega
    by_cases hl : 64 < l1.length
    · rw [if_pos (Or.inr hl)] at h
      simp only [Option.some.injEq, Prod.mk.injEq] at h
      obtain ⟨rfl, rfl⟩ := h
      have hd1 : decide ((64 : Int) < (l1.length : Int)) = true := decide_eq_true (by omega)
      clear hl hne
      go_enter Try.func32, Try.ntmps32
      go_wp2
      go_ret2
      exact ⟨_, rfl, Kd.R_nil _ _ _ _ _, below_alloc (below_alloc (Below.refl _ _) _) _⟩
    · rw [if_neg (by omega), if_neg hne] at h
      simp only [Option.some.injEq, Prod.mk.injEq] at h
      obtain ⟨rfl, rfl⟩ := h
      have hd1 : decide ((64 : Int) < (l1.length : Int)) = false := decide_eq_false (by omega)
      have he0 : ((l0.length : Int) != (l1.length : Int)) = true := bne_iff_ne.mpr (by omega)
      have he1 : (l0.length != l1.length) = true := bne_iff_ne.mpr hne
      clear hl hne
      go_enter Try.func32, Try.ntmps32
      go_wp2
      go_ret2
      exact ⟨_, rfl, Kd.R_nil _ _ _ _ _, below_alloc (below_alloc (Below.refl _ _) _) _⟩
  · by_cases hl : 64 < l0.length
    · rw [if_pos (Or.inl hl)] at h
      simp only [Option.some.injEq, Prod.mk.injEq] at h
      obtain ⟨rfl, rfl⟩ := h
      have hd1 : decide ((64 : Int) < (l0.length : Int)) = true := decide_eq_true (by omega)
      clear hl
      go_enter Try.func32, Try.ntmps32
      go_wp2
      go_ret2
      exact ⟨_, rfl, Kd.R_nil _ _ _ _ _, below_alloc (below_alloc (Below.refl _ _) _) _⟩
    · rw [if_neg (by omega)] at h
      have hd1 : decide ((64 : Int) < (l0.length : Int)) = false := decide_eq_false (by omega)
      by_cases he : l0.length = l1.length
      · rw [if_pos he] at h
        simp only [Option.some.injEq, Prod.mk.injEq] at h
        obtain ⟨rfl, rfl⟩ := h
        have HL := Aside0.mk (show l0.length ≤ 64 by omega)
        have he0 : ((l0.length : Int) != (l1.length : Int)) = false := bne_eq_false_iff_eq.mpr (by omega)
        have he1 : (l0.length != l1.length) = false := bne_eq_false_iff_eq.mpr he
        have HE := Aside0.mk he
        clear hl he
        go_enter Try.func32, Try.ntmps32
        go_wp2_with (go_at_call 54; refine (either_each A0 A1 c0 c1 w.heap.size (w.heap.size + 1) l0 l1 _ (Kd.C_below HR.out (below_alloc (below_alloc (Below.refl _ _) _) _)) (by rw [HE.out]; exact Kd.C_below HR1.out (below_alloc (below_alloc (Below.refl _ _) _) _)) (by simp) (by rw [HE.out]; simp) HL.out).mono ?_; rintro e w1 ⟨v0, rfl, ho, hb⟩; have HO := Aside0.mk ho; have HB := Aside0.mk hb; clear ho hb)
        go_ret2
        exact ⟨_, rfl, Kd.R_lower HO.out (by simp; omega), (below_alloc (below_alloc (Below.refl _ _) _) _).trans (HB.out.mono (by simp; omega))⟩
      · rw [if_neg he] at h
        simp only [Option.some.injEq, Prod.mk.injEq] at h
        obtain ⟨rfl, rfl⟩ := h
        have he0 : ((l0.length : Int) != (l1.length : Int)) = true := bne_iff_ne.mpr (by omega)
        have he1 : (l0.length != l1.length) = true := bne_iff_ne.mpr he
        clear hl he
        go_enter Try.func32, Try.ntmps32
        go_wp2
        go_ret2
        exact ⟨_, rfl, Kd.R_nil _ _ _ _ _, below_alloc (below_alloc (Below.refl _ _) _) _⟩

end Go.Proofs.Ytooipbjdpajmmaa.Hn
