/- The machine's side of laws of the seat Ytooipbjdpajmmaa, printed by a program of this session over the kit's printer: functions of the Go program as Lean functions, each with a proof that the call computes it. Conditions: none beyond each theorem's own. -/
import Derived.Test.YtooipbjdpajmmaaHnx0
import Derived.Test.YtooipbjdpajmmaaHnx6
import Derived.Test.YtooipbjdpajmmaaHnx13
namespace Go.Proofs.Ytooipbjdpajmmaa.Hn
open Go.RowKit Go.Proofs.YtooipbjdpajmmaaW.PrintWords Go.Proofs.YtooipbjdpajmmaaW.PrintLast Go.Proofs.YtooipbjdpajmmaaW.PrintMore
attribute [local go_sem] max2_int min2_int max_two min_two max_three min_three max_four min_four   -- for this text's walks alone
set_option linter.unusedVariables false
set_option linter.unusedSimpArgs false

/-! ### block_Of: function 24 (by hand) -/
def okB (x : Int) : Bool := decide (0 ≤ x) && decide (x ≤ 4)
def shortB (l : List Int) (i : Nat) : Bool := rd l (i : Int) == 2
set_option maxHeartbeats 4000000 in
theorem of1_calls (A : Option Addr) (c b : Nat) (l : List Int) (i : Nat) (w : World) (hr : Kd.C (Kd.int .i64) w A l.length l) (hb : w.cell? ⟨b, 0, none⟩ = some (.slice A l.length c)) (hi : i < l.length) :
    Calls Try.prog 47 #[.int .i64 (i : Int), .pointer (some ⟨b, 0, none⟩)] w fun e w' => e = .returned (.bool (shortB l i)) ∧ Drawn0 w w' := by
  have p0 : 0 ≤ (i : Int) := by omega
  have q0 : (i : Int) < (l.length : Int) := by omega
  obtain ⟨ad, rfl, hx⟩ := Kd.at_int hr (i : Int) p0 q0
  have hd : decide (i < l.length) = true := decide_eq_true hi
  have hd' : decide ((i : Int) < (l.length : Int)) = true := decide_eq_true q0
  simp only [Int.toNat_natCast] at hx
  unfold shortB
  generalize rd l (i : Int) = x at *
  clear hr p0 q0
  go_enter Try.func47, Try.ntmps47
  go_wp2
  go_ret
  exact ⟨rfl, Drawn0.refl _⟩
/-- The flags of kinds. -/
def flagsOf (l : List Int) : List Bool := (List.range l.length).map (shortB l)
theorem flagsOf_length (l : List Int) : (flagsOf l).length = l.length := by simp [flagsOf]
set_option maxHeartbeats 4000000 in
set_option maxRecDepth 100000 in
theorem of_each (A : Option Addr) (c b : Nat) (l : List Int) (w : World) (hr : Kd.C (Kd.int .i64) w A l.length l) (hb : w.cell? ⟨b, 0, none⟩ = some (.slice A l.length c)) (hl : l.length ≤ 64) :
    Calls Try.prog 46 #[.slice A l.length c, .func (.func 47) #[] #[.pointer (some ⟨b, 0, none⟩)]] w fun e w' =>
      ∃ v0_ : Value, e = .returned v0_ ∧ Kd.R Kd.bool 4 w' w.heap.size (fun _ => True) v0_ (flagsOf l) ∧ Below w.heap.size w w' := by
  have HR := Aside0.mk hr
  have HL := Aside0.mk hl
  have HC0 := Aside0.mk hb
  have hbl := World.block_lt_of_cell? w _ hb
  simp only at hbl
  have HBL := Aside0.mk hbl
  clear hr hb hbl
  go_enter Try.func46, Try.ntmps46
  go_wp2
  go_loopw [5, 9] (fun v x wr => ∃ k : Nat, x = .int .i64 k ∧ Aside0 (k ≤ l.length) ∧ Aside0 (Kd.R Kd.bool 4 wr w.heap.size (fun _ => True) v ((List.range k).map (shortB l))) ∧ Aside0 (Below w.heap.size w wr)) (fun _ x _ => l.length - (intOf x).toNat)
  case atStart => exact ⟨0, rfl, ⟨Nat.zero_le _⟩, ⟨Kd.R_nil _ _ _ _ _⟩, ⟨Below.refl _ _⟩⟩
  case round =>
    obtain ⟨k, rfl, HK, HO, HB⟩ := hrel
    by_cases hlt : k < l.length
    · have HLT := Aside0.mk hlt
      have hd0 : decide (k < l.length) = true := decide_eq_true hlt
      have hk64 : k < 64 := by omega
      clear hlt
      have HCELL := Aside0.mk ((HB.out.cell (p := ⟨b, 0, none⟩) HBL.out).trans HC0.out)
      go_wp2_with (first | (go_at_call 47; refine (of1_calls A c b l k _ (Kd.C_below HR.out (by first | exact HB.out | exact HB.out.drew)) HCELL.out HLT.out).mono ?_; rintro e w1 ⟨rfl, ⟨nd, rfl⟩⟩) | ((with_reducible refine gate_builtin (b := .append) (xs := #[.tmp 12, .tmp 16]) rfl ?_); at_builtin; refine Kd.R_append Kd.bool (w0 := w) w.heap.size rfl (.tmp 12) (.tmp 16) 29 4 (.bool false) 1 rfl Try.underlying29 info4 rfl (by decide) (by omega) _ ((List.range k).map (shortB l)) (shortB l k) [.bool (shortB l k)] (fun _ => True) (fun _ => False) rfl rfl ?aP (fun _ hk => hk.elim) (fun _ _ => trivial) ?aO ?aB ?aS ?aL ?_; (case aP => exact rfl); (case aO => exact HO.out); (case aB => exact pw_below_drewN HB.out _); (case aS => exact HB.out.size); (case aL => have h1 := HK.out; have h2 := HL.out; rw [List.length_map, List.length_range]; omega); intro v1 w1 ho hb1 hg hat; have HO1 := Aside0.mk ho; have HB1 := Aside0.mk hb1; clear ho hb1 hg hat))
      go_roundw
      case rel => exact ⟨k + 1, by go_num, ⟨HLT.out⟩, ⟨by rw [List.range_succ, List.map_append]; exact HO1.out⟩, HB1⟩
      case measure => have := HLT.out; simp [intOf]; omega
    · have hd0 : decide (k < l.length) = false := decide_eq_false hlt
      obtain rfl : k = l.length := by have := HK.out; omega
      clear hlt
      go_wp2
      go_ret
      exact ⟨_, rfl, HO.out, HB.out⟩
def kindAll (l : List Int) : Prop := ∀ j, j < l.length → okB (rd l (j : Int)) = true
def rightAll (l : List Int) : Prop := ∀ j, j < l.length → kindB (flagsOf l) j = rd l (j : Int)
instance (l : List Int) : Decidable (kindAll l) := Nat.decidableBallLT l.length (fun j _ => okB (rd l (j : Int)) = true)
instance (l : List Int) : Decidable (rightAll l) := Nat.decidableBallLT l.length (fun j _ => kindB (flagsOf l) j = rd l (j : Int))
def block_Of.f (l0 : List Int) : Option (List Bool × Int) :=
  if 64 < l0.length then some ([], 2) else if kindAll l0 then (if rightAll l0 then some (flagsOf l0, 0) else some ([], 4)) else some ([], 1)
set_option maxHeartbeats 8000000 in
set_option maxRecDepth 100000 in
theorem block_Of.calls (A0 : Option Addr) (c0 : Nat) (l0 : List Int) (r1 : List Bool) (r2 : Int) (w : World) (hr0 : Kd.C (Kd.int .i64) w A0 l0.length l0) (hc0 : l0.length ≤ c0) (h : block_Of.f l0 = some (r1, r2)) :
    Calls Try.prog 24 #[.slice A0 l0.length c0] w fun e w' => ∃ v0_ : Value, e = .returned (.tuple #[v0_, .int .i64 r2]) ∧ Kd.R Kd.bool 4 w' w.heap.size (fun _ => True) v0_ r1 ∧ Below w.heap.size w w' := by
  have HR := Aside0.mk hr0
  clear hr0 hc0
  unfold block_Of.f at h
  by_cases hl : 64 < l0.length
  · rw [if_pos hl] at h
    simp only [Option.some.injEq, Prod.mk.injEq] at h
    obtain ⟨rfl, rfl⟩ := h
    have hd0 : decide (64 < l0.length) = true := decide_eq_true hl
    have hd1 : decide ((64 : Int) < (l0.length : Int)) = true := decide_eq_true (by omega)
    clear hl
    go_enter Try.func24, Try.ntmps24
    go_wp2
    go_ret2
    exact ⟨_, rfl, Kd.R_nil _ _ _ _ _, below_alloc (Below.refl _ _) _⟩
  · rw [if_neg hl] at h
    have hd0 : decide (64 < l0.length) = false := decide_eq_false hl
    have hd1 : decide ((64 : Int) < (l0.length : Int)) = false := decide_eq_false (by omega)
    have HL := Aside0.mk (show l0.length ≤ 64 by omega)
    clear hl
    by_cases hall : kindAll l0
    · rw [if_pos hall] at h
      have HALL := Aside0.mk hall
      have H := Aside0.mk h
      clear h hall
      go_enter Try.func24, Try.ntmps24
      go_wp2
      go_loop [14] (fun i => ∃ k : Nat, i = .int .i64 k ∧ Aside0 (k ≤ l0.length)) (fun i => l0.length - (intOf i).toNat)
      case atStart => exact ⟨0, rfl, ⟨Nat.zero_le _⟩⟩
      case round =>
        obtain ⟨k, rfl, HK⟩ := hrel
        by_cases hlt : k < l0.length
        · have p0 : 0 ≤ (k : Int) := by omega
          have q0 : (k : Int) < (l0.length : Int) := by omega
          obtain ⟨ad, e, hx⟩ := Kd.at_int HR.out (k : Int) p0 q0
          subst e
          replace hx := pw_cell_below (below_alloc (Below.refl _ _) (.cells #[.slice (some ad) l0.length c0] 22)) hx
          simp only [Int.toNat_natCast] at hx
          have hok := HALL.out k hlt
          unfold okB at hok
          rw [Bool.and_eq_true, decide_eq_true_eq, decide_eq_true_eq] at hok
          have hda : decide (rd l0 (k : Int) < 0) = false := decide_eq_false (by omega)
          have hdb : decide (4 < rd l0 (k : Int)) = false := decide_eq_false (by omega)
          have HLT := Aside0.mk hlt
          have hd2 : decide (k < l0.length) = true := decide_eq_true hlt
          have hk64 : k < 64 := by have := HL.out; omega
          clear p0 q0 hok
          go_wp2
          go_round
          case rel => exact ⟨k + 1, by go_num, ⟨HLT.out⟩⟩
          case measure => have := HLT.out; simp [intOf]; omega
        · have hd2 : decide (k < l0.length) = false := decide_eq_false hlt
          obtain rfl : k = l0.length := by have := HK.out; omega
          clear hlt HK
          go_wp2_with (go_at_call 46; refine (of_each A0 c0 w.heap.size l0 _ (Kd.C_below HR.out (below_alloc (Below.refl _ _) _)) (by simp) HL.out).mono ?_; rintro e w1 ⟨v0, rfl, ho, hb⟩; have HO := Aside0.mk ho; have HB := Aside0.mk hb; have hcb : w1.cell? ⟨w.heap.size, 0, none⟩ = some (.slice A0 l0.length c0) := (hb.cell (p := ⟨w.heap.size, 0, none⟩) (by simp)).trans (by simp); clear ho hb)
          obtain ⟨Af, cf, rfl, hcf, hrf⟩ := Kd.R_reads HO.out
          have HRF := Aside0.mk hrf
          have HCF := Aside0.mk hcf
          clear hrf hcf
          go_loopw [30] (fun i wr => ∃ k : Nat, i = .int .i64 k ∧ Aside0 (k ≤ l0.length) ∧ Aside0 (∀ j, j < k → kindB (flagsOf l0) j = rd l0 (j : Int)) ∧ Aside0 (Drawn0 w1 wr)) (fun i _ => l0.length - (intOf i).toNat)
          case atStart => exact ⟨0, rfl, ⟨Nat.zero_le _⟩, ⟨fun j hj => absurd hj (Nat.not_lt_zero j)⟩, ⟨Drawn0.refl _⟩⟩
          case round =>
            obtain ⟨k, rfl, HK, HALLK, HD⟩ := hrel
            by_cases hlt : k < l0.length
            · have p0 : 0 ≤ (k : Int) := by omega
              have q0 : (k : Int) < (l0.length : Int) := by omega
              obtain ⟨ad, e, hx⟩ := Kd.at_int HR.out (k : Int) p0 q0
              subst e
              have hx1 := ((HB.out.cell (by have := World.block_lt_of_cell? w _ hx; simp at this ⊢; omega)).trans (pw_cell_below (below_alloc (Below.refl _ _) (.cells #[.slice (some ad) l0.length c0] 22)) hx))
              have hx2 := pw_cell_below HD.out.below hx1
              simp only [Int.toNat_natCast] at hx2
              clear hx hx1
              have HLT := Aside0.mk hlt
              have hd2 : decide (k < l0.length) = true := decide_eq_true hlt
              have hk64 : k < 64 := by have := HL.out; omega
              clear p0 q0
              by_cases hke : kindB (flagsOf l0) k = rd l0 (k : Int)
              · have HKE := Aside0.mk hke
                have hbn : (kindB (flagsOf l0) k != rd l0 (k : Int)) = false := bne_eq_false_iff_eq.mpr hke
                clear hke
                go_wp2_with (go_at_call 48; refine (block_kind.calls 1 Af cf (flagsOf l0) (k : Int) _ _ (Kd.C_below HRF.out HD.out.below) HCF.out (kind_tells (flagsOf l0) k (by rw [flagsOf_length]; exact HLT.out) (by rw [flagsOf_length]; have := HL.out; omega))).mono ?_; rintro e w2 ⟨rfl, ⟨nd, rfl⟩⟩)
                go_roundw
                case rel => exact ⟨k + 1, by go_num, ⟨HLT.out⟩, ⟨fun j hj => by by_cases hjk : j = k; subst hjk; exact HKE.out; exact HALLK.out j (by omega)⟩, ⟨Drawn0.step HD.out _⟩⟩
                case measure => have := HLT.out; simp [intOf]; omega
              · have HKE := Aside0.mk hke
                have hbn : (kindB (flagsOf l0) k != rd l0 (k : Int)) = true := bne_iff_ne.mpr hke
                clear hke
                go_wp2_with (go_at_call 48; refine (block_kind.calls 1 Af cf (flagsOf l0) (k : Int) _ _ (Kd.C_below HRF.out HD.out.below) HCF.out (kind_tells (flagsOf l0) k (by rw [flagsOf_length]; exact HLT.out) (by rw [flagsOf_length]; have := HL.out; omega))).mono ?_; rintro e w2 ⟨rfl, ⟨nd, rfl⟩⟩)
                have h := H.out
                rw [if_neg (show ¬ rightAll l0 from fun hr => HKE.out (hr k HLT.out))] at h
                simp only [Option.some.injEq, Prod.mk.injEq] at h
                obtain ⟨rfl, rfl⟩ := h
                go_ret2
                exact ⟨_, rfl, Kd.R_nil _ _ _ _ _, pw_below_drewN ((below_step (below_alloc (Below.refl _ _) _) HB.out).trans (HD.out.below.mono (Nat.le_trans (by simp) HB.out.size))) _⟩
            · have hd2 : decide (k < l0.length) = false := decide_eq_false hlt
              obtain rfl : k = l0.length := by have := HK.out; omega
              clear hlt HK
              have h := H.out
              rw [if_pos (show rightAll l0 from fun j hj => HALLK.out j hj)] at h
              simp only [Option.some.injEq, Prod.mk.injEq] at h
              obtain ⟨rfl, rfl⟩ := h
              go_wp2
              go_ret2
              exact ⟨_, rfl, Kd.R_lower (Kd.R_below HO.out HD.out.below) (by simp), (below_step (below_alloc (Below.refl _ _) _) HB.out).trans (HD.out.below.mono (Nat.le_trans (by simp) HB.out.size))⟩
    · rw [if_neg hall] at h
      simp only [Option.some.injEq, Prod.mk.injEq] at h
      obtain ⟨rfl, rfl⟩ := h
      have HALL := Aside0.mk hall
      clear hall
      go_enter Try.func24, Try.ntmps24
      go_wp2
      go_loop [14] (fun i => ∃ k : Nat, i = .int .i64 k ∧ Aside0 (k ≤ l0.length) ∧ Aside0 (∀ j, j < k → okB (rd l0 (j : Int)) = true)) (fun i => l0.length - (intOf i).toNat)
      case atStart => exact ⟨0, rfl, ⟨Nat.zero_le _⟩, ⟨fun j hj => absurd hj (Nat.not_lt_zero j)⟩⟩
      case round =>
        obtain ⟨k, rfl, HK, HALLK⟩ := hrel
        by_cases hlt : k < l0.length
        · have p0 : 0 ≤ (k : Int) := by omega
          have q0 : (k : Int) < (l0.length : Int) := by omega
          obtain ⟨ad, e, hx⟩ := Kd.at_int HR.out (k : Int) p0 q0
          subst e
          replace hx := pw_cell_below (below_alloc (Below.refl _ _) (.cells #[.slice (some ad) l0.length c0] 22)) hx
          simp only [Int.toNat_natCast] at hx
          have HLT := Aside0.mk hlt
          have hd2 : decide (k < l0.length) = true := decide_eq_true hlt
          have hk64 : k < 64 := by have := HL.out; omega
          clear p0 q0
          by_cases h1 : rd l0 (k : Int) < 0
          · have hda : decide (rd l0 (k : Int) < 0) = true := decide_eq_true h1
            clear h1
            go_wp2
            go_ret2
            exact ⟨_, rfl, Kd.R_nil _ _ _ _ _, below_alloc (Below.refl _ _) _⟩
          · have hda : decide (rd l0 (k : Int) < 0) = false := decide_eq_false h1
            by_cases h2 : 4 < rd l0 (k : Int)
            · have hdb : decide (4 < rd l0 (k : Int)) = true := decide_eq_true h2
              clear h1 h2
              go_wp2
              go_ret2
              exact ⟨_, rfl, Kd.R_nil _ _ _ _ _, below_alloc (Below.refl _ _) _⟩
            · have hdb : decide (4 < rd l0 (k : Int)) = false := decide_eq_false h2
              have HOK := Aside0.mk (show okB (rd l0 (k : Int)) = true by unfold okB; rw [Bool.and_eq_true, decide_eq_true_eq, decide_eq_true_eq]; omega)
              clear h1 h2
              go_wp2
              go_round
              case rel => exact ⟨k + 1, by go_num, ⟨HLT.out⟩, ⟨fun j hj => by by_cases hjk : j = k; subst hjk; exact HOK.out; exact HALLK.out j (by omega)⟩⟩
              case measure => have := HLT.out; simp [intOf]; omega
        · exact absurd (fun j hj => HALLK.out j (by have := HK.out; omega)) HALL.out

end Go.Proofs.Ytooipbjdpajmmaa.Hn
