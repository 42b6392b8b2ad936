/- Chapter 23: the comparisons of rows (Same, Ints), where the rows are the same. Conditions: none beyond each theorem's own. -/
import Derived.Test.YtacoekniljimoaaDoorPO
namespace Go.Proofs.YtacoekniljimoaaDoor.Res
open Go.RowKit Go.Proofs.YtacoekniljimoaaDoorW.PrintWords Go.Proofs.YtacoekniljimoaaDoorW.PrintLast Go.Proofs.YtacoekniljimoaaDoorW.PrintMore
set_option linter.unusedVariables false
set_option linter.unusedSimpArgs false
set_option maxRecDepth 100000 in
set_option maxHeartbeats 4000000 in
theorem same_true {A A' : Option Addr} {n c c' : Nat} {xs : List Int} {w : World} (h : Kd.C (Kd.int .u8) w A n xs) (h' : Kd.C (Kd.int .u8) w A' n xs) (hn : n ≤ 1000000) :
    Calls Tryd.prog 22 #[.slice A n c, .slice A' n c'] w fun e w' => e = .returned (.bool true) ∧ Below w.heap.size w w' := by
  have H := Aside0.mk h
  have H' := Aside0.mk h'
  clear h h'
  go_enter Tryd.func22, Tryd.ntmps22
  go_wp2
  go_loopw [13] (fun i wr => ∃ k : Nat, i = .int .i64 (k : Int) ∧ Aside0 (k ≤ n) ∧ Aside0 (Below w.heap.size w wr)) (fun i _ => n - (intOf i).toNat)
  case atStart => exact ⟨0, rfl, ⟨by omega⟩, ⟨Below.refl _ _⟩⟩
  case round =>
    obtain ⟨k, rfl, HK, HB⟩ := hrel
    by_cases hk : k < n
    · have HKT := Aside0.mk hk
      have hk1 : (k : Int) < (n : Int) := by omega
      have hk0 : (0 : Int) ≤ (k : Int) := by omega
      obtain ⟨ad, rfl, hx⟩ := Kd.at_int (Kd.C_below H.out HB.out) (k : Int) (by omega) (by omega)
      obtain ⟨ad', rfl, hx'⟩ := Kd.at_int (Kd.C_below H'.out HB.out) (k : Int) (by omega) (by omega)
      rw [Int.toNat_natCast] at hx hx'
      obtain ⟨y, hy⟩ : ∃ y, y = rd xs (k : Int) := ⟨_, rfl⟩
      rw [← hy] at hx hx'
      clear hk hy
      go_wp2
      go_quiet ((skip))
      go_wp2
      go_roundw
      case rel => exact ⟨k + 1, by go_num, ⟨HKT.out⟩, ⟨pw_below_drewN HB.out _⟩⟩
      case measure => have := HKT.out; simp [intOf]; omega
    · have hkn : k = n := by have := HK.out; omega
      subst hkn
      go_wp2
      go_ret
      exact ⟨rfl, HB.out⟩
set_option maxRecDepth 100000 in
set_option maxHeartbeats 4000000 in
theorem ints_true {A A' : Option Addr} {n c c' : Nat} {xs : List Int} {w : World} (h : Kd.C (Kd.int .i64) w A n xs) (h' : Kd.C (Kd.int .i64) w A' n xs) (hn : n ≤ 1000000) :
    Calls Tryd.prog 15 #[.slice A n c, .slice A' n c'] w fun e w' => e = .returned (.bool true) ∧ Below w.heap.size w w' := by
  have H := Aside0.mk h
  have H' := Aside0.mk h'
  clear h h'
  go_enter Tryd.func15, Tryd.ntmps15
  go_wp2
  go_loopw [13] (fun i wr => ∃ k : Nat, i = .int .i64 (k : Int) ∧ Aside0 (k ≤ n) ∧ Aside0 (Below w.heap.size w wr)) (fun i _ => n - (intOf i).toNat)
  case atStart => exact ⟨0, rfl, ⟨by omega⟩, ⟨Below.refl _ _⟩⟩
  case round =>
    obtain ⟨k, rfl, HK, HB⟩ := hrel
    by_cases hk : k < n
    · have HKT := Aside0.mk hk
      have hk1 : (k : Int) < (n : Int) := by omega
      have hk0 : (0 : Int) ≤ (k : Int) := by omega
      obtain ⟨ad, rfl, hx⟩ := Kd.at_int (Kd.C_below H.out HB.out) (k : Int) (by omega) (by omega)
      obtain ⟨ad', rfl, hx'⟩ := Kd.at_int (Kd.C_below H'.out HB.out) (k : Int) (by omega) (by omega)
      rw [Int.toNat_natCast] at hx hx'
      obtain ⟨y, hy⟩ : ∃ y, y = rd xs (k : Int) := ⟨_, rfl⟩
      rw [← hy] at hx hx'
      clear hk hy
      go_wp2
      go_quiet ((skip))
      go_wp2
      go_roundw
      case rel => exact ⟨k + 1, by go_num, ⟨HKT.out⟩, ⟨pw_below_drewN HB.out _⟩⟩
      case measure => have := HKT.out; simp [intOf]; omega
    · have hkn : k = n := by have := HK.out; omega
      subst hkn
      go_wp2
      go_ret
      exact ⟨rfl, HB.out⟩
end Go.Proofs.YtacoekniljimoaaDoor.Res
