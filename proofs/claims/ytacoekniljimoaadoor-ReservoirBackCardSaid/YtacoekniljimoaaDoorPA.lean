/- Chapter 23, the pools: what the calls of Open, Kept, Lose, Copy, Add (of the program and of the reference) come to. Conditions: none beyond each theorem's own. -/
import Derived.Test.YtacoekniljimoaaDoorPO
namespace Go.Proofs.YtacoekniljimoaaDoor.Res
open Go.RowKit Go.Proofs.YtacoekniljimoaaDoorW.PrintWords Go.Proofs.YtacoekniljimoaaDoorW.PrintLast Go.Proofs.YtacoekniljimoaaDoorW.PrintMore
attribute [local go_sem] max2_int min2_int max_two min_two
set_option linter.unusedVariables false
set_option linter.unusedSimpArgs false
/-- A pool lies at block q; its bytes are l. -/
structure Pool (w : World) (q : Nat) (A : Option Addr) (c : Nat) (l : List Int) : Prop where
  cell : w.cell? ⟨q, 0, none⟩ = some (.slice A l.length c)
  fz : w.frozen? ⟨q, 0, none⟩ = false
  cap : l.length ≤ c
  row : Kd.C (Kd.int .u8) w A l.length l
  le : l.length ≤ 511
  ne : ∀ ad, A = some ad → 0 < l.length → ad.block ≠ q
theorem Pool.lt {w : World} {q c : Nat} {A : Option Addr} {l : List Int} (h : Pool w q A c l) : q < w.heap.size := World.block_lt_of_cell? w _ h.cell
theorem Pool.rlt {w : World} {q c : Nat} {A : Option Addr} {l : List Int} (h : Pool w q A c l) {ad : Addr} (e : A = some ad) (hn : 0 < l.length) : ad.block < w.heap.size := by
  obtain ⟨ad', e', hc⟩ := (Kd.reads_of_C (d := (0 : Int)) h.row).2.2 hn
  cases e.symm.trans e'
  have := hc 0 hn
  simp only [Addr.add, if_true] at this
  exact World.block_lt_of_cell? w _ this
theorem Pool.of_blocks {w w' : World} {q c : Nat} {A : Option Addr} {l : List Int} (h : Pool w q A c l) (hq : w'.heap[q]? = w.heap[q]?) (hr : ∀ ad, A = some ad → 0 < l.length → w'.heap[ad.block]? = w.heap[ad.block]?) : Pool w' q A c l :=
  ⟨(World.cell?_of_block (w := w) hq).trans h.cell, (World.frozen?_of_block (w := w) hq).trans h.fz, h.cap, C_block h.row hr, h.le, h.ne⟩
theorem Pool.below {w w' : World} {q c : Nat} {A : Option Addr} {l : List Int} (h : Pool w q A c l) (hb : Below w.heap.size w w') : Pool w' q A c l :=
  h.of_blocks (hb.block q h.lt) (fun ad e hn => hb.block _ (h.rlt e hn))
theorem Pool.other {w w' : World} {q p c : Nat} {A : Option Addr} {l : List Int} (h : Pool w q A c l) (u : Upd p w w') (hq : q ≠ p) (hr : ∀ ad, A = some ad → 0 < l.length → ad.block ≠ p) : Pool w' q A c l :=
  h.of_blocks (u.block q h.lt hq) (fun ad e hn => u.block _ (h.rlt e hn) (hr ad e hn))
/-- A row in memory from block B on, not in block q. -/
def NewRow (B q : Nat) (A : Option Addr) (n : Nat) : Prop := ∀ ad, A = some ad → 0 < n → B ≤ ad.block ∧ ad.block ≠ q
theorem Pool.new {w : World} {t : TypeId} {q : Nat} (hq : q = w.heap.size) : Pool (w.alloc (.cells #[.slice none 0 0] t)) q none 0 [] :=
  ⟨by rw [World.cell?_alloc_at _ _ _ _ hq]; rfl, World.frozen?_alloc_at _ _ _ _ hq, Nat.le_refl _, Kd.C_nil _ _, by simp, fun _ e => by cases e⟩
theorem open_any (w : World) : Calls Tryd.prog 20 #[] w fun e w' => ∃ q, e = .returned (.pointer (some ⟨q, 0, none⟩)) ∧ w.heap.size ≤ q ∧ Pool w' q none 0 [] ∧ Below w.heap.size w w' := by
  go_enter Tryd.func20, Tryd.ntmps20
  go_wp2
  go_ret
  exact ⟨_, rfl, Nat.le_refl _, Pool.new rfl, below_alloc (Below.refl _ _) _⟩
theorem ropen_any (w : World) : Calls Tryd.prog 28 #[] w fun e w' => ∃ q, e = .returned (.pointer (some ⟨q, 0, none⟩)) ∧ w.heap.size ≤ q ∧ Pool w' q none 0 [] ∧ Below w.heap.size w w' := by
  go_enter Tryd.func28, Tryd.ntmps28
  go_wp2
  go_ret
  exact ⟨_, rfl, Nat.le_refl _, Pool.new rfl, below_alloc (Below.refl _ _) _⟩
theorem kept_nil (w : World) : Calls Tryd.prog 33 #[.pointer none] w fun e w' => e = .returned (.int .i64 0) ∧ w = w' := by
  go_enter Tryd.func33, Tryd.ntmps33
  go_wp2
  go_ret
  exact ⟨rfl, rfl⟩
theorem lose_nil (w : World) : Calls Tryd.prog 29 #[.pointer none] w fun e w' => (∃ v, e = .returned v) ∧ w = w' := by
  go_enter Tryd.func29, Tryd.ntmps29
  go_wp2
  go_end0
  exact ⟨⟨_, rfl⟩, rfl⟩
theorem pcopy_nil (w : World) : Calls Tryd.prog 31 #[.pointer none] w fun e w' => e = .returned (.pointer none) ∧ w = w' := by
  go_enter Tryd.func31, Tryd.ntmps31
  go_wp2
  go_ret
  exact ⟨rfl, rfl⟩
theorem add_nil (back : Int) (A : Option Addr) (n c : Nat) (w : World) : Calls Tryd.prog 21 #[.pointer none, .int .i64 back, .slice A n c] w fun e w' => e = .returned (.tuple #[.slice none 0 0, .int .i64 1]) ∧ w = w' := by
  go_enter Tryd.func21, Tryd.ntmps21
  go_wp2
  go_ret2
  exact ⟨rfl, rfl⟩
section
variable {w : World} {q c : Nat} {A : Option Addr} {l : List Int}
theorem kept_any (h : Pool w q A c l) : Calls Tryd.prog 33 #[.pointer (some ⟨q, 0, none⟩)] w fun e w' => e = .returned (.int .i64 (l.length : Int)) ∧ w = w' := by
  have hc := h.cell
  clear h
  go_enter Tryd.func33, Tryd.ntmps33
  go_wp2
  go_ret
  exact ⟨rfl, rfl⟩
theorem rkept_any (h : Pool w q A c l) : Calls Tryd.prog 35 #[.pointer (some ⟨q, 0, none⟩)] w fun e w' => e = .returned (.int .i64 (l.length : Int)) ∧ w = w' := by
  have hc := h.cell
  clear h
  go_enter Tryd.func35, Tryd.ntmps35
  go_wp2
  go_ret
  exact ⟨rfl, rfl⟩
theorem Pool.emptied (h : Pool w q A c l) : Pool (w.setCell ⟨q, 0, none⟩ (.slice none 0 0)) q none 0 [] :=
  ⟨World.cell?_setCell_same _ _ _ h.cell, by rw [World.frozen?_setCell]; exact h.fz, Nat.le_refl _, Kd.C_nil _ _, by simp, fun _ e => by cases e⟩
theorem lose_any (h : Pool w q A c l) : Calls Tryd.prog 29 #[.pointer (some ⟨q, 0, none⟩)] w fun e w' => (∃ v, e = .returned v) ∧ Pool w' q none 0 [] ∧ Upd q w w' := by
  have H := Lib.hid h
  have hc := h.cell
  have hf := h.fz
  clear h
  go_enter Tryd.func29, Tryd.ntmps29
  go_wp2
  go_end0
  exact ⟨⟨_, rfl⟩, H.out.emptied, Upd.set w 0 q 0 _⟩
theorem rlose_any (h : Pool w q A c l) : Calls Tryd.prog 30 #[.pointer (some ⟨q, 0, none⟩)] w fun e w' => (∃ v, e = .returned v) ∧ Pool w' q none 0 [] ∧ Upd q w w' := by
  have H := Lib.hid h
  have hc := h.cell
  have hf := h.fz
  clear h
  go_enter Tryd.func30, Tryd.ntmps30
  go_wp2
  go_end0
  exact ⟨⟨_, rfl⟩, H.out.emptied, Upd.set w 0 q 0 _⟩
end
theorem run_fromI (A : Option Addr) (n c : Nat) (j : Int) (h0 : 0 ≤ j) (hk : j ≤ n) (hc : n ≤ c) (W : World) : (Instr.slice 37 (.slice A n c) (some (.int .i64 j)) none none).run Tryd.prog W = .ok (.slice (if c = j.toNat then A else A.map (·.add j.toNat)) (n - j.toNat) (c - j.toNat)) W := by
  obtain ⟨k, rfl⟩ := Int.eq_ofNat_of_zero_le h0
  exact run_from A n c k (by omega) hc W
/-- What is read of a row from element k on. -/
theorem C_from {w : World} {A : Option Addr} {n c k : Nat} {xs : List Int} (h : Kd.C (Kd.int .u8) w A n xs) (hk : k ≤ n) (hc : n ≤ c) : Kd.C (Kd.int .u8) w (if c = k then A else A.map (·.add k)) (n - k) (xs.drop k) := by
  have hl : xs.length = n := h.1
  subst hl
  have := Kd.C_drop (m := k) h hk hc
  rw [List.length_drop] at this
  simpa [Kd.int, Kd.scalar] using this
theorem blk_from {A : Option Addr} {c k : Nat} {ad : Addr} (h : (if c = k then A else A.map (·.add k)) = some ad) : ∃ ad', A = some ad' ∧ ad.block = ad'.block := by
  split at h
  · exact ⟨ad, h, rfl⟩
  · cases A with
    | none => cases h
    | some a =>
      simp only [Option.map_some, Option.some.injEq] at h
      subst h
      refine ⟨a, rfl, ?_⟩
      by_cases k0 : k = 0 <;> simp [Addr.add, k0]
set_option maxHeartbeats 4000000 in
theorem add_bad {back : Int} {Ab : Option Addr} {nb cb : Nat} {q : Nat} {w : World} (hL : Lim w) (h : ¬ (0 ≤ back ∧ back ≤ 511) ∨ 2047 < nb) :
    Calls Tryd.prog 21 #[.pointer (some ⟨q, 0, none⟩), .int .i64 back, .slice Ab nb cb] w fun e w' => e = .returned (.tuple #[.slice none 0 0, .int .i64 6]) ∧ Below w.heap.size w w' := by
  have g2 := hL.c2
  have g3 := hL.c3
  have hp := hL.pos
  clear hL
  by_cases hb : 0 ≤ back ∧ back ≤ 511
  · have hi : inB back 0 511 = true := inB_true hb.1 hb.2
    have hn : 2047 < nb := by rcases h with h | h; exact absurd hb h; exact h
    have hd : decide ((nb : Int) > 2047) = true := decide_eq_true (by omega)
    clear h hb
    go_enter Tryd.func21, Tryd.ntmps21
    go_wp2_with (go_at_call 37; refine (in_any _ _ _ _).mono ?_; rintro e w' ⟨rfl, rfl⟩)
    go_ret2
    exact ⟨rfl, below_alloc (Below.refl _ _) _⟩
  · have hi : inB back 0 511 = false := inB_false hb
    clear h hb
    go_enter Tryd.func21, Tryd.ntmps21
    go_wp2_with (go_at_call 37; refine (in_any _ _ _ _).mono ?_; rintro e w' ⟨rfl, rfl⟩)
    go_ret2
    exact ⟨rfl, below_alloc (Below.refl _ _) _⟩
end Go.Proofs.YtacoekniljimoaaDoor.Res
