/- Chapter 23, the tanks: what the calls of New, Level, Most, Take, Copy (of the program and of the reference) come to. Conditions: none beyond each theorem's own. -/
import Derived.Test.YtacoekniljimoaaDoorProg
import Derived.Test.YtacoekniljimoaaDoorWMore
import Derived.Lib.Hide
import Derived.WalkKit
import Derived.KernelRfl
import Derived.TacticsInMore
import Derived.LoopIn
import Derived.LoopNIn
import Derived.OwnWalkIn
import Derived.RangeFuncNested
import Derived.RangeFuncBound
import Derived.RangeFuncCalls
import Derived.RangeFuncLeaves
import Derived.Deep.LoopGhost
import Derived.Deep.QuietTactic
import Derived.BigQuiet
import Derived.Deep.CutBlock
import Derived.StillTailTactics
import Derived.Outline
import Derived.Deep.RegionHeld3
import Derived.Deep.DeepCutAuto
import Derived.RangeFuncBox
import Derived.Laws.CopyOwn
namespace Go.Proofs.YtacoekniljimoaaDoor.Res
open Go.RowKit Go.Proofs.YtacoekniljimoaaDoorW.PrintWords Go.Proofs.YtacoekniljimoaaDoorW.PrintLast Go.Proofs.YtacoekniljimoaaDoorW.PrintMore
attribute [local go_sem] max2_int min2_int max_two min_two
set_option linter.unusedVariables false
set_option linter.unusedSimpArgs false

/-- What the limits hold. -/
structure Lim (w : World) : Prop where
  c0 : w.cell? ⟨0, 0, none⟩ = some (.int .i64 1)
  c1 : w.cell? ⟨0, 1, none⟩ = some (.int .i64 2047)
  c2 : w.cell? ⟨0, 2, none⟩ = some (.int .i64 0)
  c3 : w.cell? ⟨0, 3, none⟩ = some (.int .i64 511)
theorem Lim.pos {w : World} (h : Lim w) : 0 < w.heap.size := World.block_lt_of_cell? w _ h.c0
theorem Lim.of_block {w w' : World} (h : Lim w) (hb : w'.heap[0]? = w.heap[0]?) : Lim w' :=
  ⟨(World.cell?_of_block (w := w) hb).trans h.c0, (World.cell?_of_block (w := w) hb).trans h.c1, (World.cell?_of_block (w := w) hb).trans h.c2, (World.cell?_of_block (w := w) hb).trans h.c3⟩
theorem Lim.below {B : Nat} {w w' : World} (h : Lim w) (hb : Below B w w') (hB : 0 < B) : Lim w' := h.of_block (hb.block 0 hB)
theorem Lim.below' {w w' : World} (h : Lim w) (hb : Below w.heap.size w w') : Lim w' := h.below hb h.pos

/-- Of a world nothing but block p has turned. -/
structure Upd (p : Nat) (w w' : World) : Prop where
  os : w'.os = w.os
  tape : w'.tape = w.tape
  output : w'.output = w.output
  size : w.heap.size ≤ w'.heap.size
  block : ∀ k, k < w.heap.size → k ≠ p → w'.heap[k]? = w.heap[k]?
theorem Upd.below {p B : Nat} {a w w' : World} (h : Below B a w) (hB : B ≤ p) (hs : B ≤ a.heap.size) (u : Upd p w w') : Below B a w' :=
  ⟨u.os.trans h.os, u.tape.trans h.tape, u.output.trans h.output, Nat.le_trans h.size u.size, fun k hk => (u.block k (by have := h.size; omega) (by omega)).trans (h.block k hk)⟩
theorem Upd.of_below {p : Nat} {w w' : World} (h : Below w.heap.size w w') : Upd p w w' := ⟨h.os, h.tape, h.output, h.size, fun k hk _ => h.block k hk⟩
theorem Upd.trans {p : Nat} {a b c : World} (h : Upd p a b) (k : Upd p b c) : Upd p a c :=
  ⟨k.os.trans h.os, k.tape.trans h.tape, k.output.trans h.output, Nat.le_trans h.size k.size, fun i hi hp => (k.block i (by have := h.size; omega) hp).trans (h.block i hi hp)⟩
theorem Upd.set (w : World) (n p o : Nat) (v : Value) : Upd p w ((w.drewN n).setCell ⟨p, o, none⟩ v) :=
  ⟨rfl, rfl, rfl, by simp [World.setCell], fun k hk hp => Below.heap_setCell _ _ _ _ hp⟩
theorem Upd.lim {p : Nat} {w w' : World} (h : Upd p w w') (hp : 0 < p) (l : Lim w) : Lim w' := l.of_block (h.block 0 l.pos (by omega))

/-- A tank lies at block p. -/
structure Tank (w : World) (p : Nat) (m b l : Int) : Prop where
  c0 : w.cell? ⟨p, 0, none⟩ = some (.int .i64 m)
  c1 : w.cell? ⟨p, 1, none⟩ = some (.int .i64 b)
  c2 : w.cell? ⟨p, 2, none⟩ = some (.int .i64 l)
  fz : w.frozen? ⟨p, 2, none⟩ = false
  hm : 1 ≤ m ∧ m ≤ 2047
  hb : 0 ≤ b ∧ b ≤ 511
  hl : 0 ≤ l ∧ l ≤ b
theorem Tank.new {w : World} {m b : Int} {p : Nat} {t : TypeId} (hm : 1 ≤ m ∧ m ≤ 2047) (hb : 0 ≤ b ∧ b ≤ 511) (hp : p = w.heap.size) : Tank (w.alloc (.cells #[.int .i64 m, .int .i64 b, .int .i64 0] t)) p m b 0 :=
  ⟨by rw [World.cell?_alloc_at _ _ _ _ hp]; rfl, by rw [World.cell?_alloc_at _ _ _ _ hp]; rfl, by rw [World.cell?_alloc_at _ _ _ _ hp]; rfl, World.frozen?_alloc_at _ _ _ _ hp, hm, hb, by omega⟩
theorem Tank.lt {w : World} {p : Nat} {m b l : Int} (h : Tank w p m b l) : p < w.heap.size := World.block_lt_of_cell? w _ h.c0
theorem Tank.of_block {w w' : World} {p : Nat} {m b l : Int} (h : Tank w p m b l) (hb : w'.heap[p]? = w.heap[p]?) : Tank w' p m b l :=
  ⟨(World.cell?_of_block (w := w) hb).trans h.c0, (World.cell?_of_block (w := w) hb).trans h.c1, (World.cell?_of_block (w := w) hb).trans h.c2, (World.frozen?_of_block (w := w) hb).trans h.fz, h.hm, h.hb, h.hl⟩
theorem Tank.below {w w' : World} {p : Nat} {m b l : Int} (h : Tank w p m b l) (hb : Below w.heap.size w w') : Tank w' p m b l := h.of_block (hb.block p h.lt)
theorem Tank.drewN {w : World} {p : Nat} {m b l : Int} (h : Tank w p m b l) (n : Nat) : Tank (w.drewN n) p m b l := h.of_block rfl
theorem Tank.other {w w' : World} {p q : Nat} {m b l : Int} (h : Tank w q m b l) (u : Upd p w w') (hne : q ≠ p) : Tank w' q m b l := h.of_block (u.block q h.lt hne)

/-- A number within limits. -/
def inB (v lo hi : Int) : Bool := decide (lo ≤ v) && decide (v ≤ hi)
theorem inB_true {v lo hi : Int} (h1 : lo ≤ v) (h2 : v ≤ hi) : inB v lo hi = true := by simp [inB, h1, h2]
theorem inB_false {v lo hi : Int} (h : ¬ (lo ≤ v ∧ v ≤ hi)) : inB v lo hi = false := by
  cases e : inB v lo hi with
  | false => rfl
  | true => simp [inB] at e; exact absurd e h

set_option maxHeartbeats 1000000 in
theorem in_any (v lo hi : Int) (w : World) : Calls Tryd.prog 37 #[.int .i64 v, .agg #[.int .i64 lo, .int .i64 hi]] w fun e w' => e = .returned (.bool (inB v lo hi)) ∧ w' = w.alloc (.cells #[.int .i64 lo, .int .i64 hi] 22) := by
  by_cases h1 : lo ≤ v
  · by_cases h2 : v ≤ hi
    · have HB := Lib.hid (inB_true h1 h2)
      go_enter Tryd.func37, Tryd.ntmps37
      go_wp2
      go_ret
      exact ⟨by rw [HB.out]; rfl, rfl⟩
    · have HB := Lib.hid (inB_false (v := v) (lo := lo) (hi := hi) (fun h => h2 h.2))
      go_enter Tryd.func37, Tryd.ntmps37
      go_wp2
      go_ret
      exact ⟨by rw [HB.out]; rfl, rfl⟩
  · have HB := Lib.hid (inB_false (v := v) (lo := lo) (hi := hi) (fun h => h1 h.1))
    go_enter Tryd.func37, Tryd.ntmps37
    go_wp2
    go_ret
    exact ⟨by rw [HB.out]; rfl, rfl⟩

def nil : Value := .pointer none
def ptr (p : Nat) : Value := .pointer (some ⟨p, 0, none⟩)
set_option maxHeartbeats 2000000 in
theorem new_yes (m b : Int) (w : World) (hL : Lim w) (hm : 1 ≤ m ∧ m ≤ 2047) (hb : 0 ≤ b ∧ b ≤ 511) :
    Calls Tryd.prog 16 #[.int .i64 m, .int .i64 b] w fun e w' => ∃ p, e = .returned (.tuple #[.pointer (some ⟨p, 0, none⟩), .int .i64 0]) ∧ w.heap.size ≤ p ∧ Tank w' p m b 0 ∧ Below w.heap.size w w' := by
  have HL := Lib.hid hL
  have hc0 := hL.c0
  have hc1 := hL.c1
  have hc2 := hL.c2
  have hc3 := hL.c3
  have hp := hL.pos
  have h1 : inB m 1 2047 = true := inB_true hm.1 hm.2
  have h2 : inB b 0 511 = true := inB_true hb.1 hb.2
  clear hL
  go_enter Tryd.func16, Tryd.ntmps16
  go_wp2_with (first | (go_at_call 37; refine (in_any _ _ _ _).mono ?_; rintro e w' ⟨rfl, rfl⟩))
  go_ret2
  exact ⟨_, rfl, by omega, Tank.new hm hb (by simp), ((((Below.refl _ _).alloc (Nat.le_refl _) _).alloc (by simp) _).alloc (by simp; omega) _)⟩
set_option maxHeartbeats 2000000 in
theorem new_no (m b : Int) (w : World) (hL : Lim w) (h : ¬ ((1 ≤ m ∧ m ≤ 2047) ∧ (0 ≤ b ∧ b ≤ 511))) :
    Calls Tryd.prog 16 #[.int .i64 m, .int .i64 b] w fun e w' => e = .returned (.tuple #[.pointer none, .int .i64 6]) ∧ Below w.heap.size w w' := by
  have HL := Lib.hid hL
  have hc0 := hL.c0
  have hc1 := hL.c1
  have hc2 := hL.c2
  have hc3 := hL.c3
  have hp := hL.pos
  clear hL
  by_cases hm : 1 ≤ m ∧ m ≤ 2047
  · have hb : ¬ (0 ≤ b ∧ b ≤ 511) := fun hb => h ⟨hm, hb⟩
    have h1 : inB m 1 2047 = true := inB_true hm.1 hm.2
    have h2 : inB b 0 511 = false := inB_false hb
    clear h hm hb
    go_enter Tryd.func16, Tryd.ntmps16
    go_wp2_with (first | (go_at_call 37; refine (in_any _ _ _ _).mono ?_; rintro e w' ⟨rfl, rfl⟩))
    go_ret2
    exact ⟨rfl, (((Below.refl _ _).alloc (Nat.le_refl _) _).alloc (by simp) _)⟩
  · have h1 : inB m 1 2047 = false := inB_false hm
    clear h hm
    go_enter Tryd.func16, Tryd.ntmps16
    go_wp2_with (first | (go_at_call 37; refine (in_any _ _ _ _).mono ?_; rintro e w' ⟨rfl, rfl⟩))
    go_ret2
    exact ⟨rfl, (((Below.refl _ _).alloc (Nat.le_refl _) _))⟩
set_option maxHeartbeats 2000000 in
theorem rnew_yes (m b : Int) (w : World) (hm : 1 ≤ m ∧ m ≤ 2047) (hb : 0 ≤ b ∧ b ≤ 511) :
    Calls Tryd.prog 23 #[.int .i64 m, .int .i64 b] w fun e w' => ∃ p, e = .returned (.tuple #[.pointer (some ⟨p, 0, none⟩), .int .i64 0]) ∧ w.heap.size ≤ p ∧ Tank w' p m b 0 ∧ Below w.heap.size w w' := by
  have HM := Lib.hid hm
  have HB := Lib.hid hb
  obtain ⟨h1, h2⟩ := hm
  obtain ⟨h3, h4⟩ := hb
  go_enter Tryd.func23, Tryd.ntmps23
  go_wp2
  go_ret2
  exact ⟨_, rfl, by omega, Tank.new HM.out HB.out (by simp), (((Below.refl _ _).alloc (Nat.le_refl _) _))⟩
set_option maxHeartbeats 2000000 in
theorem rnew_no (m b : Int) (w : World) (h : ¬ ((1 ≤ m ∧ m ≤ 2047) ∧ (0 ≤ b ∧ b ≤ 511))) :
    Calls Tryd.prog 23 #[.int .i64 m, .int .i64 b] w fun e w' => e = .returned (.tuple #[.pointer none, .int .i64 6]) ∧ w' = w := by
  by_cases h1 : m < 1
  · clear h
    go_enter Tryd.func23, Tryd.ntmps23
    go_wp2
    go_ret2
    exact ⟨rfl, rfl⟩
  · by_cases h2 : 2047 < m
    · clear h
      go_enter Tryd.func23, Tryd.ntmps23
      go_wp2
      go_ret2
      exact ⟨rfl, rfl⟩
    · by_cases h3 : b < 0
      · clear h
        go_enter Tryd.func23, Tryd.ntmps23
        go_wp2
        go_ret2
        exact ⟨rfl, rfl⟩
      · have h4 : 511 < b := by omega
        clear h
        go_enter Tryd.func23, Tryd.ntmps23
        go_wp2
        go_ret2
        exact ⟨rfl, rfl⟩
section
variable {w : World} {p : Nat} {m b l : Int}
theorem level_nil (w : World) : Calls Tryd.prog 17 #[.pointer none] w fun e w' => e = .returned (.int .i64 0) ∧ w = w' := by
  go_enter Tryd.func17, Tryd.ntmps17
  go_wp2
  go_ret
  exact ⟨rfl, rfl⟩
theorem most_nil (w : World) : Calls Tryd.prog 18 #[.pointer none] w fun e w' => e = .returned (.int .i64 0) ∧ w = w' := by
  go_enter Tryd.func18, Tryd.ntmps18
  go_wp2
  go_ret
  exact ⟨rfl, rfl⟩
theorem take_nil (n : Int) (w : World) : Calls Tryd.prog 19 #[.pointer none, .int .i64 n] w fun e w' => e = .returned (.tuple #[.int .i64 0, .int .i64 1]) ∧ w = w' := by
  go_enter Tryd.func19, Tryd.ntmps19
  go_wp2
  go_ret2
  exact ⟨rfl, rfl⟩
theorem copy_nil (w : World) : Calls Tryd.prog 24 #[.pointer none] w fun e w' => e = .returned (.pointer none) ∧ w = w' := by
  go_enter Tryd.func24, Tryd.ntmps24
  go_wp2
  go_ret
  exact ⟨rfl, rfl⟩
theorem level_any (h : Tank w p m b l) : Calls Tryd.prog 17 #[.pointer (some ⟨p, 0, none⟩)] w fun e w' => e = .returned (.int .i64 l) ∧ w = w' := by
  have hc := h.c2
  clear h
  go_enter Tryd.func17, Tryd.ntmps17
  go_wp2
  go_ret
  exact ⟨rfl, rfl⟩
theorem rlevel_any (h : Tank w p m b l) : Calls Tryd.prog 26 #[.pointer (some ⟨p, 0, none⟩)] w fun e w' => e = .returned (.int .i64 l) ∧ w = w' := by
  have hc := h.c2
  clear h
  go_enter Tryd.func26, Tryd.ntmps26
  go_wp2
  go_ret
  exact ⟨rfl, rfl⟩
theorem most_any (h : Tank w p m b l) : Calls Tryd.prog 18 #[.pointer (some ⟨p, 0, none⟩)] w fun e w' => e = .returned (.int .i64 (l + m)) ∧ ∃ n, w' = w.drewN n := by
  have hc := h.c2
  have hc0 := h.c0
  obtain ⟨h1, h2⟩ := h.hm
  obtain ⟨h3, h4⟩ := h.hl
  have h5 := h.hb.2
  clear h
  go_enter Tryd.func18, Tryd.ntmps18
  go_wp2
  go_quiet ((skip))
  go_wp2
  go_ret
  exact ⟨rfl, _, rfl⟩
theorem rmost_any (h : Tank w p m b l) : Calls Tryd.prog 27 #[.pointer (some ⟨p, 0, none⟩)] w fun e w' => e = .returned (.int .i64 (l + m)) ∧ ∃ n, w' = w.drewN n := by
  have hc := h.c2
  have hc0 := h.c0
  obtain ⟨h1, h2⟩ := h.hm
  obtain ⟨h3, h4⟩ := h.hl
  have h5 := h.hb.2
  clear h
  go_enter Tryd.func27, Tryd.ntmps27
  go_wp2
  go_quiet ((skip))
  go_wp2
  go_ret
  exact ⟨rfl, _, rfl⟩
end
end Go.Proofs.YtacoekniljimoaaDoor.Res
