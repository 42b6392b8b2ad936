/- Chapter 23: two pools side by side, one of the program's and one of the reference's, with the same bytes. Conditions: none beyond each theorem's own. -/
import Derived.Test.YtacoekniljimoaaDoorAR
namespace Go.Proofs.YtacoekniljimoaaDoor.Res
open Go.RowKit Go.Proofs.YtacoekniljimoaaDoorW.PrintWords Go.Proofs.YtacoekniljimoaaDoorW.PrintLast Go.Proofs.YtacoekniljimoaaDoorW.PrintMore
set_option linter.unusedVariables false
set_option linter.unusedSimpArgs false
/-- Of a world nothing but the blocks of S has turned. -/
structure UpdS (S : Nat → Prop) (w w' : World) : Prop where
  os : w'.os = w.os
  tape : w'.tape = w.tape
  output : w'.output = w.output
  size : w.heap.size ≤ w'.heap.size
  block : ∀ k, k < w.heap.size → ¬ S k → w'.heap[k]? = w.heap[k]?
theorem UpdS.refl (S : Nat → Prop) (w : World) : UpdS S w w := ⟨rfl, rfl, rfl, Nat.le_refl _, fun _ _ _ => rfl⟩
theorem UpdS.below {S : Nat → Prop} {B : Nat} {a w w' : World} (h : Below B a w) (hB : ∀ k, S k → B ≤ k) (hs : B ≤ a.heap.size) (u : UpdS S w w') : Below B a w' :=
  ⟨u.os.trans h.os, u.tape.trans h.tape, u.output.trans h.output, Nat.le_trans h.size u.size, fun k hk => (u.block k (by have := h.size; omega) (fun e => by have := hB k e; omega)).trans (h.block k hk)⟩
theorem UpdS.lim {S : Nat → Prop} {w w' : World} (h : UpdS S w w') (h0 : ¬ S 0) (l : Lim w) : Lim w' := l.of_block (h.block 0 l.pos h0)
theorem UpdS.set {S : Nat → Prop} {w w' : World} {g o : Nat} {v : Value} (h : UpdS S w w') (hg : S g) : UpdS S w (w'.setCell ⟨g, o, none⟩ v) :=
  ⟨h.os, h.tape, h.output, by have := h.size; simp [World.setCell]; omega, fun k hk hn => (Below.heap_setCell _ _ _ _ (fun e => hn (by rw [show k = g from e]; exact hg))).trans (h.block k hk hn)⟩
/-- The two pools. -/
structure PP (w wr : World) (p q : Nat) (A1 A2 : Option Addr) (c1 c2 : Nat) (l : List Int) : Prop where
  P1 : Pool wr p A1 c1 l
  P2 : Pool wr q A2 c2 l
  ne : p ≠ q
  wp : w.heap.size ≤ p
  wq : w.heap.size ≤ q
  n1 : ∀ ad, A1 = some ad → 0 < l.length → w.heap.size ≤ ad.block ∧ ad.block ≠ q
  n2 : ∀ ad, A2 = some ad → 0 < l.length → w.heap.size ≤ ad.block ∧ ad.block ≠ p
  bel : Below w.heap.size w wr
  lim : Lim wr
section
variable {w wr w1 w2 : World} {p q p' q' : Nat} {A1 A2 A1' A2' : Option Addr} {c1 c2 c1' c2' : Nat} {l L : List Int}
theorem PP.below (h : PP w wr p q A1 A2 c1 c2 l) (hb : Below wr.heap.size wr w1) : PP w w1 p q A1 A2 c1 c2 l :=
  ⟨h.P1.below hb, h.P2.below hb, h.ne, h.wp, h.wq, h.n1, h.n2, below_step h.bel hb, h.lim.below' hb⟩
theorem PP.pos (h : PP w wr p q A1 A2 c1 c2 l) (hw : 0 < w.heap.size) : 0 < p ∧ 0 < q := ⟨Nat.lt_of_lt_of_le hw h.wp, Nat.lt_of_lt_of_le hw h.wq⟩
/-- Writes to other rows leave the pools. -/
theorem PP.spare {S : Nat → Prop} (h : PP w wr p q A1 A2 c1 c2 l) (u : UpdS S wr w1) (hS : ∀ k, S k → w.heap.size ≤ k) (hw : 0 < w.heap.size) (sp : ¬ S p) (sq : ¬ S q) (s1 : ∀ ad, A1 = some ad → 0 < l.length → ¬ S ad.block) (s2 : ∀ ad, A2 = some ad → 0 < l.length → ¬ S ad.block) : PP w w1 p q A1 A2 c1 c2 l :=
  ⟨h.P1.of_blocks (u.block p h.P1.lt sp) (fun ad e hn => u.block _ (h.P1.rlt e hn) (s1 ad e hn)), h.P2.of_blocks (u.block q h.P2.lt sq) (fun ad e hn => u.block _ (h.P2.rlt e hn) (s2 ad e hn)), h.ne, h.wp, h.wq, h.n1, h.n2,
    UpdS.below h.bel hS (Nat.le_refl _) u, u.lim (fun e => by have := hS 0 e; omega) h.lim⟩
/-- The second pool, behind a change of the first. -/
theorem PP.snd (h : PP w wr p q A1 A2 c1 c2 l) (u : Upd p wr w1) : Pool w1 q A2 c2 l := h.P2.other u (Ne.symm h.ne) (fun ad e hn => (h.n2 ad e hn).2)
/-- Behind a change of each. -/
theorem PP.both (h : PP w wr p q A1 A2 c1 c2 l) (hw : 0 < w.heap.size) (u1 : Upd p wr w1) (P1 : Pool w1 p A1' c1' L) (N1 : NewRow wr.heap.size p A1' L.length) (u2 : Upd q w1 w2) (P2 : Pool w2 q A2' c2' L) (N2 : NewRow w1.heap.size q A2' L.length) : PP w w2 p q A1' A2' c1' c2' L := by
  have hq := h.P2.lt
  have hp := h.P1.lt
  have hs := u1.size
  have hb := h.bel.size
  exact ⟨P1.other u2 h.ne (fun ad e hn => by have := (N1 ad e hn).1; omega), P2, h.ne, h.wp, h.wq, fun ad e hn => by have := (N1 ad e hn).1; omega, fun ad e hn => by have := (N2 ad e hn).1; omega,
    Upd.below (Upd.below h.bel h.wp (Nat.le_refl _) u1) h.wq (Nat.le_refl _) u2, u2.lim (h.pos hw).2 (u1.lim (h.pos hw).1 h.lim)⟩
theorem NewRow.nil (B q : Nat) : NewRow B q none 0 := fun _ e => by cases e
end
end Go.Proofs.YtacoekniljimoaaDoor.Res
