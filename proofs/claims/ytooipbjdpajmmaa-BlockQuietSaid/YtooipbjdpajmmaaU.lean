/- Plain lemmas on the printed functions that chapter 9's laws share: comparing lists, samples. No conditions beyond each lemma's own. -/
import Derived.Test.YtooipbjdpajmmaaHnx2
import Derived.Test.YtooipbjdpajmmaaHnx5
namespace Go.Proofs.Ytooipbjdpajmmaa.Pure
open Go.RowKit Go.Proofs.Ytooipbjdpajmmaa.Hn Go.Proofs.YtooipbjdpajmmaaW.PrintWords Go.Proofs.YtooipbjdpajmmaaW.PrintLast Go.Proofs.YtooipbjdpajmmaaW.PrintMore

theorem wrap_nat {n : Nat} (h : n ≤ 9223372036854775807) : wrap64 (n : Int) = (n : Int) := by unfold wrap64; omega
theorem wrap_succ {n : Nat} (h : n < 9223372036854775807) : wrap64 ((n : Int) + 1) = ((n + 1 : Nat) : Int) := by unfold wrap64; omega
theorem wrap_pred {n : Nat} (h : n < 9223372036854775807) : wrap64 (((n + 1 : Nat) : Int) - 1) = (n : Int) := by unfold wrap64; omega
theorem wrap_in {x : Int} (h1 : -9223372036854775808 ≤ x) (h2 : x ≤ 9223372036854775807) : wrap64 x = x := by unfold wrap64; omega
theorem rd_nat (l : List Int) (i : Nat) : rd l (i : Int) = l.getD i 0 := by unfold rd; simp
theorem rd_lt (l : List Int) (i : Nat) (h : i < l.length) : rd l (i : Int) = l[i] := by rw [rd_nat]; simp [List.getD_eq_getElem?_getD, h]
theorem rdb_nat (l : List Bool) (i : Nat) : rdOf false l (i : Int) = l.getD i false := by unfold rdOf; simp
/-- Two lists that are the same are the same. -/
theorem ints_l0 (l : List Int) (hl : l.length ≤ 4611686018427387904) (d : Nat) : ∀ i : Nat, i + d = l.length → Ev (fun k => shawmref02_Ints.l0 k l l (l.length : Int) (i : Int)) true := by
  induction d with
  | zero =>
    intro i hi
    refine Ev.step (f := fun _ => some true) (fun k => ?_) (Ev.now _)
    simp only [shawmref02_Ints.l0]
    rw [if_neg (by omega)]
  | succ d ih =>
    intro i hi
    refine Ev.step (fun k => ?_) (ih (i + 1) (by omega))
    simp only [shawmref02_Ints.l0]
    rw [if_pos (by omega), if_pos (by omega), if_pos (by omega), if_pos (by omega), if_pos trivial, wrap_succ (by omega)]
theorem ints_same (l : List Int) (hl : l.length ≤ 4611686018427387904) : Ev (fun k => shawmref02_Ints.f k l l) true := by
  refine Ev.congr (fun k => ?_) (ints_l0 l hl l.length 0 (by omega))
  unfold shawmref02_Ints.f
  rw [if_pos rfl]
  rfl
theorem bools_l0 (l : List Bool) (hl : l.length ≤ 4611686018427387904) (d : Nat) : ∀ i : Nat, i + d = l.length → Ev (fun k => shawmref09_Bools.l0 k l l (l.length : Int) (i : Int)) true := by
  induction d with
  | zero =>
    intro i hi
    refine Ev.step (f := fun _ => some true) (fun k => ?_) (Ev.now _)
    simp only [shawmref09_Bools.l0]
    rw [if_neg (by omega)]
  | succ d ih =>
    intro i hi
    refine Ev.step (fun k => ?_) (ih (i + 1) (by omega))
    simp only [shawmref09_Bools.l0]
    rw [if_pos (by omega), if_pos (by omega), if_pos (by omega), if_pos (by omega), if_neg (by simp), wrap_succ (by omega)]
theorem bools_same (l : List Bool) (hl : l.length ≤ 4611686018427387904) : Ev (fun k => shawmref09_Bools.f k l l) true := by
  refine Ev.congr (fun k => ?_) (bools_l0 l hl l.length 0 (by omega))
  unfold shawmref09_Bools.f
  rw [if_pos rfl]
  rfl
/-- A value that needs no rounds. -/
theorem ev_val {α β : Type} {f : Nat → α → Option β} {a : α} {r : β} {x : Option α} (h : x = some a) (k : Ev (fun n => f n a) r) : Ev (fun n => x.bind (f n)) r := by
  subst h; exact k

end Go.Proofs.Ytooipbjdpajmmaa.Pure
