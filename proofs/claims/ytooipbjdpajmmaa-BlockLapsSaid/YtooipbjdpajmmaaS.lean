/- Plain lemmas for the law on lapped frames: words on wrapping, rounds and reading; the frames of a sample. No conditions beyond each lemma's own. -/
import Derived.Test.YtooipbjdpajmmaaHlx6
import Derived.Test.YtooipbjdpajmmaaHlx8
import Derived.Test.YtooipbjdpajmmaaHlx7
namespace Go.Proofs.Ytooipbjdpajmmaa.Laps
open Go.RowKit Go.Proofs.Ytooipbjdpajmmaa.Hl Go.Proofs.YtooipbjdpajmmaaW.PrintWords Go.Proofs.YtooipbjdpajmmaaW.PrintLast

theorem wrap_nat {n : Nat} (h : n ≤ 9223372036854775807) : wrap64 (n : Int) = (n : Int) := by unfold wrap64; omega
theorem wrap_succ {n : Nat} (h : n < 9223372036854775807) : wrap64 ((n : Int) + 1) = ((n + 1 : Nat) : Int) := by unfold wrap64; omega
theorem wrap_pred {n : Nat} (h : n < 9223372036854775807) : wrap64 (((n + 1 : Nat) : Int) - 1) = (n : Int) := by unfold wrap64; omega
theorem wrap_in {x : Int} (h1 : -9223372036854775808 ≤ x) (h2 : x ≤ 9223372036854775807) : wrap64 x = x := by unfold wrap64; omega
theorem rd_nat (l : List Int) (i : Nat) : rd l (i : Int) = l.getD i 0 := by unfold rd; simp
theorem rd_lt (l : List Int) (i : Nat) (h : i < l.length) : rd l (i : Int) = l[i] := by rw [rd_nat]; simp [List.getD_eq_getElem?_getD, h]
theorem rdb_nat (l : List Bool) (i : Nat) : rdOf false l (i : Int) = l.getD i false := by unfold rdOf; simp
/-- A value that needs no rounds. -/
theorem ev_val {α β : Type} {f : Nat → α → Option β} {a : α} {r : β} {x : Option α} (h : x = some a) (k : Ev (fun n => f n a) r) : Ev (fun n => x.bind (f n)) r := by
  subst h; exact k
theorem ev_pos {α : Type} {c : Prop} [Decidable c] {f g : Nat → Option α} {r : α} (hc : c) (h : Ev f r) : Ev (fun k => if c then f k else g k) r := Ev.congr (fun _ => if_pos hc) h
theorem ev_neg {α : Type} {c : Prop} [Decidable c] {f g : Nat → Option α} {r : α} (hc : ¬ c) (h : Ev g r) : Ev (fun k => if c then f k else g k) r := Ev.congr (fun _ => if_neg hc) h
theorem awake_ev : Ev (fun k => (shawmlaw09_awake.f).bind fun t => some t) true := ⟨0, fun _ _ => rfl⟩
/-- How long the lap ahead of frame i is. -/
def lapB (l : List Bool) (i : Nat) : Int :=
  if i < 1 ∨ l.length ≤ i then 0 else if (l.getD (i - 1) false || l.getD i false) = true then 16 else 128
theorem lap_tells (l : List Bool) (i : Nat) (hl : l.length ≤ 140737488351232) : block_lap.f 1 l (i : Int) = some (lapB l i) := by
  unfold block_lap.f lapB
  have e5 : rdOf false l (i : Int) = l.getD i false := by unfold rdOf; simp
  by_cases h1 : i < 1
  · rw [if_pos (show (i : Int) < 1 by omega), if_pos (Or.inl h1)]; rfl
  · rw [if_neg (show ¬ (i : Int) < 1 by omega)]
    by_cases h2 : l.length ≤ i
    · rw [if_pos (Or.inr h2), decide_eq_true (show (i : Int) ≥ (l.length : Int) by omega)]; rfl
    · have e2 : wrap64 ((i : Int) - 1) = ((i - 1 : Nat) : Int) := by unfold wrap64; omega
      have e6 : rdOf false l ((i - 1 : Nat) : Int) = l.getD (i - 1) false := by unfold rdOf; simp
      rw [if_neg (by omega), decide_eq_false (show ¬ (i : Int) ≥ (l.length : Int) by omega)]
      simp only [block_lap.j0]
      rw [e2, if_neg (by simp), if_pos (show (0 : Int) ≤ ((i - 1 : Nat) : Int) by omega), if_pos (show ((i - 1 : Nat) : Int) < (l.length : Int) by omega), e6, if_pos (show (0 : Int) ≤ (i : Int) by omega), if_pos (show (i : Int) < (l.length : Int) by omega), e5]
      generalize l.getD i false = a
      generalize l.getD (i - 1) false = b
      cases a <;> cases b <;> rfl
theorem blap_ev (l : List Bool) (i : Nat) (hl : l.length ≤ 140737488351232) : Ev (fun k => block_lap.f k l (i : Int)) (lapB l i) :=
  Ev.of (fun k => block_lap.mono l (i : Int) k) (lap_tells l i hl)
/-- Half of a lap. -/
def lapH (l : List Bool) (i : Nat) : Nat := if i < 1 ∨ l.length ≤ i then 0 else if (l.getD (i - 1) false || l.getD i false) = true then 8 else 64
theorem lap_half (l : List Bool) (i : Nat) : wrap64 (Int.tdiv (lapB l i) 2) = (lapH l i : Int) := by
  unfold lapB lapH
  split
  · decide +kernel
  · split <;> decide +kernel
theorem lapH_le (l : List Bool) (i : Nat) : lapH l i ≤ 64 := by
  unfold lapH
  split
  · omega
  · split <;> omega
def frA (l : List Bool) (n : Nat) : Int := if n % 128 < lapH l (n / 128) then ((n / 128 : Nat) : Int) - 1 else ((n / 128 : Nat) : Int)
def frB (l : List Bool) (n : Nat) : Int := if 128 ≤ n % 128 + lapH l (n / 128 + 1) then ((n / 128 + 1 : Nat) : Int) else ((n / 128 : Nat) : Int)
theorem div_nat (n : Nat) (h : n ≤ 1000000) : wrap64 (Int.tdiv (n : Int) 128) = ((n / 128 : Nat) : Int) := by
  rw [Int.tdiv_eq_ediv_of_nonneg (by omega)]
  unfold wrap64
  omega
theorem mod_nat (n : Nat) : Int.tmod (n : Int) 128 = ((n % 128 : Nat) : Int) := by
  rw [Int.tmod_eq_emod_of_nonneg (by omega)]
  omega
/-- What both tell of a sample. -/
theorem frames_core (l : List Bool) (hl : l.length ≤ 64) (n : Nat) (hn : n < 128 * l.length) (L : Nat → Int → Option Int) (hL : ∀ i : Nat, Ev (fun k => L k (i : Int)) (lapB l i)) :
    Ev (fun k => (L k (wrap64 (Int.tdiv (n : Int) 128))).bind fun t => (if (Int.tmod (n : Int) 128) < (wrap64 (Int.tdiv t 2)) then ((L k (wrap64 ((wrap64 (Int.tdiv (n : Int) 128)) + 1))).bind fun u => (if (Int.tmod (n : Int) 128) ≥ (wrap64 (128 - (wrap64 (Int.tdiv u 2)))) then (some (wrap64 ((wrap64 (Int.tdiv (n : Int) 128)) - 1), wrap64 ((wrap64 (Int.tdiv (n : Int) 128)) + 1), (0 : Int))) else (some (wrap64 ((wrap64 (Int.tdiv (n : Int) 128)) - 1), wrap64 (Int.tdiv (n : Int) 128), 0)))) else ((L k (wrap64 ((wrap64 (Int.tdiv (n : Int) 128)) + 1))).bind fun u => (if (Int.tmod (n : Int) 128) ≥ (wrap64 (128 - (wrap64 (Int.tdiv u 2)))) then (some (wrap64 (Int.tdiv (n : Int) 128), wrap64 ((wrap64 (Int.tdiv (n : Int) 128)) + 1), 0)) else (some (wrap64 (Int.tdiv (n : Int) 128), wrap64 (Int.tdiv (n : Int) 128), 0))))))
      (frA l n, frB l n, 0) := by
  have hq : n / 128 < 64 := by omega
  have hp : n % 128 < 128 := Nat.mod_lt _ (by omega)
  unfold frA frB
  rw [div_nat n (by omega), mod_nat n]
  clear hn
  generalize n / 128 = q at *
  generalize n % 128 = p at *
  have h1 := lapH_le l q
  have h2 := lapH_le l (q + 1)
  have e3 : wrap64 ((q : Int) + 1) = ((q + 1 : Nat) : Int) := wrap_succ (by omega)
  have e4 : wrap64 ((q : Int) - 1) = (q : Int) - 1 := wrap_in (by omega) (by omega)
  have e5 : wrap64 (128 - (lapH l (q + 1) : Int)) = 128 - (lapH l (q + 1) : Int) := wrap_in (by omega) (by omega)
  rw [e3, e4]
  clear e3 e4
  refine Ev.bind (hL q) ?_
  simp only [lap_half l q]
  generalize hu : lapH l q = u at *
  generalize hv : lapH l (q + 1) = v at *
  clear hu
  have g2 := Aside0.mk (lap_half l (q + 1))
  rw [hv] at g2
  have E5 := Aside0.mk e5
  clear e5 hv
  by_cases c1 : p < u
  · rw [if_pos c1]
    refine ev_pos (by omega) (Ev.bind (hL (q + 1)) ?_)
    simp only [g2.out, E5.out]
    by_cases c2 : 128 ≤ p + v
    · rw [if_pos c2]; exact ev_pos (by omega) (Ev.now _)
    · rw [if_neg c2]; exact ev_neg (by omega) (Ev.now _)
  · rw [if_neg c1]
    refine ev_neg (by omega) (Ev.bind (hL (q + 1)) ?_)
    simp only [g2.out, E5.out]
    by_cases c2 : 128 ≤ p + v
    · rw [if_pos c2]; exact ev_pos (by omega) (Ev.now _)
    · rw [if_neg c2]; exact ev_neg (by omega) (Ev.now _)
def framesV (l : List Bool) (i : Int) : Int × Int × Int := if 64 < l.length then (0, 0, 2) else if i < 0 ∨ 128 * (l.length : Int) ≤ i then (0, 0, 6) else (frA l i.toNat, frB l i.toNat, 0)
theorem frames_ev (l : List Bool) (i : Int) : Ev (fun k => block_Frames.f k l i) (framesV l i) := by
  unfold block_Frames.f framesV
  by_cases h0 : 64 < l.length
  · rw [if_pos h0]; exact ev_pos (by omega) (Ev.now _)
  · rw [if_neg h0]
    have hw : wrap64 ((l.length : Int) * 128) = (l.length : Int) * 128 := wrap_in (by omega) (by omega)
    refine ev_neg (by omega) ?_
    by_cases h1 : i < 0
    · rw [if_pos (Or.inl h1)]; exact ev_pos h1 (Ev.now _)
    · refine ev_neg h1 ?_
      rw [hw]
      by_cases h2 : 128 * (l.length : Int) ≤ i
      · rw [if_pos (Or.inr h2)]; exact ev_pos (by omega) (Ev.now _)
      · rw [if_neg (by omega)]
        refine ev_neg (by omega) ?_
        obtain ⟨n, rfl⟩ : ∃ n : Nat, i = (n : Int) := ⟨i.toNat, by omega⟩
        rw [Int.toNat_natCast]
        exact frames_core l (by omega) n (by omega) (fun k x => block_lap.f k l x) (fun j => blap_ev l j (by omega))
end Go.Proofs.Ytooipbjdpajmmaa.Laps
