/- Chapter 23: what Plan says, in plain lists and numbers. Conditions: none beyond each theorem's own. -/
import Derived.Test.YtacoekniljimoaaDoorK
namespace Go.Proofs.YtacoekniljimoaaDoor.Res
open Go.RowKit Go.Proofs.YtacoekniljimoaaDoorW.PrintWords
/-- The level ahead of frame k. -/
def lv (m b : Int) (xs : List Int) : Nat → Int
  | 0 => 0
  | k + 1 => tkLvl m b (lv m b xs k) (rd xs (k : Int))
/-- The padding of frame k. -/
def pd (m b : Int) (xs : List Int) (k : Nat) : Int := tkPad m b (lv m b xs k) (rd xs (k : Int))
/-- The error of frame k. -/
def er (m b : Int) (xs : List Int) (k : Nat) : Int := tkErr m b (lv m b xs k) (rd xs (k : Int))
theorem lv_range {m b : Int} (xs : List Int) (hb : 0 ≤ b ∧ b ≤ 511) (k : Nat) : 0 ≤ lv m b xs k ∧ lv m b xs k ≤ b := by
  induction k with
  | zero => simp [lv]; omega
  | succ k ih => exact tkLvl_range _ hb ih
/-- The first error of the first k frames. -/
def eTo (m b : Int) (xs : List Int) : Nat → Int
  | 0 => 0
  | k + 1 => if eTo m b xs k = 0 then er m b xs k else eTo m b xs k
theorem eTo_stays {m b : Int} {xs : List Int} {k : Nat} (h : eTo m b xs k ≠ 0) (n : Nat) (hn : k ≤ n) : eTo m b xs n = eTo m b xs k := by
  induction n with
  | zero => rw [Nat.le_zero.1 hn]
  | succ n ih =>
    by_cases e : k = n + 1
    · rw [e]
    · have := ih (by omega)
      simp only [eTo]
      rw [this, if_neg h]
theorem eTo_first {m b : Int} {xs : List Int} {k n : Nat} (h0 : eTo m b xs k = 0) (h : er m b xs k ≠ 0) (hn : k < n) : eTo m b xs n = er m b xs k := by
  have e : eTo m b xs (k + 1) = er m b xs k := by simp only [eTo]; rw [if_pos h0]
  rw [eTo_stays (k := k + 1) (by rw [e]; exact h) n hn, e]
theorem eTo_zero {m b : Int} {xs : List Int} (n : Nat) (h : ∀ k, k < n → er m b xs k = 0) : eTo m b xs n = 0 := by
  induction n with
  | zero => rfl
  | succ n ih =>
    simp only [eTo]
    rw [ih (fun k hk => h k (by omega)), if_pos rfl]
    exact h n (by omega)
theorem eTo_all {m b : Int} {xs : List Int} {n : Nat} (h : eTo m b xs n = 0) : ∀ k, k < n → er m b xs k = 0 := by
  induction n with
  | zero => intro k hk; omega
  | succ n ih =>
    simp only [eTo] at h
    by_cases e : eTo m b xs n = 0
    · rw [if_pos e] at h
      intro k hk
      by_cases ek : k = n
      · rw [ek]; exact h
      · exact ih e k (by omega)
    · rw [if_neg e] at h
      exact absurd h e
/-- The mean and the bound lie within their limits. -/
def okR (m b : Int) : Prop := (1 ≤ m ∧ m ≤ 2047) ∧ (0 ≤ b ∧ b ≤ 511)
instance (m b : Int) : Decidable (okR m b) := by unfold okR; infer_instance
/-- What Plan answers: the error, the levels, the paddings. -/
def planE (m b : Int) (xs : List Int) : Int := if okR m b then eTo m b xs xs.length else 6
def planB (m b : Int) (xs : List Int) : List Int := if planE m b xs = 0 then (List.range xs.length).map (lv m b xs) else []
def planP (m b : Int) (xs : List Int) : List Int := if planE m b xs = 0 then (List.range xs.length).map (pd m b xs) else []
theorem tkErr_or (m b l n : Int) : tkErr m b l n = 0 ∨ tkErr m b l n = 6 ∨ tkErr m b l n = 2 := by
  unfold tkErr
  split
  · exact .inr (.inl rfl)
  · split
    · exact .inr (.inr rfl)
    · exact .inl rfl
theorem eTo_or (m b : Int) (xs : List Int) (n : Nat) : eTo m b xs n = 0 ∨ eTo m b xs n = 6 ∨ eTo m b xs n = 2 := by
  induction n with
  | zero => exact .inl rfl
  | succ n ih =>
    simp only [eTo]
    split
    · exact tkErr_or _ _ _ _
    · exact ih
theorem planE_or (m b : Int) (xs : List Int) : planE m b xs = 0 ∨ planE m b xs = 6 ∨ planE m b xs = 2 := by
  unfold planE
  split
  · exact eTo_or _ _ _ _
  · exact .inr (.inl rfl)
theorem planB_len (m b : Int) (xs : List Int) : (planB m b xs).length ≤ xs.length := by
  unfold planB
  split
  · simp
  · simp
theorem planP_len (m b : Int) (xs : List Int) : (planP m b xs).length ≤ xs.length := by
  unfold planP
  split
  · simp
  · simp
/-- A row of numbers that a value tells. -/
structure RowI (w : World) (v : Value) (xs : List Int) : Prop where
  out : ∃ A c, v = .slice A xs.length c ∧ xs.length ≤ c ∧ Kd.C (Kd.int .i64) w A xs.length xs
theorem RowI.nil (w : World) : RowI w (.slice none 0 0) [] := ⟨none, 0, rfl, Nat.le_refl _, Kd.C_nil _ _⟩
theorem RowI.below {w w' : World} {v : Value} {xs : List Int} (h : RowI w v xs) (hb : Below w.heap.size w w') : RowI w' v xs := by
  obtain ⟨A, c, e, h1, h2⟩ := h.out
  exact ⟨A, c, e, h1, Kd.C_below h2 hb⟩
theorem RowI.of_R {w : World} {base : Nat} {ok : Nat → Prop} {v : Value} {xs : List Int} {e : Nat} (h : Kd.R (Kd.int .i64) e w base ok v xs) : RowI w v xs := ⟨Kd.R_reads h⟩
theorem info3 : (Tryd.prog.info? 3).map (fun i => (i.zero, i.size, i.bytes)) = some (some (.int .i64 0), 1, 8) := by kernel_rfl
/-- Two rows of the call's own, each in memory of its own. -/
structure Two (W : World) (B : Nat) (v : Value) (xs : List Int) (u : Value) (ys : List Int) : Prop where
  a : Kd.R (Kd.int .i64) 3 W B (fun k => some k ≠ u.ownBlock) v xs
  b : Kd.R (Kd.int .i64) 3 W B (fun k => some k ≠ v.ownBlock) u ys
theorem Two.nil (W : World) (B : Nat) : Two W B (.slice none 0 0) [] (.slice none 0 0) [] := ⟨Kd.R_nil _ _ _ _ _, Kd.R_nil _ _ _ _ _⟩
theorem Two.symm {W : World} {B : Nat} {v u : Value} {xs ys : List Int} (h : Two W B v xs u ys) : Two W B u ys v xs := ⟨h.b, h.a⟩
/-- Whatever turns no block of the rows' own leaves them. -/
theorem R_step' {W W' : World} {B : Nat} {v u : Value} {xs : List Int} (h : Kd.R (Kd.int .i64) 3 W B (fun k => some k ≠ u.ownBlock) v xs) (hm : ∀ k, B ≤ k → k < W.heap.size → W'.heap[k]? = W.heap[k]?) : Kd.R (Kd.int .i64) 3 W' B (fun k => some k ≠ u.ownBlock) v xs :=
  Kd.R_mono (Kd.R_step (Kd.R_bound h) (fun k hk hlt => hm k hk.2.1 hlt)) (fun k hk => hk.1)
theorem Two.step {W W' : World} {B : Nat} {v u : Value} {xs ys : List Int} (h : Two W B v xs u ys) (hm : ∀ k, B ≤ k → k < W.heap.size → W'.heap[k]? = W.heap[k]?) : Two W' B v xs u ys :=
  ⟨R_step' h.a hm, R_step' h.b hm⟩
theorem Two.below {W W' : World} {B : Nat} {v u : Value} {xs ys : List Int} (h : Two W B v xs u ys) (hb : Below W.heap.size W W') : Two W' B v xs u ys := h.step (fun k _ hlt => hb.block k hlt)
theorem Two.upd {W W' : World} {B p : Nat} {v u : Value} {xs ys : List Int} (h : Two W B v xs u ys) (hu : Upd p W W') (hp : p < B) : Two W' B v xs u ys := h.step (fun k hk hlt => hu.block k hlt (by omega))
theorem Two.fresh {W : World} {B : Nat} {v u : Value} {xs ys : List Int} (h : Two W B v xs u ys) : ∀ k, W.heap.size ≤ k → some k ≠ u.ownBlock := by
  intro k hk e
  have := (Kd.R_bound h.b).1 k e.symm
  omega
/-- Behind an append to the first of them. -/
theorem Two.grown {W W1 : World} {B : Nat} {v v1 u : Value} {xs xs1 ys : List Int} (h : Two W B v xs u ys) (h1 : Kd.R (Kd.int .i64) 3 W1 B (fun k => some k ≠ u.ownBlock) v1 xs1) (hg : W.grownBy W1 v.ownBlock) (hat : v1.ownBlock = v.ownBlock ∨ ∃ b, v1.ownBlock = some b ∧ W.heap.size ≤ b) : Two W1 B v1 xs1 u ys := by
  refine ⟨h1, ?_⟩
  have hb := Kd.R_bound h.b
  refine Kd.R_mono (Kd.R_step hb (fun k hk hlt => hg.block k hlt hk.1)) (fun k hk => ?_)
  rcases hat with e | ⟨b, e, hbb⟩
  · rw [e]; exact hk.1
  · rw [e]
    intro e2
    injection e2 with e2
    omega
end Go.Proofs.YtacoekniljimoaaDoor.Res
