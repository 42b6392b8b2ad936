/- Chapter 23: the plain law of ReservoirBack, in lists and numbers. Conditions: none beyond each theorem's own. -/
import Derived.Test.YtacoekniljimoaaDoorLQ
import Derived.Test.YtacoekniljimoaaDoorLP
namespace Go.Proofs.YtacoekniljimoaaDoor.Res
open Go.RowKit Go.Proofs.YtacoekniljimoaaDoorW.PrintWords
set_option linter.unusedVariables false
set_option linter.unusedSimpArgs false
set_option maxRecDepth 100000
/-- The bodies, each with its padding, in a row. -/
def catTo (f : Nat → List Int) (p : Nat → Int) : Nat → List Int
  | 0 => []
  | k + 1 => catTo f p k ++ f k ++ List.replicate (p k).toNat 0
theorem catTo_congr {f g : Nat → List Int} {p : Nat → Int} : ∀ {k : Nat}, (∀ i, i < k → f i = g i) → catTo f p k = catTo g p k
  | 0, _ => rfl
  | k + 1, h => by
    simp only [catTo]
    rw [catTo_congr (k := k) (fun i hi => h i (by omega)), h k (by omega)]
theorem catTo_more (f : Nat → List Int) (p : Nat → Int) (i : Nat) : ∀ k, i + 1 ≤ k → ∃ r, catTo f p k = catTo f p i ++ (f i ++ r)
  | 0, h => by omega
  | k + 1, h => by
    by_cases e : i = k
    · subst e
      exact ⟨_, by simp only [catTo, List.append_assoc]; rfl⟩
    · obtain ⟨r, hr⟩ := catTo_more f p i k (by omega)
      exact ⟨r ++ (f k ++ List.replicate (p k).toNat 0), by simp only [catTo, hr, List.append_assoc]⟩
/-- What a plan without an error says of frame k. -/
theorem step_ok {m b : Int} {xs : List Int} (hb : okR m b) {n : Nat} (h0 : eTo m b xs n = 0) {k : Nat} (hk : k < n) :
    0 ≤ rd xs (k : Int) ∧ rd xs (k : Int) ≤ lv m b xs k + m ∧ 0 ≤ pd m b xs k ∧ lv m b xs (k + 1) = lv m b xs k + m - rd xs (k : Int) - pd m b xs k ∧ pd m b xs k ≤ lv m b xs k + m := by
  have he := eTo_all h0 k hk
  have hl := lv_range (m := m) xs hb.2 k
  obtain ⟨⟨m1, m2⟩, b1, b2⟩ := hb
  unfold er tkErr at he
  simp only [lv, pd, tkPad, tkLvl]
  split at he
  · cases he
  · split at he
    · cases he
    · rename_i h1 h2
      rw [if_neg h1, if_neg h1, if_neg h2, if_neg h2]
      split <;> omega
/-- The length of the row so far. -/
theorem cat_len {m b : Int} {xs : List Int} (hb : okR m b) {n : Nat} (h0 : eTo m b xs n = 0) {f : Nat → List Int} (hf : ∀ i, i < n → ((f i).length : Int) = rd xs (i : Int)) : ∀ k, k ≤ n → ((catTo f (pd m b xs) k).length : Int) = m * (k : Int) - lv m b xs k
  | 0, _ => by simp [catTo, lv]
  | k + 1, hk => by
    have ih := cat_len hb h0 hf k (by omega)
    obtain ⟨_, _, h3, h4, _⟩ := step_ok hb h0 (k := k) (by omega)
    have h1 := hf k (by omega)
    have e : m * ((k + 1 : Nat) : Int) = m * (k : Int) + m := by rw [Int.natCast_add, Int.mul_add]; simp
    rw [e]
    generalize m * (k : Int) = z at *
    simp only [catTo, List.length_append, List.length_replicate]
    omega
/-- The last 511 bytes of the first t. -/
def tailTo (F : List Int) (t : Nat) : List Int := (F.take t).drop (t - 511)
theorem tailTo_len {F : List Int} {t : Nat} (h : t ≤ F.length) : (tailTo F t).length = t - (t - 511) := by
  simp only [tailTo, List.length_drop, List.length_take]
  omega
theorem tail_app {F : List Int} {t M : Nat} (h : t + M ≤ F.length) : tailTo F t ++ (F.drop t).take M = (F.take (t + M)).drop (t - 511) := by
  have e : F.take (t + M) = F.take t ++ (F.drop t).take M := by rw [List.take_add]
  rw [e, tailTo, List.drop_append_of_le_length (by rw [List.length_take]; omega)]
theorem tail_keep {F : List Int} {t M : Nat} (h : t + M ≤ F.length) : keepL (tailTo F t) ((F.drop t).take M) = tailTo F (t + M) := by
  unfold keepL
  rw [tail_app h, tailTo]
  simp only [List.length_drop, List.length_take, List.drop_drop]
  congr 1
  omega
theorem tail_data {F : List Int} {t M B : Nat} (h : t + M ≤ F.length) (hB : B ≤ 511) (hB2 : B ≤ t) : (tailTo F t ++ (F.drop t).take M).drop ((tailTo F t).length - B) = (F.take (t + M)).drop (t - B) := by
  rw [tail_app h, tailTo_len (by omega), List.drop_drop]
  congr 1
  omega
/-- What Add hands back begins with the body. -/
theorem data_body {F C f r : List Int} {t M B : Nat} (hF : F = C ++ (f ++ r)) (hC : C.length = t - B) (hf : f.length ≤ M + B) (h : t + M ≤ F.length) (hB2 : B ≤ t) : ((F.take (t + M)).drop (t - B)).take f.length = f := by
  rw [List.drop_take, List.take_take, Nat.min_eq_left (by omega), hF, ← hC, List.drop_left, List.take_left]
theorem data_len {F : List Int} {t M B : Nat} (h : t + M ≤ F.length) (hB2 : B ≤ t) : ((F.take (t + M)).drop (t - B)).length = M + B := by
  simp only [List.length_drop, List.length_take]
  omega
end Go.Proofs.YtacoekniljimoaaDoor.Res
