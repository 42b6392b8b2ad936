/- A range over a function whose iterator has a state of its own in a block p that lay there before the loop: the loop body's invariant abides whatever the iterator does to block p. Conditions: none beyond each theorem's own. -/
import Derived.Test.YtacoekniljimoaaDoorK
import Derived.RangeFuncNested
namespace Go.Proofs.YtacoekniljimoaaDoor.Res
open Go.RowKit
/-- The blocks of K lie as they lay. -/
def KpK (K : Nat → Prop) (W W' : World) : Prop := ∀ k, K k → W'.heap[k]? = W.heap[k]?
theorem KpK.trans {K : Nat → Prop} {A B C : World} (h : KpK K A B) (k : KpK K B C) : KpK K A C := fun i hi => (k i hi).trans (h i hi)
theorem KpK.put {K : Nat → Prop} {B : Nat} (hK : ∀ k, K k → k < B) (W : World) {l : Nat} (o : Obj) (hl : B ≤ l) : KpK K W (W.putObj l o) :=
  fun k hk => World.putObj_heap_other (by have := hK k hk; omega)
/-- An invariant that abides whatever turns block p alone. -/
def UpdClosed {β : Type} (p : Nat) (J : β → World → Prop) : Prop := ∀ s X Y, J s X → Upd p X Y → J s Y
theorem UpdClosed.and {β : Type} {p : Nat} {I J : β → World → Prop} (h : UpdClosed p I) (k : UpdClosed p J) : UpdClosed p (fun s W => I s W ∧ J s W) := fun s X Y hs u => ⟨h s X Y hs.1 u, k s X Y hs.2 u⟩
/-- An iterator that tells values one behind the other, and may turn block p. -/
def SeqUpd {α : Type} (F : Fence) (n : Nat) (P : Program) (g : Nat) (lb : Array Value) (encs : α → Array Value) (K : Nat → Prop) (p : Nat) (S Sp : List α → Prop) (N : Nat) (w : World) : Prop :=
  ∀ (l : Nat) (J Jx : List α → World → Prop) (W : World), Below w.heap.size w W → UpdClosed p J →
    (∀ pre x W1, J pre W1 → pre.length < N → YieldAt F (n - 1) P l (encs x) W1 fun e W' =>
      (e = .returned (.bool true) ∧ J (pre ++ [x]) W' ∧ KpK K W1 W') ∨ (e = .returned (.bool false) ∧ Jx (pre ++ [x]) W')) →
    J [] W →
    CallsIn F n P g (#[.func (.yield l) #[] #[]] ++ lb) W fun e W' => (∃ v, e = .returned v) ∧ ((∃ xs, S xs ∧ J xs W') ∨ (∃ pre, Sp pre ∧ Jx pre W'))
theorem upd_heap {p : Nat} {X Y : World} (u : Upd p X Y) {k : Nat} {o : Obj} (h : X.heap[k]? = some o) (hne : k ≠ p) : Y.heap[k]? = some o :=
  (u.block k (Array.getElem?_eq_some_iff.1 h).1 hne).trans h
/-- The statement 'for .. := range g { .. }' over such an iterator. -/
theorem rangeFunc_upd {α : Type} {F : Fence} {n : Nat} {P : Program} {w : World} {g : Operand} {ps : Array Tmp} {assign body : Code} {Q : Exit → Act → World → Prop} {a : Act} (p : Nat) (hp : p < w.heap.size)
    (hro : F.round = none) (h1 : 1 ≤ n) {gf : Nat} {lb : Array Value} (hg : a.eval g = .func (.func gf) #[] lb) (hFg : F.fn gf) (eg : ∀ args w, (callFunc gf args).run P w = .ok (.enter gf args) w)
    {encs : α → Array Value} {K : Nat → Prop} {S Sp : List α → Prop} {N : Nat} (hK : ∀ k, K k → k < w.heap.size) (hseq : SeqUpd F (n - 1) P gf lb encs K p S Sp N w) (hps : ∀ x, (encs x).size = ps.size)
    (I : List α → World → Prop) (Ix : Code → List α → World → Prop) (hIu : UpdClosed p I) (hI : OwnFrom w.heap.size I) (hIx : ∀ c, OwnFrom w.heap.size (Ix c)) (h0 : I [] w) (Ax : α → Act → World → Prop) (hAx : ∀ x a', OwnFrom w.heap.size (fun (_ : Unit) W => Ax x a' W))
    (hassign : ∀ (l : Nat) (pre : List α) (x : α) (W : World) (C : Act → World → Prop), I pre W → (∀ a' W', KeepsFrom w.heap.size W W' → KpK K W W' → I pre W' → Ax x a' W' → C a' W') →
      assign.wpIn (F.inRound l) (n - 1 - 1) P (Exit.then C (fun _ _ _ => False)) { tmps := (ps.zip (encs x)).foldl (fun t (p, v) => t.setIfInBounds p v) a.tmps, defers := [] } W)
    (hbody : ∀ (l : Nat) (pre : List α) (x : α) (a' : Act) (W : World), I pre W → Ax x a' W → pre.length < N → body.wpIn (F.inRound l) (n - 1 - 1) P (ownPostG w.heap.size (KpK K) I Ix (pre ++ [x]) W) a' W)
    (hdone : ∀ (D : Nat) (xs : List α) (W : World), w.heap.size ≤ D → S xs → I xs W → W.heap[D]? = some (.deferred (some [])) → Q .normal { a with defers := { target := .collected D, args := #[] } :: a.defers } W)
    (hstop : ∀ (D : Nat) (c : Code) (pre : List α) (W : World), w.heap.size ≤ D → Sp pre → Ix c pre W → W.heap[D]? = some (.deferred (some [])) → c.wpIn F n P Q { a with defers := { target := .collected D, args := #[] } :: a.defers } W) :
    (Code.rangeFunc g ps assign body).wpIn F n P Q a w := by
  have hD : w.heap.size ≠ p := by omega
  have hL : w.heap.size + 1 ≠ p := by omega
  refine wpIn_rangeFunc fun fn hfn => ?_
  rw [hro]
  -- the record of the loop, at each of its states
  let rec_ : LoopState → Option Code → Loop := fun st pe => { state := st, pending := pe, fn, tmps := a.tmps, params := ps, assign, body, defers := w.heap.size }
  let W1 : World := (w.alloc (.deferred (some []))).alloc (.loop (rec_ .ready none))
  have hl1 : W1.heap[w.heap.size + 1]? = some (.loop (rec_ .ready none)) := by
    have := World.alloc_heap_new (w.alloc (.deferred (some []))) (.loop (rec_ .ready none))
    rwa [World.size_alloc] at this
  have hd1 : W1.heap[w.heap.size]? = some (.deferred (some [])) := (Below.heap_alloc _ _ _ (by simp)).trans (World.alloc_heap_new w _)
  have hb1 : Below w.heap.size w W1 := ((Below.refl _ w).alloc (Nat.le_refl _) _).alloc (by simp) _
  refine ⟨w.heap.size + 1, [{ target := .collected w.heap.size, args := #[] }], W1, { target := .fn (.func gf) lb, args := #[.func (.yield (w.heap.size + 1)) #[] #[]] }, W1, gf,
    #[.func (.yield (w.heap.size + 1)) #[] #[]] ++ lb, W1, run_enterLoop_outer _ _ _ _ _, ?_, ?_, ?_, fun _ => h1, ?_⟩
  · simp only [resolve, hg]
    simp [go_sem]
  · intro f' hf'
    simp [Target.leads] at hf'
    subst hf'
    exact hFg
  · simp [invoke, go_sem, eg]
  refine (hseq (w.heap.size + 1)
    (fun pre W => I pre W ∧ W.heap[w.heap.size + 1]? = some (.loop (rec_ .ready none)) ∧ W.heap[w.heap.size]? = some (.deferred (some [])))
    (fun pre W => ∃ c, Ix c pre W ∧ W.heap[w.heap.size + 1]? = some (.loop (rec_ .done (some c))) ∧ W.heap[w.heap.size]? = some (.deferred (some [])))
    W1 hb1 (fun s X Y hs u => ⟨hIu s X Y hs.1 u, upd_heap u hs.2.1 hL, upd_heap u hs.2.2 hD⟩) ?_ ⟨hI.alloc _ (hI.alloc _ h0), hl1, hd1⟩).mono ?_
  · -- one round
    rintro pre x W ⟨hi, hl, hd⟩ hlen
    refine ⟨fn, _, assign, body, run_yield hl (hps x), roundIn_of_wpIn hfn (hassign _ pre x W _ hi ?_)⟩
    intro a' Wa hkf hkp hia hax
    have hla := hkf.same _ _ (Nat.le_add_right _ 1) hl rfl
    have hda := hkf.same _ _ (Nat.le_refl _) hd rfl
    have hlt : w.heap.size + 1 < Wa.heap.size := (Array.getElem?_eq_some_iff.1 hla).1
    refine ⟨_, run_beginRound hla rfl, ?_⟩
    have hlb : (Wa.putObj (w.heap.size + 1) (.loop (rec_ .busy none))).heap[w.heap.size + 1]? = some (.loop (rec_ .busy none)) := World.putObj_heap_same hlt
    have hdb : (Wa.putObj (w.heap.size + 1) (.loop (rec_ .busy none))).heap[w.heap.size]? = some (.deferred (some [])) := (World.putObj_heap_other (by omega)).trans hda
    have hkb : KpK K W (Wa.putObj (w.heap.size + 1) (.loop (rec_ .busy none))) := hkp.trans (KpK.put hK _ _ (by omega))
    refine wpIn_mono (hbody _ pre x a' _ (hI.putObj _ hia (by omega) hla rfl) ((hAx x a').putObj (s := ()) _ hax (by omega) hla rfl) hlen) ?_
    have shut : ∀ (jump : Option Code) (Wc : World), KeepsFrom w.heap.size (Wa.putObj (w.heap.size + 1) (.loop (rec_ .busy none))) Wc →
        (Instr.endRound (w.heap.size + 1) jump).run P Wc = .ok (.bool jump.isNone) (Wc.putObj (w.heap.size + 1) (.loop (rec_ (if jump.isNone then .ready else .done) jump))) ∧
        Wc.heap[w.heap.size + 1]? = some (.loop (rec_ .busy none)) ∧
        (Wc.putObj (w.heap.size + 1) (.loop (rec_ (if jump.isNone then .ready else .done) jump))).heap[w.heap.size + 1]? = some (.loop (rec_ (if jump.isNone then .ready else .done) jump)) ∧
        (Wc.putObj (w.heap.size + 1) (.loop (rec_ (if jump.isNone then .ready else .done) jump))).heap[w.heap.size]? = some (.deferred (some [])) := by
      intro jump Wc hk
      have hlc := hk.same _ _ (Nat.le_add_right _ 1) hlb rfl
      exact ⟨run_endRound jump hlc, hlc, World.putObj_heap_same (Array.getElem?_eq_some_iff.1 hlc).1, (World.putObj_heap_other (by omega)).trans (hk.same _ _ (Nat.le_refl _) hdb rfl)⟩
    rintro e a3 Wc hpost
    cases e with
    | normal =>
      obtain ⟨hk, hkc, hic⟩ := hpost
      obtain ⟨r1, r2, r3, r4⟩ := shut none Wc hk
      exact ⟨_, _, r1, .inl ⟨rfl, ⟨hI.putObj _ hic (by omega) r2 rfl, r3, r4⟩, (hkb.trans hkc).trans (KpK.put hK _ _ (by omega))⟩⟩
    | ret =>
      obtain ⟨hk, hic⟩ := hpost
      obtain ⟨r1, r2, r3, r4⟩ := shut (some .ret) Wc hk
      exact ⟨_, _, r1, .inr ⟨rfl, .ret, (hIx _).putObj _ hic (by omega) r2 rfl, r3, r4⟩⟩
    | exit id =>
      obtain ⟨hk, hic⟩ := hpost
      obtain ⟨r1, r2, r3, r4⟩ := shut (some (.exit id)) Wc hk
      exact ⟨_, _, r1, .inr ⟨rfl, .exit id, (hIx _).putObj _ hic (by omega) r2 rfl, r3, r4⟩⟩
    | goto t =>
      obtain ⟨hk, hic⟩ := hpost
      obtain ⟨r1, r2, r3, r4⟩ := shut (some (.goto t)) Wc hk
      exact ⟨_, _, r1, .inr ⟨rfl, .goto t, (hIx _).putObj _ hic (by omega) r2 rfl, r3, r4⟩⟩
    | panic ch => exact hpost.elim
    | outgrown => exact hpost.elim
  · -- behind the iterator
    rintro e W2 ⟨⟨v, rfl⟩, (⟨xs, hS, hi, hl, hd⟩ | ⟨pre, hSp, c, hi, hl, hd⟩)⟩
    · exact ⟨none, _, run_endLoop hl (by simp [rec_]), hdone _ xs _ (Nat.le_refl _) hS (hI.putObj _ hi (by omega) hl rfl) ((World.putObj_heap_other (by omega)).trans hd)⟩
    · exact ⟨some c, _, run_endLoop hl (by simp [rec_]), hstop _ c pre _ (Nat.le_refl _) hSp ((hIx c).putObj _ hi (by omega) hl rfl) ((World.putObj_heap_other (by omega)).trans hd)⟩
end Go.Proofs.YtacoekniljimoaaDoor.Res
