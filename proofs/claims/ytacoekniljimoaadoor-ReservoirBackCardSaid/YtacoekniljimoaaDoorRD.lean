/- Regions that draw their order, inside a round of a range over a function; an append as one operation of such a region. Conditions: none beyond each theorem's own. -/
import Derived.Test.YtacoekniljimoaaDoorP
namespace Go.Proofs.YtacoekniljimoaaDoor.Res
open Go.RowKit Go.Proofs.YtacoekniljimoaaDoorW.PrintWords Go.Proofs.YtacoekniljimoaaDoorW.PrintLast Go.Proofs.YtacoekniljimoaaDoorW.PrintMore
set_option linter.unusedVariables false
set_option linter.unusedSimpArgs false
section
attribute [local go_sem] Oper.semAt_some
/-- A region's way out that is the common one alone. -/
def plainOut (Q : Exit → Act → World → Prop) : Exit → Act → World → Prop := fun e a w => e = .normal ∧ Q .normal a w
theorem plainOut_not (Q : Exit → Act → World → Prop) : ¬ LetsOut (plainOut Q) := by
  rintro ⟨a, w, h, _⟩
  cases h
def noDefer (ops : Array Oper) : Bool := ops.all fun o => match o.op with | .defer .. => false | _ => true
theorem noDefer_spec {ops : Array Oper} (h : noDefer ops = true) (j : Nat) (o : Oper) (ho : ops[j]? = some o) (c) : o.op ≠ .defer c := by
  intro heq
  have := Array.all_eq_true_iff_forall_mem.1 h o (Array.mem_of_getElem? ho)
  simp [heq] at this
theorem oper_round {l n : Nat} {P : Program} {o : Oper} {a : Act} {w : World} {K : Act → World → Prop} {Q : Exit → Act → World → Prop} (hd : ∀ c, o.op ≠ .defer c) (h : o.wp P a w K (plainOut Q)) :
    o.wpIn (Fence.wide.inRound l) n P a w K Q := by
  refine ⟨fun _ _ => trivial, ?_⟩
  have e : o.semAt (Fence.wide.inRound l).round a.eval = execOp a.eval o := Oper.semAt_some l a.eval o hd
  rw [e]
  unfold Oper.wp at h
  generalize (execOp a.eval o).run P w = r at *
  cases r with
  | ok x w' =>
    cases x with
    | value v => exact h
    | skip => exact h
    | defer d => exact h
    | enter f args =>
      refine ⟨fun hh => by simp [Fence.inRound, Fence.wide] at hh, CallsIn.inRound l (callsIn_wide.2 (Calls.mono h ?_))⟩
      intro e w'' he
      cases e with
      | returned v => exact he
      | panicked c => exact absurd he.1 (by simp)
      | outgrown => exact absurd he (plainOut_not Q)
    | row row args =>
      refine ⟨fun hh => by simp [Fence.inRound, Fence.wide] at hh, fun c cs _ => ?_⟩
      obtain ⟨v, w'', hR, hs⟩ := h c cs
      exact ⟨v, w'', hR, stepsIn_wide.2 hs⟩
    | _ => exact h.elim
  | halt x w' =>
    cases x with
    | panic v => exact absurd h.1 (by simp)
    | _ => exact h.elim
theorem any_round {l n : Nat} {P : Program} {md : Region.Mode} {ops : Array Oper} {Q : Exit → Act → World → Prop} (hd : noDefer ops = true) : ∀ (f : Nat) (listed : Array Bool) (a : Act) (w : World),
    wpAny P md ops (plainOut Q) f listed a w → wpAnyIn (Fence.wide.inRound l) n P md ops Q f listed a w
  | 0, _, _, _, h => ⟨h.1, h.2.2⟩
  | f + 1, listed, a, w, h => by
    refine ⟨fun h0 => (h.1 h0).2, fun i hi => ?_⟩
    have h1 := h.2 i hi
    unfold wpOp at h1
    unfold Go.wpOpIn
    cases ho : ops[i]? with
    | none =>
      simp only [ho] at h1
      exact any_round hd f _ a w h1
    | some o =>
      simp only [ho] at h1 ⊢
      split
      · rename_i hw
        simp only [hw, if_true] at h1
        rcases h1 with h1 | ⟨_, h1⟩
        · exact oper_round (noDefer_spec hd i o ho) (Oper.wp_mono (fun a' w' h' => any_round hd f _ a' w' h') h1)
        · exact absurd h1 (plainOut_not Q)
      · rename_i hw
        simp only [hw] at h1
        exact ⟨fun _ _ => trivial, any_round hd f _ _ w h1⟩
/-- A region that draws its order, in a round, under a condition on the world. -/
theorem wpIn_round_held {l n : Nat} {P : Program} {id : Nat} {Q : Exit → Act → World → Prop} {a : Act} {w : World} {ops : Array Oper} (S : World → Prop) (hm : P.follows .mixedOrders = true) (hd : noDefer ops = true) (hS : S w.drew)
    (h : S w.drew → wpAnyH P .any ops (plainOut Q) S ops.size (Array.replicate ops.size false) a w.drew) : (Code.region id ops true).wpIn (Fence.wide.inRound l) n P Q a w :=
  wpIn_region_any hm (any_round hd _ _ _ _ (wpAny_of_held _ _ _ _ (h hS)))
end
theorem wpIn_round_last {l n : Nat} {P : Program} {id : Nat} {Q : Exit → Act → World → Prop} {a : Act} {w : World} {ops : Array Oper} (S : World → Prop) (ds : List Nat) {N : Nat} (l0 : Array Bool) (hm : P.follows .mixedOrders = true) (hd : noDefer ops = true) (hn : ops.size = N) (hl : Array.replicate N false = l0) (hS : S w.drew)
    (h : S w.drew → wpAnyLast P .any ops (plainOut Q) S ds N l0 a w.drew) : (Code.region id ops true).wpIn (Fence.wide.inRound l) n P Q a w := by
  subst hn
  subst hl
  exact wpIn_region_any hm (any_round hd _ _ _ _ (wpAny_of_last _ _ _ _ (h hS)))
/-- 'append(s, x)' at one element, s a row of the call's own. -/
theorem append_wp {o : Oper} {a : Act} {K : Act → World → Prop} {Q : Exit → Act → World → Prop} {W : World} (s x : Operand) (ho : o.op = .call { callee := .builtin .append, args := #[s, x], argTypes := #[23, 23] })
    (B : Nat) (v : Value) (xs : List Int) (ok : Nat → Prop) (hs : a.eval s = v) (HO : Kd.R (Kd.int .i64) 3 W B ok v xs) (hfresh : ∀ k, W.heap.size ≤ k → ok k) (g : Nat) (y : Int) (hx : a.eval x = .slice (some ⟨g, 0, none⟩) 1 1)
    (hy : W.cell? ⟨g, 0, none⟩ = some (.int .i64 y)) (hl : xs.length ≤ 200) (hB : B ≤ W.heap.size)
    (h : ∀ v1 w1, Kd.R (Kd.int .i64) 3 w1 B ok v1 (xs ++ [y]) → W.grownBy w1 v.ownBlock → (v1.ownBlock = v.ownBlock ∨ ∃ b, v1.ownBlock = some b ∧ W.heap.size ≤ b) → K (a.put o.dst v1) w1) : o.wp Tryd.prog a W K Q := by
  obtain ⟨i0, hi, hz⟩ := Option.map_eq_some_iff.1 info3
  simp only [Prod.mk.injEq] at hz
  obtain ⟨hz0, hz1, hz2⟩ := hz
  obtain ⟨v1, w1, hr, h2, h3, _, h5⟩ := run_append_own_at (P := Tryd.prog) W B 23 o.type 3 i0 (.int .i64 0) 1 8 Tryd.underlying23 hi hz0 hz1 hz2 rfl (by omega) v xs.length (encs (Value.int .i64) xs) (Kd.own_of_R HO) ⟨g, 0, none⟩ 1 1 [.int .i64 y] rfl
    (by intro j u hu; cases j with
        | zero => obtain rfl : Value.int .i64 y = u := by simpa using hu
                  simpa [Addr.add] using hy
        | succ j => simp at hu)
    (by intro u hu; obtain rfl : u = .int .i64 y := by simpa using hu
        rfl) (by simp only [maxLen]; omega) (by omega) hB
  have hat : v1.ownBlock = v.ownBlock ∨ ∃ b, v1.ownBlock = some b ∧ W.heap.size ≤ b := h5.imp id (fun e => ⟨_, e, Nat.le_refl _⟩)
  have hR : Kd.R (Kd.int .i64) 3 w1 B ok v1 (xs ++ [y]) := by
    refine Kd.R_of_own (enc := Value.int .i64) (h1 := fun _ => rfl) (by simpa [encs] using h2) (fun k hk => ?_)
    rcases hat with e1 | ⟨b, e1, hbb⟩
    · exact HO.1 k (by rw [← e1]; exact hk)
    · rw [e1] at hk
      injection hk with hk
      subst hk
      exact hfresh _ hbb
  unfold Oper.wp execOp
  simp only [ho, resolve, invoke, builtin, Sem.run_bind, Sem.run_pure, Result.andThen_ok, List.map_toArray, List.map_cons, List.map_nil, hs, hx, hr]
  exact h v1 w1 hR h3 hat
end Go.Proofs.YtacoekniljimoaaDoor.Res
