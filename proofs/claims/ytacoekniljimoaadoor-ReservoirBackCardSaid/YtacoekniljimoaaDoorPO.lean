/- Chapter 23, the pools: rows of bytes; appends to a slice without room; what lies in a pool. Conditions: none beyond each theorem's own. -/
import Derived.Test.YtacoekniljimoaaDoorK
import Derived.ArgAppend
import Derived.Deep.Upon
namespace Go.Proofs.YtacoekniljimoaaDoor.Res
open Go.RowKit Go.Proofs.YtacoekniljimoaaDoorW.PrintWords Go.Proofs.YtacoekniljimoaaDoorW.PrintLast Go.Proofs.YtacoekniljimoaaDoorW.PrintMore
attribute [local go_sem] max2_int min2_int max_two min_two
set_option linter.unusedVariables false
set_option linter.unusedSimpArgs false
theorem info5 : (Tryd.prog.info? 5).map (fun i => (i.zero, i.size, i.bytes)) = some (some (.int .u8 0), 1, 1) := by kernel_rfl
/-- A row of bytes reads so in every world in which its block lies as it lay. -/
theorem C_block {k : IntKind} {w w' : World} {A : Option Addr} {n : Nat} {xs : List Int} (h : Kd.C (Kd.int k) w A n xs) (hb : ∀ ad, A = some ad → 0 < n → w'.heap[ad.block]? = w.heap[ad.block]?) : Kd.C (Kd.int k) w' A n xs := by
  have hr := Kd.reads_of_C (d := (0 : Int)) h
  refine Kd.C_of_reads (d := (0 : Int)) ⟨hr.1, hr.2.1, fun hn => ?_⟩
  obtain ⟨ad, e, hc⟩ := hr.2.2 hn
  refine ⟨ad, e, fun j hj => ?_⟩
  rw [World.cell?_of_block (w := w) (a := ad.add j) (by have := hb ad e hn; by_cases j0 : j = 0 <;> simpa [Addr.add, j0] using this)]
  exact hc j hj
/-- What an append to a slice without room leaves. -/
structure App (W w1 : World) (A : Option Addr) (n m : Nat) (l bs : List Int) (v : Value) : Prop where
  rd : ∃ A1 c1, v = .slice A1 (n + m) c1 ∧ n + m ≤ c1 ∧ Kd.C (Kd.int .u8) w1 A1 (n + m) (l ++ bs) ∧ (m = 0 → A1 = A ∧ c1 = n) ∧ (0 < m → ∃ g, A1 = some ⟨g, 0, none⟩ ∧ W.heap.size ≤ g)
  none : m = 0 → w1 = W
  own : 0 < m → Kd.R (Kd.int .u8) 5 w1 W.heap.size (fun _ => True) v (l ++ bs)
  below : Below W.heap.size W w1
theorem append_full {ops : Array Oper} {rest : List Oper} {o : Oper} {a : Act} {Q : Exit → Act → World → Prop} {W : World} (hgd : o.guard = none) (s x : Operand) (ho : o.op = .call { callee := .builtin .append, args := #[s, x], argTypes := #[37, 37] })
    (A : Option Addr) (n : Nat) (l : List Int) (hs : a.eval s = .slice A n n) (hl : Kd.C (Kd.int .u8) W A n l) (A' : Option Addr) (m c : Nat) (bs : List Int) (hx : a.eval x = .slice A' m c) (hm : Kd.C (Kd.int .u8) W A' m bs) (hb : n + m ≤ 1000000)
    (h : ∀ v w1, App W w1 A n m l bs v → wpList Tryd.prog ops Q rest (a.put o.dst v) w1) : wpList Tryd.prog ops Q (o :: rest) a W := by
  obtain ⟨i0, hi, hz⟩ := Option.map_eq_some_iff.1 info5
  simp only [Prod.mk.injEq] at hz
  obtain ⟨hz0, hz1, hz2⟩ := hz
  have hl1 : l.length = n := hl.1
  have hm1 : bs.length = m := hm.1
  rcases Nat.eq_zero_or_pos m with h0 | h0
  · subst h0
    obtain rfl : bs = [] := List.eq_nil_of_length_eq_zero hm1
    refine wpList_plain hgd fun K hK => ?_
    have hrun : (Builtin.append_ #[37, 37] o.type #[.slice A n n, .slice A' 0 c]).run Tryd.prog W = .ok (.slice A n n) W := by
      refine run_append_nothing W 37 37 o.type 5 i0 Tryd.underlying37 hi A n n (Nat.le_refl _) _ ⟨.inl ⟨5, Tryd.underlying37⟩, fun w' => by simp [Builtin.lenOf], ?_, ?_, by simp, by simp⟩
      · cases A' with
        | none => exact run_firstCells_none W _ _ _ _
        | some b => exact run_firstCells_some W i0.size 0 b 0 c [] (by simp) (by simp)
      · cases A' with
        | none => exact run_firstCells_none W.drew _ _ _ _
        | some b => exact run_firstCells_some W.drew i0.size 0 b 0 c [] (by simp) (by simp)
    unfold Oper.wp
    simp [execOp, ho, resolve, invoke, builtin, hs, hx, hrun, Result.andThen]
    exact hK _ _ (h _ _ ⟨⟨A, n, rfl, by omega, by simpa using hl, fun _ => ⟨rfl, rfl⟩, fun h => by omega⟩, fun _ => rfl, fun h => by omega, Below.refl _ _⟩)
  · obtain ⟨ad, eA, hc⟩ := (Kd.reads_of_C (d := (0 : Int)) hm).2.2 h0
    subst eA
    refine wpList_append_grows W hgd s x 37 ho 5 i0 (.int .u8 0) 1 1 Tryd.underlying37 hi hz0 hz1 hz2 rfl (by omega) A n n (l.map (Value.int .u8)) hs (fun e => ?_) (by simp [hl1]) (fun b e j u hu => ?_) ad m c (bs.map (Value.int .u8)) hx (by simp [hm1]) (fun j u hu => ?_) (by intro u hu; obtain ⟨q, _, rfl⟩ := List.mem_map.1 hu; rfl) (by omega) (by simp only [maxLen]; omega) (by omega) (fun v w1 hown hg => ?_)
    · subst e
      rcases Nat.eq_zero_or_pos n with hn | hn
      · exact ⟨hn, hn⟩
      · obtain ⟨ad, h, _⟩ := hl.2.2 hn
        cases h
    · subst e
      rw [List.getElem?_map] at hu
      obtain ⟨q, hq, rfl⟩ := Option.map_eq_some_iff.1 hu
      obtain ⟨hj, e2⟩ := List.getElem?_eq_some_iff.1 hq
      obtain ⟨ad2, e, hc2⟩ := (Kd.reads_of_C (d := (0 : Int)) hl).2.2 (by omega)
      cases e
      rw [hc2 j (by omega)]
      simp [List.getD_eq_getElem?_getD, hq]
    · rw [List.getElem?_map] at hu
      obtain ⟨q, hq, rfl⟩ := Option.map_eq_some_iff.1 hu
      obtain ⟨hj, e2⟩ := List.getElem?_eq_some_iff.1 hq
      rw [hc j (by omega)]
      simp [List.getD_eq_getElem?_getD, hq]
    · have hlen : (l ++ bs).length = n + m := by simp [hl1, hm1]
      have hR : Kd.R (Kd.int .u8) 5 w1 W.heap.size (fun _ => True) v (l ++ bs) := Kd.R_of_own (enc := Value.int .u8) (h1 := fun _ => rfl) (by rw [hlen]; simpa [encs] using hown) (fun _ _ => trivial)
      obtain ⟨g, cap, ev, hg1, hg2, _⟩ := Kd.R_form hR (by rw [hlen]; omega)
      rw [hlen] at ev
      subst ev
      obtain ⟨_, h2, h3⟩ := Kd.R_reads' hR
      rw [hlen] at h3
      refine h _ _ ⟨⟨_, _, rfl, h2, h3, fun e => by omega, fun _ => ⟨g, rfl, hg1⟩⟩, fun e => by omega, fun _ => hR, ⟨hg.os, hg.tape, hg.output, hg.size, fun k hk => hg.block k hk (by simp)⟩⟩
theorem run_from (A : Option Addr) (n c k : Nat) (hk : k ≤ n) (hc : n ≤ c) (W : World) : (Instr.slice 37 (.slice A n c) (some (.int .i64 (k : Int))) none none).run Tryd.prog W = .ok (.slice (if c = k then A else A.map (·.add k)) (n - k) (c - k)) W := by
  obtain ⟨i0, hi, hz⟩ := Option.map_eq_some_iff.1 info5
  simp only [Prod.mk.injEq] at hz
  have hel : Tryd.prog.elem 37 = 5 := by simp [Program.elem, Tryd.underlying37]
  rw [run_slice_l W 37 A n c (by rw [hel]; exact Tryd.underlying37) .i64 (k : Int) (Int.natCast_nonneg _) (by omega), hel]
  simp [sizeOf, typeInfo, hi, hz.2.1, sliced, Result.andThen]
end Go.Proofs.YtacoekniljimoaaDoor.Res
