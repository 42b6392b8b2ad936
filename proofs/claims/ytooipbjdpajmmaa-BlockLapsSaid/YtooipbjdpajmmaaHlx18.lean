/- Functions of the Go program as Lean functions, each with a proof that the call computes it. Conditions: none beyond each theorem's own. -/
import Derived.Test.YtooipbjdpajmmaaHlx0
import Derived.Test.YtooipbjdpajmmaaHlx14
import Derived.Test.YtooipbjdpajmmaaHlx17
namespace Go.Proofs.Ytooipbjdpajmmaa.Hl
open Go.RowKit Go.Proofs.YtooipbjdpajmmaaW.PrintWords Go.Proofs.YtooipbjdpajmmaaW.PrintLast Go.Proofs.YtooipbjdpajmmaaW.PrintMore
attribute [local go_sem] max2_int min2_int max_two min_two max_three min_three max_four min_four   -- for this text's walks alone
set_option linter.unusedVariables false
set_option linter.unusedSimpArgs false

/-! ### shawmref08_folded: function 63 (by hand) -/
/-- A pair of places, turned back. -/
def shawmref08_folded.pair (t : S70) (p i : Int) (x : List Int) : Option (List Int) :=
  if 0 ≤ p - 1 - i ∧ p + i < (x.length : Int) then (shawmref06_Factors_Back.f 300 t.f0 t.f1 t.f2 (rd x (p - 1 - i)) (rd x (p + i))).bind fun u => some ((x.set (p - 1 - i).toNat u.1).set (p + i).toNat u.2) else none
/-- The first i pairs of a lap. -/
def shawmref08_folded.turns (ts : List S70) (p : Int) (x : List Int) : Nat → Option (List Int)
  | 0 => some x
  | i + 1 => (shawmref08_folded.turns ts p x i).bind fun y => shawmref08_folded.pair (rd_T70 ts (i : Int)) p (i : Int) y
/-- The turns of the lap behind block k. -/
def shawmref08_folded.which (ts tl : List S70) (lay : List Int) (k : Nat) : List S70 := if min (rd lay (k : Int)) (rd lay ((k : Int) + 1)) = 128 then tl else ts
/-- The first k laps; and where the next block begins. -/
def shawmref08_folded.places (ts tl : List S70) (lay x : List Int) : Nat → Option (Int × List Int)
  | 0 => some (0, x)
  | k + 1 => (shawmref08_folded.places ts tl lay x k).bind fun s =>
    if 0 ≤ rd lay (k : Int) ∧ rd lay (k : Int) ≤ 65536 then (shawmref08_folded.turns (shawmref08_folded.which ts tl lay k) (s.1 + rd lay (k : Int)) s.2 (shawmref08_folded.which ts tl lay k).length).bind fun y => some (s.1 + rd lay (k : Int), y) else none
def shawmref08_folded.f (l0 l1 : List Int) (a2 : Bool) : Option (List Int) :=
  if a2 = true ∧ (0 < l0.length ∧ l0.length ≤ 65536) ∧ l1.length ≤ 512 then (shawmref08_laps.f 300 16).bind fun ts => (shawmref08_laps.f 300 128).bind fun tl => (shawmref08_folded.places ts tl l1 l0 (l1.length - 1)).bind fun s => some s.2 else none
theorem shawmref08_folded.turns_pre {ts : List S70} {p : Int} {x : List Int} {n : Nat} {r : List Int} (h : shawmref08_folded.turns ts p x n = some r) : ∀ i, i ≤ n → ∃ y, shawmref08_folded.turns ts p x i = some y := by
  induction n generalizing r with
  | zero => intro i hi; obtain rfl : i = 0 := by omega
            exact ⟨_, h⟩
  | succ n ih =>
    intro i hi
    by_cases e : i = n + 1
    · subst e; exact ⟨_, h⟩
    · simp only [shawmref08_folded.turns] at h
      obtain ⟨y, hy, _⟩ := Option.bind_eq_some_iff.mp h
      exact ih hy i (by omega)
theorem shawmref08_folded.places_pre {ts tl : List S70} {lay x : List Int} {n : Nat} {r : Int × List Int} (h : shawmref08_folded.places ts tl lay x n = some r) : ∀ i, i ≤ n → ∃ y, shawmref08_folded.places ts tl lay x i = some y := by
  induction n generalizing r with
  | zero => intro i hi; obtain rfl : i = 0 := by omega
            exact ⟨_, h⟩
  | succ n ih =>
    intro i hi
    by_cases e : i = n + 1
    · subst e; exact ⟨_, h⟩
    · simp only [shawmref08_folded.places] at h
      obtain ⟨y, hy, _⟩ := Option.bind_eq_some_iff.mp h
      exact ih hy i (by omega)
theorem shawmref08_folded.pair_len {t : S70} {p i : Int} {x y : List Int} (h : shawmref08_folded.pair t p i x = some y) : y.length = x.length := by
  unfold shawmref08_folded.pair at h
  split at h
  · obtain ⟨u, _, h⟩ := Option.bind_eq_some_iff.mp h
    injection h with h
    subst h
    simp
  · cases h
theorem shawmref08_folded.turns_len {ts : List S70} {p : Int} {x : List Int} : ∀ {n : Nat} {r : List Int}, shawmref08_folded.turns ts p x n = some r → r.length = x.length
  | 0, r, h => by injection h with h; rw [h]
  | n + 1, r, h => by
    simp only [shawmref08_folded.turns] at h
    obtain ⟨y, hy, h⟩ := Option.bind_eq_some_iff.mp h
    rw [shawmref08_folded.pair_len h, shawmref08_folded.turns_len hy]
theorem shawmref08_folded.C_empty (w : World) (A : Option Addr) : Kd.C (Kd.int .i64) w A 0 [] := ⟨rfl, by omega, fun h => by omega⟩
/-- What an append to a slice without room leaves. -/
structure shawmref08_folded.App (W w1 : World) (A : Option Addr) (n m : Nat) (l bs : List Int) (v : Value) : Prop where
  rd : ∃ A1 c1, v = .slice A1 (n + m) c1 ∧ n + m ≤ c1 ∧ Kd.C (Kd.int .i64) w1 A1 (n + m) (l ++ bs) ∧ (m = 0 → A1 = A ∧ c1 = n) ∧ (0 < m → ∃ g, A1 = some ⟨g, 0, none⟩ ∧ W.heap.size ≤ g)
  none : m = 0 → w1 = W
  own : 0 < m → Kd.R (Kd.int .i64) 3 w1 W.heap.size (fun _ => True) v (l ++ bs)
  below : Below W.heap.size W w1
theorem shawmref08_folded.append_full {ops : Array Oper} {rest : List Oper} {o : Oper} {a : Act} {Q : Exit → Act → World → Prop} {W : World} (hgd : o.guard = none) (s x : Operand) (ho : o.op = .call { callee := .builtin .append, args := #[s, x], argTypes := #[22, 22] })
    (A : Option Addr) (n : Nat) (l : List Int) (hs : a.eval s = .slice A n n) (hl : Kd.C (Kd.int .i64) W A n l) (A' : Option Addr) (m c : Nat) (bs : List Int) (hx : a.eval x = .slice A' m c) (hm : Kd.C (Kd.int .i64) W A' m bs) (hb : n + m ≤ 1000000) (hpos : 0 < m)
    (h : ∀ v w1, shawmref08_folded.App W w1 A n m l bs v → wpList Try.prog ops Q rest (a.put o.dst v) w1) : wpList Try.prog ops Q (o :: rest) a W := by
  obtain ⟨i0, hi, hz⟩ := Option.map_eq_some_iff.1 info3
  simp only [Prod.mk.injEq] at hz
  obtain ⟨hz0, hz1, hz2⟩ := hz
  have hl1 : l.length = n := hl.1
  have hm1 : bs.length = m := hm.1
  rcases Nat.eq_zero_or_pos m with h0 | h0
  · omega
  · obtain ⟨ad, eA, hc⟩ := (Kd.reads_of_C (d := (0 : Int)) hm).2.2 h0
    subst eA
    refine wpList_append_grows W hgd s x 22 ho 3 i0 (.int .i64 0) 1 8 Try.underlying22 hi hz0 hz1 hz2 rfl (by omega) A n n (l.map (Value.int .i64)) hs (fun e => ?_) (by simp [hl1]) (fun b e j u hu => ?_) ad m c (bs.map (Value.int .i64)) hx (by simp [hm1]) (fun j u hu => ?_) (by intro u hu; obtain ⟨q, _, rfl⟩ := List.mem_map.1 hu; rfl) (by omega) (by simp only [maxLen]; omega) (by omega) (fun v w1 hown hg => ?_)
    · subst e
      rcases Nat.eq_zero_or_pos n with hn | hn
      · exact ⟨hn, hn⟩
      · obtain ⟨ad, h, _⟩ := hl.2.2 hn
        cases h
    · subst e
      rw [List.getElem?_map] at hu
      obtain ⟨q, hq, rfl⟩ := Option.map_eq_some_iff.1 hu
      obtain ⟨hj, e2⟩ := List.getElem?_eq_some_iff.1 hq
      obtain ⟨ad2, e, hc2⟩ := (Kd.reads_of_C (d := (0 : Int)) hl).2.2 (by omega)
      cases e
      rw [hc2 j (by omega)]
      simp [List.getD_eq_getElem?_getD, hq]
    · rw [List.getElem?_map] at hu
      obtain ⟨q, hq, rfl⟩ := Option.map_eq_some_iff.1 hu
      obtain ⟨hj, e2⟩ := List.getElem?_eq_some_iff.1 hq
      rw [hc j (by omega)]
      simp [List.getD_eq_getElem?_getD, hq]
    · have hlen : (l ++ bs).length = n + m := by simp [hl1, hm1]
      have hR : Kd.R (Kd.int .i64) 3 w1 W.heap.size (fun _ => True) v (l ++ bs) := Kd.R_of_own (enc := Value.int .i64) (h1 := fun _ => rfl) (by rw [hlen]; simpa [encs] using hown) (fun _ _ => trivial)
      obtain ⟨g, cap, ev, hg1, hg2, _⟩ := Kd.R_form hR (by rw [hlen]; omega)
      rw [hlen] at ev
      subst ev
      obtain ⟨_, h2, h3⟩ := Kd.R_reads' hR
      rw [hlen] at h3
      refine h _ _ ⟨⟨_, _, rfl, h2, h3, fun e => by omega, fun _ => ⟨g, rfl, hg1⟩⟩, fun e => by omega, fun _ => hR, ⟨hg.os, hg.tape, hg.output, hg.size, fun k hk => hg.block k hk (by simp)⟩⟩
theorem shawmref08_folded.places_bound {ts tl : List S70} {lay x : List Int} : ∀ {k : Nat} {pp : Int} {y : List Int}, shawmref08_folded.places ts tl lay x k = some (pp, y) → (0 ≤ pp ∧ pp ≤ 65536 * (k : Int)) ∧ y.length = x.length
  | 0, pp, y, h => by
    simp only [shawmref08_folded.places, Option.some.injEq, Prod.mk.injEq] at h
    obtain ⟨rfl, rfl⟩ := h
    exact ⟨⟨by omega, by omega⟩, rfl⟩
  | k + 1, pp, y, h => by
    simp only [shawmref08_folded.places] at h
    obtain ⟨⟨p0, y0⟩, h0, h⟩ := Option.bind_eq_some_iff.mp h
    split at h
    case isFalse => cases h
    rename_i hc
    obtain ⟨y1, h1, h⟩ := Option.bind_eq_some_iff.mp h
    simp only [Option.some.injEq, Prod.mk.injEq] at h
    obtain ⟨rfl, rfl⟩ := h
    obtain ⟨⟨a1, a2⟩, a3⟩ := shawmref08_folded.places_bound h0
    refine ⟨⟨by omega, by omega⟩, (shawmref08_folded.turns_len h1).trans a3⟩
/-- One pair more. -/
theorem shawmref08_folded.turns_next {ts : List S70} {p : Int} {x y z : List Int} {j n : Nat} (h : shawmref08_folded.turns ts p x j = some y) (hz : shawmref08_folded.turns ts p x n = some z) (hj : j + 1 ≤ n) :
    (0 ≤ p - 1 - (j : Int) ∧ p + (j : Int) < (y.length : Int)) ∧ ∃ u1 u2, shawmref06_Factors_Back.f 300 (rd_T70 ts (j : Int)).f0 (rd_T70 ts (j : Int)).f1 (rd_T70 ts (j : Int)).f2 (rd y (p - 1 - (j : Int))) (rd y (p + (j : Int))) = some (u1, u2) ∧
      shawmref08_folded.turns ts p x (j + 1) = some ((y.set (p - 1 - (j : Int)).toNat u1).set (p + (j : Int)).toNat u2) := by
  obtain ⟨s, hs⟩ := shawmref08_folded.turns_pre hz (j + 1) hj
  have hs0 := hs
  simp only [shawmref08_folded.turns, h, Option.bind_some] at hs
  unfold shawmref08_folded.pair at hs
  split at hs
  case isFalse => cases hs
  rename_i hc
  obtain ⟨⟨u1, u2⟩, h1, h2⟩ := Option.bind_eq_some_iff.mp hs
  exact ⟨hc, u1, u2, h1, by rw [hs0, ← h2]⟩
/-- One lap more. -/
theorem shawmref08_folded.places_next {ts tl : List S70} {lay x : List Int} {k n : Nat} {pp : Int} {y : List Int} {z : Int × List Int} (h : shawmref08_folded.places ts tl lay x k = some (pp, y)) (hz : shawmref08_folded.places ts tl lay x n = some z) (hk : k + 1 ≤ n) :
    (0 ≤ rd lay (k : Int) ∧ rd lay (k : Int) ≤ 65536) ∧ ∃ y1, shawmref08_folded.turns (shawmref08_folded.which ts tl lay k) (pp + rd lay (k : Int)) y (shawmref08_folded.which ts tl lay k).length = some y1 ∧ shawmref08_folded.places ts tl lay x (k + 1) = some (pp + rd lay (k : Int), y1) := by
  obtain ⟨s, hs⟩ := shawmref08_folded.places_pre hz (k + 1) hk
  have hs0 := hs
  simp only [shawmref08_folded.places, h, Option.bind_some] at hs
  split at hs
  case isFalse => cases hs
  rename_i hc
  obtain ⟨y1, h1, h2⟩ := Option.bind_eq_some_iff.mp hs
  exact ⟨hc, y1, h1, by rw [hs0, ← h2]⟩
/-- Of a world nothing but block p has turned. -/
structure shawmref08_folded.Upd (p : Nat) (w w' : World) : Prop where
  os : w'.os = w.os
  tape : w'.tape = w.tape
  output : w'.output = w.output
  size : w.heap.size ≤ w'.heap.size
  block : ∀ k, k < w.heap.size → k ≠ p → w'.heap[k]? = w.heap[k]?
theorem shawmref08_folded.Upd.refl (p : Nat) (w : World) : shawmref08_folded.Upd p w w := ⟨rfl, rfl, rfl, Nat.le_refl _, fun _ _ _ => rfl⟩
theorem shawmref08_folded.Upd.below {p B : Nat} {a w w' : World} (h : Below B a w) (hB : B ≤ p) (hs : B ≤ a.heap.size) (u : shawmref08_folded.Upd p w w') : Below B a w' :=
  ⟨u.os.trans h.os, u.tape.trans h.tape, u.output.trans h.output, Nat.le_trans h.size u.size, fun k hk => (u.block k (by have := h.size; omega) (by omega)).trans (h.block k hk)⟩
/-- A row in other blocks stays. -/
theorem shawmref08_folded.Upd.row {α : Type} {d : Kd α} {e p B : Nat} {w w' : World} {v : Value} {xs : List α} (u : shawmref08_folded.Upd p w w') (h : d.R e w B (fun _ => True) v xs) (hp : p < B) : d.R e w' B (fun _ => True) v xs :=
  Kd.R_mono (Kd.R_step (Kd.R_bound h) (fun k hk hlt => u.block k hlt (by have := hk.2.1; omega))) (fun _ _ => trivial)
theorem shawmref08_folded.Upd.drewN {p : Nat} {w w' : World} (u : shawmref08_folded.Upd p w w') (n : Nat) : shawmref08_folded.Upd p w (w'.drewN n) := ⟨u.os, u.tape, u.output, u.size, u.block⟩
theorem shawmref08_folded.Upd.alloc {p : Nat} {w w' : World} (u : shawmref08_folded.Upd p w w') (o : Obj) : shawmref08_folded.Upd p w (w'.alloc o) :=
  ⟨u.os, u.tape, u.output, by have := u.size; simp; omega, fun k hk hp => ((below_alloc (Below.refl w'.heap.size w') o).block k (by have := u.size; omega)).trans (u.block k hk hp)⟩
theorem shawmref08_folded.Upd.step {p : Nat} {w w' w2 : World} (u : shawmref08_folded.Upd p w w') (hb : Below w'.heap.size w' w2) : shawmref08_folded.Upd p w w2 :=
  ⟨hb.os.trans u.os, hb.tape.trans u.tape, hb.output.trans u.output, Nat.le_trans u.size hb.size, fun k hk hp => (hb.block k (by have := u.size; omega)).trans (u.block k hk hp)⟩
theorem shawmref08_folded.Upd.set {p : Nat} {w w' : World} (u : shawmref08_folded.Upd p w w') (i : Nat) (v : Value) : shawmref08_folded.Upd p w (w'.setCell ⟨p, i, none⟩ v) :=
  ⟨u.os, u.tape, u.output, by have := u.size; simp [World.setCell]; omega, fun k hk hp => (Below.heap_setCell _ _ _ _ hp).trans (u.block k hk hp)⟩
/-- A number of a row of its own. -/
theorem shawmref08_folded.cell {e g n cap base : Nat} {W : World} {ok : Nat → Prop} {xs : List Int} (h : Kd.R (Kd.int .i64) e W base ok (.slice (some ⟨g, 0, none⟩) n cap) xs) (i : Nat) (hi : (i : Int) < (n : Int)) : W.cell? ⟨g, i, none⟩ = some (.int .i64 (rdOf 0 xs (i : Int))) ∧ W.frozen? ⟨g, i, none⟩ = false := by
  have z := Kd.R_celln (0 : Int) h (i : Int) (by omega) hi
  rw [Int.toNat_natCast] at z
  exact z
/-- A number is put. -/
theorem shawmref08_folded.put {e g n cap base : Nat} {W : World} {ok : Nat → Prop} {xs : List Int} (h : Kd.R (Kd.int .i64) e W base ok (.slice (some ⟨g, 0, none⟩) n cap) xs) (i : Nat) (x : Int) : Kd.R (Kd.int .i64) e (W.setCell ⟨g, i, none⟩ (.int .i64 x)) base ok (.slice (some ⟨g, 0, none⟩) n cap) (xs.set i x) := by
  have z := Kd.R_putn h (i : Int) x
  rw [Int.toNat_natCast] at z
  exact z
set_option maxHeartbeats 4000000 in
set_option maxRecDepth 100000 in
theorem shawmref08_folded.calls (A0 : Option Addr) (c0 : Nat) (l0 : List Int) (A1 : Option Addr) (c1 : Nat) (l1 : List Int) (a2 : Bool) (r : List Int) (w : World) (hr0 : Kd.C (Kd.int .i64) w A0 l0.length l0) (hc0 : l0.length ≤ c0) (hr1 : Kd.C (Kd.int .i64) w A1 l1.length l1) (hc1 : l1.length ≤ c1) (h : shawmref08_folded.f l0 l1 a2 = some r) :
    Calls Try.prog 63 #[.slice A0 l0.length c0, .slice A1 l1.length c1, .bool a2] w fun e w' => ∃ v0_ : Value, e = .returned v0_ ∧ Kd.R (Kd.int .i64) 3 w' w.heap.size (fun _ => True) v0_ r ∧ Below w.heap.size w w' := by
  unfold shawmref08_folded.f at h
  split at h
  case isFalse => cases h
  rename_i hc
  obtain ⟨rfl, ⟨hn0, hn1⟩, hk⟩ := hc
  obtain ⟨ts, hts, h⟩ := Option.bind_eq_some_iff.mp h
  obtain ⟨tl, htl, h⟩ := Option.bind_eq_some_iff.mp h
  obtain ⟨⟨pz, yz⟩, hz, h⟩ := Option.bind_eq_some_iff.mp h
  injection h with h
  subst h
  have HTS := Aside0.mk hts
  have HTL := Aside0.mk htl
  have HZ := Aside0.mk hz
  have HR0 := Aside0.mk hr0
  have HR1 := Aside0.mk hr1
  obtain ⟨n, hn⟩ : ∃ n, n = l0.length := ⟨_, rfl⟩
  rw [← hn] at hn0 hn1 HR0 ⊢
  have HN := Aside0.mk hn
  clear hts htl hz hr0 hr1 hc0 hn
  go_enter Try.func63, Try.ntmps63
  go_wp2_with (first
    | ((with_reducible refine gate_dst (N := 19) rfl ?_); refine shawmref08_folded.append_full rfl (.tmp 17) (.tmp 18) rfl _ 0 [] rfl (shawmref08_folded.C_empty _ _) A0 n c0 l0 rfl (Kd.C_alloc HR0.out _) (by omega) hn0 ?_; intro v1 w1 hA; have HA := Aside0.mk (hA.own hn0); have HAB := Aside0.mk (below_step (below_alloc (Below.refl w.heap.size w) _) hA.below); have HAS := Aside0.mk hA.below.size; clear hA)
    | (go_at_call 68; with_reducible refine (shawmref08_laps.calls 300 16 ts _ HTS.out).mono ?_; rintro e w2 ⟨vs, rfl, ho, hb⟩; have HOS := Aside0.mk ho; have HBS := Aside0.mk hb; clear ho hb)
    | (go_at_call 68; with_reducible refine (shawmref08_laps.calls 300 128 tl _ HTL.out).mono ?_; rintro e w3 ⟨vl, rfl, ho, hb⟩; have HOL := Aside0.mk ho; have HBL := Aside0.mk hb; clear ho hb))
  have hAR := HA.out
  rw [List.nil_append] at hAR
  obtain ⟨g, cap, rfl, hg1, hg2, _⟩ := Kd.R_form hAR (by rw [← HN.out]; exact hn0)
  rw [← HN.out] at hAR ⊢
  have HG := Aside0.mk (show w.heap.size ≤ g ∧ g < w1.heap.size by simp only [World.size_alloc] at hg1; omega)
  have HROW := Aside0.mk (Kd.R_below (Kd.R_below (Kd.R_lower (base' := w.heap.size) hAR (by simp)) HBS.out) HBL.out)
  have HTS3 := Aside0.mk (Kd.R_below HOS.out HBL.out)
  have HTL3 := Aside0.mk (Kd.R_lower (base' := w1.heap.size) HOL.out HBS.out.size)
  have HW3 := Aside0.mk (below_step (below_step HAB.out HBS.out) HBL.out)
  have HC1 := Aside0.mk hc1
  obtain ⟨As, cs, rfl, _, _⟩ := Kd.R_reads HTS3.out
  obtain ⟨Al, cl, rfl, _, _⟩ := Kd.R_reads HTL3.out
  clear hAR hg1 hg2 HA HAB HAS HOS HOL HTS HTL hc1
  go_loopw [10, 11] (fun p i wr => ∃ (k : Nat) (pp : Int) (y : List Int), p = .int .i64 pp ∧ i = .int .i64 (k : Int) ∧ Aside0 (k ≤ l1.length - 1 ∧ shawmref08_folded.places ts tl l1 l0 k = some (pp, y)) ∧ Aside0 (Kd.R (Kd.int .i64) 3 wr w.heap.size (fun _ => True) (.slice (some ⟨g, 0, none⟩) n cap) y) ∧ Aside0 (shawmref08_folded.Upd g w3 wr)) (fun _ i _ => l1.length - (intOf i).toNat)
  case atStart => exact ⟨0, 0, l0, rfl, rfl, ⟨by omega, rfl⟩, HROW, ⟨shawmref08_folded.Upd.refl _ _⟩⟩
  case round =>
    obtain ⟨k, pp, y, rfl, rfl, HK, HY, HU⟩ := hrel
    by_cases hlt : k + 1 < l1.length
    · obtain ⟨⟨hr0, hr1⟩, y1, ht1, hp1⟩ := shawmref08_folded.places_next HK.out.2 HZ.out (by omega)
      obtain ⟨⟨hp0, hp9⟩, hyl⟩ := shawmref08_folded.places_bound HK.out.2
      have hbw := shawmref08_folded.Upd.below HW3.out HG.out.1 (Nat.le_refl _) HU.out
      obtain ⟨ad, rfl, hxa⟩ := Kd.at_int (Kd.C_below HR1.out hbw) (k : Int) (by omega) (by omega)
      obtain ⟨ad', ead, hxb⟩ := Kd.at_int (Kd.C_below HR1.out hbw) ((k : Int) + 1) (by omega) (by omega)
      injection ead with ead
      subst ead
      have ek : ((k : Int) + 1).toNat = k + 1 := by omega
      rw [Int.toNat_natCast] at hxa
      rw [ek] at hxb
      have HT1 := Aside0.mk ht1
      have HP1 := Aside0.mk hp1
      have HYL := Aside0.mk hyl
      have HLT := Aside0.mk hlt
      have hd : (k : Int) + 1 < (l1.length : Int) := by omega
      have hk5 : k ≤ 512 := by omega
      obtain ⟨a, ha⟩ : ∃ a, a = rd l1 (k : Int) := ⟨_, rfl⟩
      obtain ⟨b, hb⟩ : ∃ b, b = rd l1 ((k : Int) + 1) := ⟨_, rfl⟩
      rw [← ha] at hxa hr0 hr1 HT1 HP1
      rw [← hb] at hxb
      have HW := Aside0.mk (show shawmref08_folded.which ts tl l1 k = if min a b = 128 then tl else ts by unfold shawmref08_folded.which; rw [ha, hb])
      clear ht1 hp1 hyl hlt hbw ek ha hb
      have hxb2 : wr.cell? { block := ad.block, off := ad.off + (k + 1) } = some (.int .i64 b) := by simpa [Addr.add] using hxb
      have hk0 : (0 : Int) ≤ (k : Int) := by omega
      have hk1 : (k : Int) < (l1.length : Int) := by omega
      have w1' : IntKind.i64.wrap ((k : Int) + 1) = (k : Int) + 1 := IntWalk.i64_in _ (by omega)
      have hk2 : (0 : Int) ≤ (k : Int) + 1 := by omega
      have hk3 : ((k : Int) + 1).toNat = k + 1 := by omega
      go_upto_region 9 with (fail)
      go_cut [46] (fun c wx => c = .bool (decide (min a b = 128)) ∧ Aside0 (Kd.R (Kd.int .i64) 3 wx w.heap.size (fun _ => True) (.slice (some ⟨g, 0, none⟩) n cap) y) ∧ Aside0 (shawmref08_folded.Upd g w3 wx))
      case first =>
        by_cases hba : b < a
        · go_quiet ((skip))
          go_wp2
          go_meet
          case rel => exact ⟨by rw [Int.min_eq_right (by omega)]; rfl, ⟨Kd.R_drewN HY.out _⟩, ⟨HU.out.drewN _⟩⟩
        · go_quiet ((skip))
          go_wp2
          go_meet
          case rel => exact ⟨by rw [Int.min_eq_left (by omega)]; rfl, ⟨Kd.R_drewN HY.out _⟩, ⟨HU.out.drewN _⟩⟩
      case rest =>
        clear HY HU hxa hxb hxb2
        obtain ⟨rfl, HY, HU⟩ := hcut
        obtain ⟨tt, htt⟩ : ∃ tt, tt = shawmref08_folded.which ts tl l1 k := ⟨_, rfl⟩
        have HT2 := HT1.out
        rw [← htt] at HT2
        have HT3 := Aside0.mk HT2
        have HW2 := HW.out
        rw [← htt] at HW2
        clear HT2 HT1 HW htt
        go_upto_if 46 with (fail)
        go_cut [12] (fun c wx => ∃ A cc, c = .slice A tt.length cc ∧ Aside0 (tt.length ≤ cc) ∧ Aside0 (Kd.R k70 70 w3 w1.heap.size (fun _ => True) (.slice A tt.length cc) tt) ∧ Aside0 (Kd.R (Kd.int .i64) 3 wx w.heap.size (fun _ => True) (.slice (some ⟨g, 0, none⟩) n cap) y) ∧ Aside0 (shawmref08_folded.Upd g w3 wx))
        case first =>
          by_cases hm : min a b = 128
          · rw [if_pos hm] at HW2
            subst HW2
            have hd4 : decide (min a b = 128) = true := decide_eq_true hm
            go_wp2
            go_meet
            case rel => exact ⟨Al, cl, rfl, ⟨(Kd.R_reads' HTL3.out).2.1⟩, HTL3, HY, HU⟩
          · rw [if_neg hm] at HW2
            subst HW2
            have hd4 : decide (min a b = 128) = false := decide_eq_false hm
            go_wp2
            go_meet
            case rel => exact ⟨As, cs, rfl, ⟨(Kd.R_reads' HTS3.out).2.1⟩, HTS3, HY, HU⟩
        case rest =>
          clear HY HU
          obtain ⟨At, ct, rfl, HCT, HTT, HY, HU⟩ := hcut
          clear HW2
          go_wp2
          go_loopw [50] (fun i wt => ∃ (j : Nat) (yy : List Int), i = .int .i64 (j : Int) ∧ Aside0 (j ≤ tt.length ∧ shawmref08_folded.turns tt (pp + a) y j = some yy) ∧ Aside0 (Kd.R (Kd.int .i64) 3 wt w.heap.size (fun _ => True) (.slice (some ⟨g, 0, none⟩) n cap) yy) ∧ Aside0 (shawmref08_folded.Upd g w3 wt)) (fun i _ => tt.length - (intOf i).toNat)
          case atStart => exact ⟨0, y, rfl, ⟨by omega, rfl⟩, HY, HU⟩
          case round =>
            obtain ⟨j, yy, rfl, HJ, HYY, HUU⟩ := hrel
            by_cases hj : j < tt.length
            · have ht1 := HT3.out
              obtain ⟨⟨c1', c2'⟩, u1, u2, hb1, hn1'⟩ := shawmref08_folded.turns_next HJ.out.2 ht1 (by omega)
              have HB1 := Aside0.mk hb1
              have hlen : n = yy.length := (Kd.R_reads' HYY.out).1
              rw [← hlen] at c2'
              have hrt := shawmref08_folded.Upd.row HUU.out HTT.out HG.out.2
              obtain ⟨hrl, _, hrc⟩ := Kd.R_reads' hrt
              obtain ⟨at0, eat, x0, x1, x2⟩ := at_T70 hrc (j : Int) (by omega) (by omega)
              obtain ⟨r1, f1⟩ := Kd.R_celln (0 : Int) HYY.out (pp + a - 1 - (j : Int)) (by omega) (by omega)
              obtain ⟨r2, f2⟩ := Kd.R_celln (0 : Int) HYY.out (pp + a + (j : Int)) (by omega) (by omega)
              have HJT := Aside0.mk hj
              have hgw : g < wr.heap.size := by have h1 := HG.out.2; have h2 := HUU.out.size; have h3 := HBS.out.size; have h4 := HBL.out.size; omega
              subst eat
              obtain ⟨f, hf⟩ : ∃ f, f = rd_T70 tt (j : Int) := ⟨_, rfl⟩
              rw [← hf] at x0 x1 x2 HB1
              rw [Int.toNat_natCast] at x0 x1 x2
              obtain ⟨i1, hi1⟩ := Int.eq_ofNat_of_zero_le c1'
              obtain ⟨i2, hi2⟩ := Int.eq_ofNat_of_zero_le (show 0 ≤ pp + a + (j : Int) by omega)
              have q1 : IntKind.i64.wrap (pp + a - 1) = pp + a - 1 := IntWalk.i64_in _ (by omega)
              have q2 : IntKind.i64.wrap (pp + a - 1 - (j : Int)) = (i1 : Int) := by rw [← hi1]; exact IntWalk.i64_in _ (by omega)
              have q3 : IntKind.i64.wrap (pp + a + (j : Int)) = (i2 : Int) := by rw [← hi2]; exact IntWalk.i64_in _ (by omega)
              have b1 : (i1 : Int) < (n : Int) := by omega
              have b2 : (i2 : Int) < (n : Int) := by omega
              rw [hi1, Int.toNat_natCast] at r1 f1
              rw [hi2, Int.toNat_natCast] at r2 f2
              rw [hi1, hi2, Int.toNat_natCast, Int.toNat_natCast] at hn1'
              have HN1 := Aside0.mk hn1'
              have hj1 : (j : Int) < (tt.length : Int) := by omega
              have hj0 : (0 : Int) ≤ (j : Int) := by omega
              have HB2 := Aside0.mk (show shawmref06_Factors_Back.f 300 f.f0 f.f1 f.f2 (rdOf 0 yy (i1 : Int)) (rdOf 0 yy (i2 : Int)) = some (u1, u2) by have h := HB1.out; rw [hi1, hi2] at h; exact h)
              clear hj ht1 hb1 hn1' hlen hrt hrl hrc hf hi1 hi2 HB1
              go_upto_region 14 with (fail)
              go_quiet ((skip))
              go_wp2_with ((go_at_call 66; with_reducible refine (shawmref06_Factors_Back.calls 300 _ _ _ _ _ u1 u2 _ HB2.out).mono ?_; rintro e w5 ⟨rfl, hb5⟩; have HU5 := Aside0.mk (shawmref08_folded.Upd.step ((shawmref08_folded.Upd.alloc HUU.out _).drewN _) hb5); have HY5 := Aside0.mk (Kd.R_below (Kd.R_drewN (Kd.R_alloc HYY.out _) _) hb5); have z1 := (shawmref08_folded.cell HY5.out i1 b1).1; have z2 := (shawmref08_folded.cell HY5.out i1 b1).2; have HY6 := Aside0.mk (shawmref08_folded.put HY5.out i1 u1); have z3 := (shawmref08_folded.cell HY6.out i2 b2).1; have z4 := (shawmref08_folded.cell HY6.out i2 b2).2; clear hb5))
              have HY7 := Aside0.mk (shawmref08_folded.put HY6.out i2 u2)
              have HU7 := Aside0.mk ((HU5.out.set i1 (.int .i64 u1)).set i2 (.int .i64 u2))
              go_roundw
              case rel => exact ⟨j + 1, _, by go_num, ⟨by have := HJT.out; omega, HN1.out⟩, HY7, HU7⟩
              case measure => have := HJT.out; simp [intOf]; omega
            · have hjn : j = tt.length := by have := HJ.out.1; omega
              have hd5 : ¬ ((j : Int) < (tt.length : Int)) := by omega
              have hyz : yy = y1 := by
                have h1 := HJ.out.2
                rw [hjn, HT3.out] at h1
                injection h1 with h1
                exact h1.symm
              subst hyz
              have HJN := Aside0.mk hjn
              clear hj hjn
              go_wp2
              go_roundw
              case rel => exact ⟨k + 1, _, _, by go_num, by go_num, ⟨by have := HLT.out; omega, HP1.out⟩, HYY, HUU⟩
              case measure => have := HLT.out; simp [intOf]; omega
    · have hd : ¬ ((k : Int) + 1 < (l1.length : Int)) := by omega
      have hkn : k = l1.length - 1 := by have := HK.out.1; omega
      have hk5 : k ≤ 512 := by omega
      have hz2 := HZ.out
      rw [← hkn] at hz2
      have e := HK.out.2.symm.trans hz2
      simp only [Option.some.injEq, Prod.mk.injEq] at e
      obtain ⟨rfl, rfl⟩ := e
      clear hkn hlt hz2
      go_wp2
      go_ret
      exact ⟨_, rfl, HY.out, shawmref08_folded.Upd.below HW3.out HG.out.1 (Nat.le_refl _) HU.out⟩

end Go.Proofs.Ytooipbjdpajmmaa.Hl
