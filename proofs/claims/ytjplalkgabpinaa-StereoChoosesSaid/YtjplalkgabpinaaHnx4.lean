/- The machine's side of laws of the seat Ytjplalkgabpinaa, printed by a program of this session over the kit's printer: functions of the Go program as Lean functions, each with a proof that the call computes it. Conditions: none beyond each theorem's own. -/
import Derived.Test.YtjplalkgabpinaaHnx0
import Derived.Test.YtjplalkgabpinaaHnx1
import Derived.Test.YtjplalkgabpinaaHnx2
import Derived.Test.YtjplalkgabpinaaHnx3
namespace Go.Proofs.Ytjplalkgabpinaa.Hn
open Go.RowKit Go.Proofs.YtjplalkgabpinaaW.PrintWords Go.Proofs.YtjplalkgabpinaaW.PrintLast Go.Proofs.YtjplalkgabpinaaW.PrintMore
attribute [local go_sem] max2_int min2_int max_two min_two max_three min_three max_four min_four   -- for this text's walks alone
set_option linter.unusedVariables false
set_option linter.unusedSimpArgs false

/-! ### stereo_gains: function 28 (by hand) -/
section
/-- A region's way out that is the common one alone. -/
def plainOut (Q : Exit → Act → World → Prop) : Exit → Act → World → Prop := fun e a w => e = .normal ∧ Q .normal a w
theorem plainOut_not (Q : Exit → Act → World → Prop) : ¬ LetsOut (plainOut Q) := by
  rintro ⟨a, w, h, _⟩
  cases h
def noDefer (ops : Array Oper) : Bool := ops.all fun o => match o.op with | .defer .. => false | _ => true
theorem noDefer_spec {ops : Array Oper} (h : noDefer ops = true) (j : Nat) (o : Oper) (ho : ops[j]? = some o) (c) : o.op ≠ .defer c := by
  intro heq
  have := Array.all_eq_true_iff_forall_mem.1 h o (Array.mem_of_getElem? ho)
  simp [heq] at this
theorem oper_round {l n : Nat} {P : Program} {o : Oper} {a : Act} {w : World} {K : Act → World → Prop} {Q : Exit → Act → World → Prop} (hd : ∀ c, o.op ≠ .defer c) (h : o.wp P a w K (plainOut Q)) :
    o.wpIn (Fence.wide.inRound l) n P a w K Q := by
  refine ⟨fun _ _ => trivial, ?_⟩
  have e : o.semAt (Fence.wide.inRound l).round a.eval = execOp a.eval o := Oper.semAt_some l a.eval o hd
  rw [e]
  unfold Oper.wp at h
  generalize (execOp a.eval o).run P w = r at *
  cases r with
  | ok x w' =>
    cases x with
    | value v => exact h
    | skip => exact h
    | defer d => exact h
    | enter f args =>
      refine ⟨fun hh => by simp [Fence.inRound, Fence.wide] at hh, CallsIn.inRound l (callsIn_wide.2 (Calls.mono h ?_))⟩
      intro e w'' he
      cases e with
      | returned v => exact he
      | panicked c => exact absurd he.1 (by simp)
      | outgrown => exact absurd he (plainOut_not Q)
    | row row args =>
      refine ⟨fun hh => by simp [Fence.inRound, Fence.wide] at hh, fun c cs _ => ?_⟩
      obtain ⟨v, w'', hR, hs⟩ := h c cs
      exact ⟨v, w'', hR, stepsIn_wide.2 hs⟩
    | _ => exact h.elim
  | halt x w' =>
    cases x with
    | panic v => exact absurd h.1 (by simp)
    | _ => exact h.elim
theorem any_round {l n : Nat} {P : Program} {md : Region.Mode} {ops : Array Oper} {Q : Exit → Act → World → Prop} (hd : noDefer ops = true) : ∀ (f : Nat) (listed : Array Bool) (a : Act) (w : World),
    wpAny P md ops (plainOut Q) f listed a w → wpAnyIn (Fence.wide.inRound l) n P md ops Q f listed a w
  | 0, _, _, _, h => ⟨h.1, h.2.2⟩
  | f + 1, listed, a, w, h => by
    refine ⟨fun h0 => (h.1 h0).2, fun i hi => ?_⟩
    have h1 := h.2 i hi
    unfold wpOp at h1
    unfold Go.wpOpIn
    cases ho : ops[i]? with
    | none =>
      simp only [ho] at h1
      exact any_round hd f _ a w h1
    | some o =>
      simp only [ho] at h1 ⊢
      split
      · rename_i hw
        simp only [hw, if_true] at h1
        rcases h1 with h1 | ⟨_, h1⟩
        · exact oper_round (noDefer_spec hd i o ho) (Oper.wp_mono (fun a' w' h' => any_round hd f _ a' w' h') h1)
        · exact absurd h1 (plainOut_not Q)
      · rename_i hw
        simp only [hw] at h1
        exact ⟨fun _ _ => trivial, any_round hd f _ _ w h1⟩
/-- A region whose last operations stand in a row, inside a round. -/
theorem wpIn_round_tail {l n : Nat} {P : Program} {id : Nat} {Q : Exit → Act → World → Prop} {a : Act} {w : World} {ops : List Oper} (k : Nat) (hm : P.follows .mixedOrders = true) (hd : noDefer ops.toArray = true) (hB : Region.lexTailB .any ops.toArray k = true)
    (h : wpStill P ops.toArray w.drew (fun a' => wpList P ops.toArray (plainOut Q) (ops.drop k) a' w.drew) (ops.take k) a) : (Code.region id ops.toArray true).wpIn (Fence.wide.inRound l) n P Q a w := by
  unfold Region.lexTailB at hB
  simp only [Bool.and_eq_true, decide_eq_true_eq, List.size_toArray] at hB
  obtain ⟨⟨⟨⟨b0, b1⟩, b2⟩, b3⟩, b4⟩ := hB
  have l1 : (ops.take k).length = k := by rw [List.length_take]; omega
  have l2 : (ops.drop k).length = ops.length - k := by rw [List.length_drop]
  refine wpIn_region_any hm (any_round hd _ _ _ _ ?_)
  have H := wpAnyL_lex (md := .any) (g := ops.length - k) b0 b2 b3 (by simpa using b1) (ops.take k) 0 (Array.replicate ops.length false) a
    (fun j hj => by rw [l1] at hj; simp [hj]) (by rw [l1]; omega)
    ⟨by simp, fun j oj _ hj => (by rw [getD_replicate_false] at hj; cases hj), fun t _ ht => getD_in (by simpa using ht) (getD_replicate_false _ _)⟩
    (by rw [l1]; exact b4) h
  have R := wpAny_of_head (Q' := plainOut Q) (g := ops.length - k) (fun listed a' hL => by
    have := wpAny_of_seq (md := .any) (Q' := plainOut Q) (ops.drop k) k listed a' w.drew (fun j => by simp [List.getElem?_drop]) (by rw [l2]; exact hL.1) hL.2
    rw [l2] at this
    exact this) _ _ _ H
  have e : k + (ops.length - k) = ops.length := by omega
  rw [l1, e] at R
  simpa using R
/-- The cost of a number. -/
def costV (c : Int) : Int := logB (mx c (-c) + 1)
theorem logB_bound {n : Int} (h0 : 1 ≤ n) (h1 : n ≤ 1073741824) : 0 ≤ logB n ∧ logB n ≤ 8192 := by
  have hb := mantB_bound h0
  have hf := frAt_bound hb.1 hb.2 8
  have hl := log_le n h0 h1
  unfold logB
  omega
theorem costV_bound {c : Int} (h0 : -8388608 ≤ c) (h1 : c ≤ 8388608) : 0 ≤ costV c ∧ costV c ≤ 8192 := by
  unfold costV
  refine logB_bound ?_ ?_
  · unfold mx; split <;> omega
  · unfold mx; split <;> omega
theorem cost_step {c s : Int} (h0 : -8388608 ≤ c) (h1 : c ≤ 8388608) (k : Nat) (f : Int → Option Int) (hs0 : 0 ≤ s) (hs : s ≤ 1099511627776) :
    ((fixed_Log.f (wrap64 ((mx c (wrap64 (-c))) + 1))).bind fun bt => f (wrap64 (s + bt.1))) = f (s + costV c) := by
  have hb := costV_bound h0 h1
  have e1 : wrap64 (-c) = -c := by unfold wrap64; omega
  have e2 : wrap64 (mx c (-c) + 1) = mx c (-c) + 1 := by unfold mx wrap64; split <;> omega
  have e3 : fixed_Log.f (mx c (-c) + 1) = some (costV c, 0) := by
    unfold fixed_Log.f
    rw [if_pos (by unfold mx; split <;> omega)]
    rfl
  rw [e1, e2, e3, Option.bind_some]
  simp only
  rw [show wrap64 (s + costV c) = s + costV c by unfold wrap64; omega]
def costL (l : List Int) : Int := (l.map costV).sum
theorem cost_l0 (l : List Int) (hl : l.length ≤ 1000) (hb : ∀ x ∈ l, -8388608 ≤ x ∧ x ≤ 8388608) (d : Nat) : ∀ (i : Nat) (s : Int), i + d = l.length → 0 ≤ s → s + 8192 * (d : Int) ≤ 1099511627776 →
    Ev (fun k => stereo_cost.l0 k s l (l.length : Int) (i : Int)) (s + costL (l.drop i)) := by
  induction d with
  | zero =>
    intro i s hi h0 h1
    have e : s + costL (l.drop i) = s := by rw [List.drop_of_length_le (by omega)]; simp [costL]
    rw [e]
    refine Ev.step (f := fun _ => some s) (fun k => ?_) (Ev.now _)
    simp only [stereo_cost.l0]
    rw [if_neg (by omega)]
  | succ d ih =>
    intro i s hi h0 h1
    have hr := rd_get l i (by omega)
    have hx := hb l[i] (List.getElem_mem (by omega))
    have hc := costV_bound hx.1 hx.2
    have e : s + costL (l.drop i) = (s + costV (rd l (i : Int))) + costL (l.drop (i + 1)) := by
      rw [List.drop_eq_getElem_cons (by omega), hr]; unfold costL; rw [List.map_cons, List.sum_cons]; omega
    rw [e]
    have hw : wrap64 ((i : Int) + 1) = ((i + 1 : Nat) : Int) := by unfold wrap64; omega
    rw [← hr] at hc hx
    refine Ev.step (fun k => ?_) (ih (i + 1) (s + costV (rd l (i : Int))) (by omega) (by omega) (by omega))
    simp only [stereo_cost.l0]
    rw [if_pos (by omega), if_pos (by omega), if_pos (by omega), hw]
    exact cost_step hx.1 hx.2 k (fun s => stereo_cost.l0 k s l (l.length : Int) ((i + 1 : Nat) : Int)) h0 (by omega)
theorem cost_ev (l : List Int) (hl : l.length ≤ 1000) (hb : ∀ x ∈ l, -8388608 ≤ x ∧ x ≤ 8388608) : Ev (fun k => stereo_cost.f k l) (costL l) := by
  have h := cost_l0 l hl hb l.length 0 0 (by omega) (by omega) (by omega)
  rw [List.drop_zero, Int.zero_add] at h
  exact Ev.congr (fun k => rfl) h
theorem cost_two (a b : Int) (h0 : -8388608 ≤ a) (h1 : a ≤ 8388608) (h2 : -8388608 ≤ b) (h3 : b ≤ 8388608) : ∃ k, stereo_cost.f k [a, b] = some (costV a + costV b) := by
  obtain ⟨k, h⟩ := Ev.rounds (cost_ev [a, b] (by simp) (fun x hx => by
    simp only [List.mem_cons, List.not_mem_nil, or_false] at hx
    rcases hx with rfl | rfl
    · exact ⟨h0, h1⟩
    · exact ⟨h2, h3⟩))
  exact ⟨k, by rw [h]; simp [costL]⟩
/-- A literal of two numbers, read where it has just been made. -/
theorem two_reads (W : World) {B : Nat} (hB : B = W.heap.size) (a b : Int) : Kd.C (Kd.int .i64) (W.alloc (.cells #[.int .i64 a, .int .i64 b] 3)) (some ⟨B, 0, none⟩) 2 [a, b] := by
  subst hB
  refine ⟨rfl, by omega, fun _ => ⟨_, rfl, fun j p hj => ⟨[.int .i64 p], rfl, rfl, fun i u hu => ?_⟩⟩⟩
  cases i with
  | zero =>
    have : Value.int .i64 p = u := by simpa using hu
    subst this
    have hb : (W.alloc (.cells #[.int .i64 a, .int .i64 b] 3)).heap[W.heap.size]? = some (.cells #[.int .i64 a, .int .i64 b] 3 (0, 0)) := World.alloc_heap_new W _
    cases j with
    | zero =>
      have hp : a = p := by simpa using hj
      subst hp
      show World.cell? _ ((⟨W.heap.size, 0, none⟩ : Addr).add 0) = _
      simp only [Addr.add, ↓reduceIte, World.cell?, hb]
      rfl
    | succ j =>
      cases j with
      | zero =>
        have hp : b = p := by simpa using hj
        subst hp
        have ea : (⟨W.heap.size, 0, none⟩ : Addr).add 1 = ⟨W.heap.size, 1, none⟩ := by simp [Addr.add]
        show World.cell? _ ((⟨W.heap.size, 0, none⟩ : Addr).add 1) = _
        rw [ea]
        simp only [World.cell?, hb]
        rfl
      | succ j => simp at hj
  | succ i => simp at hu
theorem costtwo_calls (k : Nat) (a b C : Int) (A : Option Addr) (c : Nat) (w : World) (hr : Kd.C (Kd.int .i64) w A 2 [a, b]) (hc : 2 ≤ c) (h : stereo_cost.f k [a, b] = some C) :
    Calls Try.prog 48 #[.slice A 2 c] w fun e w' => e = .returned (.int .i64 C) ∧ Below w.heap.size w w' := stereo_cost.calls k A c [a, b] C w hr hc h
set_option maxHeartbeats 2000000 in
theorem zero_calls (w : World) : Calls Try.prog 45 #[] w fun e w' => e = .returned (.int .i64 0) ∧ w = w' := by
  go_enter Try.func45, Try.ntmps45
  go_wp2
  go_ret
  exact ⟨rfl, rfl⟩
/-- What coupling a pair saves. -/
def pairG (l r : Int) : Int := costV l + costV r - (costV (r + (l - r) / 2) + costV (l - r))
theorem pairG_bound {l r : Int} (h0 : -2097152 ≤ l) (h1 : l ≤ 2097152) (h2 : -2097152 ≤ r) (h3 : r ≤ 2097152) : -16384 ≤ pairG l r ∧ pairG l r ≤ 16384 := by
  have a := costV_bound (c := l) (by omega) (by omega)
  have b := costV_bound (c := r) (by omega) (by omega)
  have c := costV_bound (c := r + (l - r) / 2) (by omega) (by omega)
  have d := costV_bound (c := l - r) (by omega) (by omega)
  unfold pairG
  omega
set_option maxHeartbeats 4000000 in
theorem addgain_calls (s l r : Int) (w : World) (hs0 : -4194304 ≤ s) (hs1 : s ≤ 4194304) (h0 : -2097152 ≤ l) (h1 : l ≤ 2097152) (h2 : -2097152 ≤ r) (h3 : r ≤ 2097152) :
    Calls Try.prog 47 #[.int .i64 s, .int .i64 l, .int .i64 r] w fun e w' => e = .returned (.int .i64 (s + pairG l r)) ∧ Below w.heap.size w w' := by
  obtain ⟨k1, hk1⟩ := cost_two l r (by omega) (by omega) (by omega) (by omega)
  obtain ⟨k2, hk2⟩ := cost_two (r + (l - r) / 2) (l - r) (by omega) (by omega) (by omega) (by omega)
  have a := costV_bound (c := l) (by omega) (by omega)
  have b := costV_bound (c := r) (by omega) (by omega)
  have c := costV_bound (c := r + (l - r) / 2) (by omega) (by omega)
  have d := costV_bound (c := l - r) (by omega) (by omega)
  have hmid : lift_Mid.f l r = some (r + (l - r) / 2, l - r, 0) := by
    unfold lift_Mid.f inB
    rw [if_pos (by simp; omega), if_pos (by simp; omega)]
  have HMID := Aside0.mk hmid
  unfold pairG
  obtain ⟨m, hm⟩ : ∃ m, m = r + (l - r) / 2 := ⟨_, rfl⟩
  obtain ⟨q, hq⟩ : ∃ q, q = l - r := ⟨_, rfl⟩
  rw [← hm] at hk2 HMID c ⊢
  rw [← hq] at hk2 HMID d ⊢
  have HK1 := Aside0.mk hk1
  have HK2 := Aside0.mk hk2
  generalize hC : costV l + costV r = C at *
  generalize hD : costV m + costV q = D at *
  have c1 : 0 ≤ C := by omega
  have c2 : C ≤ 16384 := by omega
  have d1 : 0 ≤ D := by omega
  have d2 : D ≤ 16384 := by omega
  have e1 : s + (C - D) = s + C - D := by omega
  rw [e1]
  clear a b c d hk1 hk2 hmid hm hq hC hD e1
  go_enter Try.func47, Try.ntmps47
  go_wp2_with (first | (go_at_call 30; refine (lift_Mid.calls l r m q 0 _ HMID.out).mono ?_; rintro e w1 ⟨rfl, hb⟩; have HB1 := Aside0.mk hb; clear hb) | (go_at_call 48; (with_reducible refine (costtwo_calls k1 l r C (some ⟨w1.heap.size, 0, none⟩) 2 _ ?s1 ?s2 HK1.out).mono ?_); (case s1 => exact two_reads w1 rfl l r); (case s2 => omega); rintro e w2 ⟨rfl, hb⟩; have HB2 := Aside0.mk (below_step (below_alloc HB1.out _) hb); clear hb) | (go_at_call 48; (with_reducible refine (costtwo_calls k2 m q D (some ⟨w2.heap.size, 0, none⟩) 2 _ ?s3 ?s4 HK2.out).mono ?_); (case s3 => exact two_reads w2 rfl m q); (case s4 => omega); rintro e w3 ⟨rfl, hb⟩; have HB3 := Aside0.mk (below_step (below_alloc HB2.out _) hb); clear hb))
  go_ret
  exact ⟨rfl, HB3.out⟩
attribute [local go_sem] Oper.semAt_some
/-- The sum of what coupling saves at n pairs from a on. -/
def bandSum (l r : List Int) (a : Nat) : Nat → Int
  | 0 => 0
  | n + 1 => bandSum l r a n + pairG (rd l ((a + n : Nat) : Int)) (rd r ((a + n : Nat) : Int))
def bandG (l r ws : List Int) (b : Nat) : Int := bandSum l r (offN ws b) (offN ws (b + 1) - offN ws b)
def gainL (l r ws : List Int) (pre : List Nat) : List Int := pre.map (bandG l r ws)
theorem gainL_length (l r ws : List Int) (pre : List Nat) : (gainL l r ws pre).length = pre.length := List.length_map _
theorem gainL_snoc (l r ws : List Int) (pre : List Nat) (x : Nat) : gainL l r ws (pre ++ [x]) = gainL l r ws pre ++ [bandG l r ws x] := by simp [gainL]
/-- Coefficients. -/
def Coefs (m : Int) (l : List Int) : Prop := ∀ i : Nat, -m ≤ rd l (i : Int) ∧ rd l (i : Int) ≤ m
theorem bandSum_bound {l r : List Int} (hl : Coefs 2097152 l) (hr : Coefs 2097152 r) (a n : Nat) : -(16384 * (n : Int)) ≤ bandSum l r a n ∧ bandSum l r a n ≤ 16384 * (n : Int) := by
  induction n with
  | zero => simp [bandSum]
  | succ n ih =>
    have h1 := hl (a + n)
    have h2 := hr (a + n)
    have := pairG_bound h1.1 h1.2 h2.1 h2.2
    simp only [bandSum]
    omega
theorem keeps_of_below {W W' : World} (h : Below W.heap.size W W') : KeepsOthers W W' := ⟨h.size, fun k o hk _ => (h.block k (Array.getElem?_eq_some_iff.1 hk).1).trans hk⟩
theorem boxed_below {W W' : World} {B : Nat} {t : TypeId} {v : Value} (h : Boxed W B t v) (hb : Below W.heap.size W W') : Boxed W' B t v := (hb.block B h.lt).trans h
theorem own_stays {W W' : World} {B e size n : Nat} {v : Value} {xs : List Value} (h : W.ownsRow B e size v n xs) (hb : Below W.heap.size W W') : W'.ownsRow B e size v n xs :=
  h.kept (row := none) ⟨hb.os, hb.tape, hb.output, hb.size, fun k hk _ => hb.block k hk⟩ (Classical.em _)
set_option maxRecDepth 100000 in
set_option maxHeartbeats 8000000 in
theorem eachgain_calls (A0 A1 A2 : Option Addr) (c0 c1 c2 : Nat) (l r ws : List Int) (w : World) (hl : Kd.C (Kd.int .i64) w A0 l.length l) (hr : Kd.C (Kd.int .i64) w A1 r.length r) (hw : Kd.C (Kd.int .i64) w A2 ws.length ws) (hln : l.length = 128) (hrn : r.length = 128) (hwo : WOk ws) (hlc : Coefs 2097152 l) (hrc : Coefs 2097152 r) :
    Calls Try.prog 46 #[.slice A0 128 c0, .slice A1 128 c1, .slice A2 ws.length c2, .func (.func 45) #[] #[], .func (.func 47) #[] #[]] w fun e w' =>
      ∃ v0_ : Value, e = .returned v0_ ∧ Kd.R (Kd.int .i64) 3 w' w.heap.size (fun _ => True) v0_ (gainL l r ws (List.range ws.length)) ∧ Below w.heap.size w w' := by
  rw [hln] at hl
  rw [hrn] at hr
  have HL := Aside0.mk hl
  have HR := Aside0.mk hr
  have HW := Aside0.mk hw
  have HWO := Aside0.mk hwo
  have HLC := Aside0.mk hlc
  have HRC := Aside0.mk hrc
  have hlen : ws.length ≤ 32 := hwo.2.2.2
  clear hl hr hw hln hrn hwo hlc hrc
  obtain ⟨i0, hi, hz0, hz1, hz2⟩ := info_parts info3
  refine (callsIn_wide (n := 3)).1 ?_
  refine callsIn_of_wp_marks Try.func46 rfl trivial ?_ rfl
  simp only [Try.ntmps46, List.size_toArray, List.length_cons, List.length_nil, Nat.reduceAdd, Nat.reduceSub, Array.replicate_succ, Array.replicate_zero, List.push_toArray, List.append_toArray, List.nil_append, List.cons_append]
  gi_wp2_with (refine ⟨trivial, ?_⟩; gi_at_call 52; refine (ends_in Fence.wide _ trivial rfl A2 _ c2 _).mono ?_; rintro e w' ⟨rfl, rfl⟩)
  have b0 := Boxed.new w 22 (.slice A0 128 c0)
  have b1 := Boxed.new (w.alloc (.cells #[.slice A0 128 c0] 22)) 22 (.slice A1 128 c1)
  have b2 := Boxed.new ((w.alloc (.cells #[.slice A0 128 c0] 22)).alloc (.cells #[.slice A1 128 c1] 22)) 55 (.func (.func 45) #[] #[])
  have b3 := Boxed.new (((w.alloc (.cells #[.slice A0 128 c0] 22)).alloc (.cells #[.slice A1 128 c1] 22)).alloc (.cells #[.func (.func 45) #[] #[]] 55)) 62 (.func (.func 47) #[] #[])
  have b4 := Boxed.new ((((w.alloc (.cells #[.slice A0 128 c0] 22)).alloc (.cells #[.slice A1 128 c1] 22)).alloc (.cells #[.func (.func 45) #[] #[]] 55)).alloc (.cells #[.func (.func 47) #[] #[]] 62)) 22 (.slice none 0 0)
  have b5 := Boxed.new (((((w.alloc (.cells #[.slice A0 128 c0] 22)).alloc (.cells #[.slice A1 128 c1] 22)).alloc (.cells #[.func (.func 45) #[] #[]] 55)).alloc (.cells #[.func (.func 47) #[] #[]] 62)).alloc (.cells #[.slice none 0 0] 22)) 22 (.slice A2 ws.length c2)
  simp only [World.size_alloc] at b0 b1 b2 b3 b4 b5
  have hB0 : Below w.heap.size w ((((((w.alloc (.cells #[.slice A0 128 c0] 22)).alloc (.cells #[.slice A1 128 c1] 22)).alloc (.cells #[.func (.func 45) #[] #[]] 55)).alloc (.cells #[.func (.func 47) #[] #[]] 62)).alloc (.cells #[.slice none 0 0] 22)).alloc (.cells #[.slice A2 ws.length c2] 22)) := (((((((Below.refl _ w).alloc (Nat.le_refl _) _).alloc (by simp) _).alloc (by simp; omega) _).alloc (by simp; omega) _).alloc (by simp; omega) _).alloc (by simp; omega) _)
  refine wpIn_rangeFunc_ownG rfl (by omega) (gf := 56) (lb := #[.pointer (some ⟨w.heap.size + 1 + 1 + 1 + 1 + 1, 0, none⟩)]) rfl trivial (enters_of Try.func56 (by kernel_rfl) rfl)
    (ends_stops Fence.wide 2 trivial rfl (by omega) (w.heap.size + 1 + 1 + 1 + 1 + 1) A2 c2 ws HWO.out w _ hB0 (by simp) b5.cell HW.out) belowK_t (belowK_b (by simp; omega)) (Below.refl _ _) (fun _ => rfl)
    (fun pre W => (∃ v, Boxed W (w.heap.size + 1 + 1 + 1 + 1) 22 v ∧ W.ownsRow w.heap.size 3 1 v (gainL l r ws pre).length ((gainL l r ws pre).map (Value.int .i64)) ∧ (0 < 1 ∨ v = v)) ∧ Boxed W w.heap.size 22 (.slice A0 128 c0) ∧ Boxed W (w.heap.size + 1) 22 (.slice A1 128 c1) ∧ Boxed W (w.heap.size + 1 + 1) 55 (.func (.func 45) #[] #[]) ∧ Boxed W (w.heap.size + 1 + 1 + 1) 62 (.func (.func 47) #[] #[]) ∧ Below w.heap.size w W)
    (fun _ _ _ => False)
    (OwnFrom.and (Own.from (holdsRow_own w.heap.size (w.heap.size + 1 + 1 + 1 + 1) 22 3 1 (fun pre : List Nat => (gainL l r ws pre).length) (fun pre : List Nat => (gainL l r ws pre).map (Value.int .i64)) (fun (_ : List Nat) v => 0 < 1 ∨ v = v)) _) (OwnFrom.and (Own.from (boxed_own w.heap.size 22 (fun (_ : List Nat) => Value.slice A0 128 c0)) _) (OwnFrom.and (Own.from (boxed_own (w.heap.size + 1) 22 (fun (_ : List Nat) => Value.slice A1 128 c1)) _) (OwnFrom.and (Own.from (boxed_own (w.heap.size + 1 + 1) 55 (fun (_ : List Nat) => Value.func (.func 45) #[] #[])) _) (OwnFrom.and (Own.from (boxed_own (w.heap.size + 1 + 1 + 1) 62 (fun (_ : List Nat) => Value.func (.func 47) #[] #[])) _) (ownFrom_below (Nat.le_refl _) (by simp; omega)))))))
    (fun _ _ _ _ _ hs _ _ => hs)
    ⟨⟨_, b4.alloc _, World.ownsRow_nil _ _ _ _, .inl (by omega)⟩, ((((b0.alloc _).alloc _).alloc _).alloc _).alloc _, (((b1.alloc _).alloc _).alloc _).alloc _, ((b2.alloc _).alloc _).alloc _, (b3.alloc _).alloc _, hB0⟩
    (fun x => { tmps := #[.slice A0 128 c0, .slice A1 128 c1, .slice A2 ws.length c2, .func (.func 45) #[] #[], .func (.func 47) #[] #[], .pointer (some ⟨w.heap.size, 0, none⟩), .pointer (some ⟨w.heap.size + 1, 0, none⟩), undef, .pointer (some ⟨w.heap.size + 1 + 1, 0, none⟩), .pointer (some ⟨w.heap.size + 1 + 1 + 1, 0, none⟩), .slice none 0 0, .pointer (some ⟨w.heap.size + 1 + 1 + 1 + 1, 0, none⟩), .int .i64 (offN ws x : Int), .int .i64 (offN ws (x + 1) : Int), undef, undef, .slice A2 ws.length c2, .func (.func 56) #[] #[.pointer (some ⟨w.heap.size + 1 + 1 + 1 + 1 + 1, 0, none⟩)], .int .i64 (offN ws x : Int), .int .i64 (offN ws (x + 1) : Int), undef, undef, undef, undef, undef, undef, undef, undef, undef, undef, undef, undef, undef, undef, undef, undef, undef, undef, undef, undef, undef, undef, undef, undef], defers := [] }) ?assign ?body ?done ?stop
  case assign =>
    intro l x W K hK
    gi_wp2
    exact hK
  case body =>
    rintro lr pre x W ⟨⟨v, hv, hrow, _⟩, x0, x1, x2, x3, hB⟩ hlt
    have X0 := Aside0.mk x0
    have X1 := Aside0.mk x1
    have X2 := Aside0.mk x2
    have X3 := Aside0.mk x3
    have HV := Aside0.mk hv
    have HROW := Aside0.mk hrow
    have HB := Aside0.mk hB
    have HLT := Aside0.mk hlt
    have hc2 := x2.cell
    have o1 := offN_le HWO.out x
    have o2 := offN_le HWO.out (x + 1)
    have o3 := offN_mono ws x
    have hbg : bandG l r ws x = bandSum l r (offN ws x) (offN ws (x + 1) - offN ws x) := rfl
    have HBG := Aside0.mk hbg
    clear x0 x1 x2 x3 hv hrow hB hlt hbg
    obtain ⟨a, ha⟩ : ∃ a, a = offN ws x := ⟨_, rfl⟩
    obtain ⟨b, hb⟩ : ∃ b, b = offN ws (x + 1) := ⟨_, rfl⟩
    rw [← ha, ← hb] at HBG
    rw [← ha] at o1 o3 ⊢
    rw [← hb] at o2 o3 ⊢
    clear ha hb
    gi_wp2_with (refine ⟨trivial, ?_⟩; gi_at_call 45; refine (CallsIn.inRound lr (callsIn_wide.2 (zero_calls _))).mono ?_; rintro e w' ⟨rfl, rfl⟩)
    clear hc2
    gi_loopw [14, 15] (fun s i wr => ∃ n : Nat, i = .int .i64 ((a + n : Nat) : Int) ∧ s = .int .i64 (bandSum l r a n) ∧ Aside0 (a + n ≤ b) ∧ Aside0 (Below W.heap.size W wr)) (fun _ i _ => (b : Nat) - (intOf i).toNat)
    case atStart => exact ⟨0, rfl, rfl, ⟨o3⟩, ⟨Below.refl _ _⟩⟩
    case round =>
      obtain ⟨n, rfl, hs, HN, HBW⟩ := hrel
      by_cases hn : a + n < b
      · have HNT := Aside0.mk hn
        obtain ⟨i, hie⟩ : ∃ i, i = a + n := ⟨_, rfl⟩
        have hbs := bandSum_bound HLC.out HRC.out a n
        have hst : bandSum l r a (n + 1) = bandSum l r a n + pairG (rd l ((a + n : Nat) : Int)) (rd r ((a + n : Nat) : Int)) := rfl
        obtain ⟨S, hS⟩ : ∃ S, S = bandSum l r a n := ⟨_, rfl⟩
        rw [← hS] at hs hbs hst
        rw [← hie] at hst hn ⊢
        subst hs
        obtain ⟨ad, e, hx⟩ := Kd.at_int HL.out (i : Int) (by omega) (by omega)
        subst e
        obtain ⟨ad2, e, hy⟩ := Kd.at_int HR.out (i : Int) (by omega) (by omega)
        subst e
        have hbb : Below w.heap.size w wr := HB.out.trans (HBW.out.mono HB.out.size)
        replace hx := pw_cell_below hbb hx
        replace hy := pw_cell_below hbb hy
        simp only [Int.toNat_natCast] at hx hy
        have g1 := HLC.out i
        have g2 := HRC.out i
        have hd : decide ((i : Int) < (b : Int)) = true := decide_eq_true (by omega)
        have d0 := (boxed_below X0.out HBW.out).cell
        have d1 := (boxed_below X1.out HBW.out).cell
        have d3 := (boxed_below X3.out HBW.out).cell
        obtain ⟨u1, hu1⟩ : ∃ u, u = rd l (i : Int) := ⟨_, rfl⟩
        obtain ⟨u2, hu2⟩ : ∃ u, u = rd r (i : Int) := ⟨_, rfl⟩
        rw [← hu1] at hx g1 hst
        rw [← hu2] at hy g2 hst
        have HST := Aside0.mk hst
        have HG := Aside0.mk (show (-4194304 ≤ S ∧ S ≤ 4194304) ∧ (-2097152 ≤ u1 ∧ u1 ≤ 2097152) ∧ (-2097152 ≤ u2 ∧ u2 ≤ 2097152) by omega)
        have HIE := Aside0.mk hie
        have i128 : (i : Int) < 128 := by omega
        clear hst hu1 hu2 hS g1 g2 hbs hbb hie
        gi_wp2
        refine wpIn_round_tail 10 (by kernel_rfl) (by kernel_rfl) (by kernel_rfl) ?_
        simp only [List.take_succ_cons, List.take_zero, List.drop_succ_cons, List.drop_zero]
        repeat still_step
        refine wpStill_nil ?_
        have hG := HG.out
        go_wp2_with (go_at_call 47; refine (addgain_calls S u1 u2 _ (by omega) (by omega) (by omega) (by omega) (by omega) (by omega)).mono ?_; rintro e w' ⟨rfl, HB2⟩)
        refine ⟨rfl, ?_⟩
        gi_wp2
        go_roundw
        case rel => exact ⟨n + 1, by rw [HIE.out]; congr 1, by rw [HST.out], ⟨by have := HIE.out; omega⟩, ⟨(pw_below_drewN HBW.out 1).trans (HB2.mono HBW.out.size)⟩⟩
        case measure => simp [intOf]; omega
      · have hd : decide ((((a + n : Nat)) : Int) < (b : Int)) = false := decide_eq_false (by omega)
        have en : n = b - a := by have := HN.out; omega
        subst en
        rw [← HBG.out] at hs
        obtain ⟨S, hS⟩ : ∃ S, S = bandG l r ws x := ⟨_, rfl⟩
        rw [← hS] at hs
        subst hs
        have hv := boxed_below HV.out HBW.out
        have hrow := own_stays HROW.out HBW.out
        have hbb : Below w.heap.size w wr := HB.out.trans (HBW.out.mono HB.out.size)
        have hc := hv.cell
        have hx0 := boxed_below X0.out HBW.out
        have hx1 := boxed_below X1.out HBW.out
        have hx2 := boxed_below X2.out HBW.out
        have hx3 := boxed_below X3.out HBW.out
        have Y0 := Aside0.mk hx0
        have Y1 := Aside0.mk hx1
        have Y2 := Aside0.mk hx2
        have Y3 := Aside0.mk hx3
        have hsz := hbb.size
        have hpl := HLT.out
        clear hx0 hx1 hx2 hx3
        obtain ⟨q, hq⟩ : ∃ q, q = a + (b - a) := ⟨_, rfl⟩
        rw [← hq] at hd ⊢
        have hd2 : ¬ (q < b) := by omega
        have HS := Aside0.mk hS
        have HQ := Aside0.mk hq
        clear hS hq
        gi_wp2_with (gi_at_builtin; refine wpListIn_append_own _ rfl _ _ 22 rfl w.heap.size 3 i0 (.int .i64 0) 1 8 Try.underlying22 hi hz0 hz1 hz2 rfl (by decide) _ _ _ rfl (hrow.alloc _) ⟨wr.heap.size, 0, none⟩ 1 1 [.int .i64 S] rfl rfl (cell_one_new _ _ _) (by simp [Value.oneCell']) (by rw [gainL_length]; unfold maxLen; omega) (by rw [gainL_length]; omega) (by simp; omega) ?_; intro v' w1 hown' hgrow _; obtain ⟨g', cap', rfl⟩ := ownsRow_succ hown'; obtain ⟨hv1, hv2, hr2, hk2, hb2⟩ := hv.appended (by decide) hrow hsz (by omega) hown' hgrow; have hc1 := hv1.cell; have hf1 := hv1.frozen)
        exact ⟨((keeps_of_below HBW.out).trans hk2).from _, (HBW.out.mono HB.out.size).trans hb2, ⟨_, hv2, by rw [gainL_snoc, ← HS.out]; simpa using hr2⟩, ((((Y0.out.alloc _).kept hgrow (Y0.out.not_row (by decide) hrow)).other (by omega) (Value.slice (some ⟨g', 0, none⟩) ((gainL l r ws pre).length + 1) cap'))), ((((Y1.out.alloc _).kept hgrow (Y1.out.not_row (by decide) hrow)).other (by omega) (Value.slice (some ⟨g', 0, none⟩) ((gainL l r ws pre).length + 1) cap'))), ((((Y2.out.alloc _).kept hgrow (Y2.out.not_row (by decide) hrow)).other (by omega) (Value.slice (some ⟨g', 0, none⟩) ((gainL l r ws pre).length + 1) cap'))), ((((Y3.out.alloc _).kept hgrow (Y3.out.not_row (by decide) hrow)).other (by omega) (Value.slice (some ⟨g', 0, none⟩) ((gainL l r ws pre).length + 1) cap'))), hbb.trans hb2⟩
  case done =>
    rintro D ys W hD rfl ⟨⟨v, hv, hrow, _⟩, _, _, _, _, hB⟩ hK
    have hc := hv.cell
    gi_wp2
    refine ⟨by simp, .inl ⟨_, _, rfl, run_takeDeferred hK, ?_⟩⟩
    exact ⟨_, results_tmp rfl _ _ _, v, rfl, Kd.R_of_own (enc := Value.int .i64) (h1 := fun _ => rfl) (ownsRow_putObj hrow _ hK rfl) (fun _ _ => trivial), hB.trans (belowK_b (w := w) (Nat.le_refl _) W D _ _ (by simp at hD; omega) hK rfl rfl)⟩
  case stop =>
    rintro D c pre W _ _ h _
    exact h.elim
theorem coefs_of {m : Int} (hm : 0 ≤ m) {l : List Int} (h : ∀ x ∈ l, -m ≤ x ∧ x ≤ m) : Coefs m l := fun i => by
  by_cases hi : i < l.length
  · rw [rd_get l i hi]; exact h _ (List.getElem_mem hi)
  · unfold rd; simp [List.getD_eq_getElem?_getD, List.getElem?_eq_none (Nat.le_of_not_lt hi)]; omega
def stereo_gains.f (l0 l1 l2 : List Int) : Option (List Int) :=
  if WOk l2 ∧ l0.length = 128 ∧ l1.length = 128 ∧ (∀ x ∈ l0, -2097152 ≤ x ∧ x ≤ 2097152) ∧ (∀ x ∈ l1, -2097152 ≤ x ∧ x ≤ 2097152) then some (gainL l0 l1 l2 (List.range l2.length)) else none
set_option maxHeartbeats 2000000 in
theorem stereo_gains.calls (A0 : Option Addr) (c0 : Nat) (l0 : List Int) (A1 : Option Addr) (c1 : Nat) (l1 : List Int) (A2 : Option Addr) (c2 : Nat) (l2 : List Int) (r : List Int) (w : World) (hr0 : Kd.C (Kd.int .i64) w A0 l0.length l0) (hc0 : l0.length ≤ c0) (hr1 : Kd.C (Kd.int .i64) w A1 l1.length l1) (hc1 : l1.length ≤ c1) (hr2 : Kd.C (Kd.int .i64) w A2 l2.length l2) (hc2 : l2.length ≤ c2) (h : stereo_gains.f l0 l1 l2 = some r) :
    Calls Try.prog 28 #[.slice A0 l0.length c0, .slice A1 l1.length c1, .slice A2 l2.length c2] w fun e w' => ∃ v0_ : Value, e = .returned v0_ ∧ Kd.R (Kd.int .i64) 3 w' w.heap.size (fun _ => True) v0_ r ∧ Below w.heap.size w w' := by
  unfold stereo_gains.f at h
  split at h
  · rename_i hp
    obtain ⟨p0, p1, p2, p3, p4⟩ := hp
    have H := eachgain_calls A0 A1 A2 c0 c1 c2 l0 l1 l2 w hr0 hr1 hr2 p1 p2 p0 (coefs_of (by omega) p3) (coefs_of (by omega) p4)
    rw [p1, p2]
    obtain rfl := Option.some.inj h
    have HH := Aside0.mk H
    clear H p0 p1 p2 p3 p4 hr0 hr1 hr2
    go_enter Try.func28, Try.ntmps28
    go_wp2_with (go_at_call 46; refine HH.out.mono ?_; rintro e w' ⟨v, rfl, hR, hB⟩)
    go_ret
    exact ⟨v, rfl, hR, hB⟩
  · cases h
theorem sum_drop_nonneg {ws : List Int} (h : ∀ w ∈ ws, 1 ≤ w) : 0 ≤ ws.sum := by
  induction ws with
  | nil => simp
  | cons w ws ih =>
    have h1 := h w (by simp)
    have h2 := ih (fun x hx => h x (by simp [hx]))
    rw [List.sum_cons]; omega
theorem isw_l0 (ws : List Int) (hl : ws.length ≤ 1000) (d : Nat) : ∀ (i : Nat) (left : Int), i + d = ws.length → left = 128 - (ws.take i).sum → 0 ≤ left → left ≤ 128 → (∀ w ∈ ws.take i, 1 ≤ w) →
    Ev (fun k => stereo_isWidths.l0 k ws left ws (ws.length : Int) (i : Int)) (decide (WOk ws)) := by
  induction d with
  | zero =>
    intro i left hi h1 h2 h3 h4
    rw [List.take_of_length_le (by omega)] at h1 h4
    by_cases hp : WOk ws
    · rw [decide_eq_true hp]
      refine Ev.step (f := fun _ => some true) (fun k => ?_) (Ev.now _)
      simp only [stereo_isWidths.l0]
      have := hp.2.1
      have := hp.2.2
      rw [if_neg (by omega), if_pos (by omega), if_pos (by omega)]
      simp only [Option.some.injEq, beq_iff_eq]
      omega
    · rw [decide_eq_false hp]
      refine Ev.step (f := fun _ => some false) (fun k => ?_) (Ev.now _)
      simp only [stereo_isWidths.l0]
      rw [if_neg (by omega)]
      by_cases a1 : (ws.length : Int) ≥ 1
      · rw [if_pos a1]
        by_cases a2 : (ws.length : Int) ≤ 32
        · rw [if_pos a2]
          have : left ≠ 0 := fun e => hp ⟨h4, by omega, by omega, by omega⟩
          simp only [Option.some.injEq, beq_eq_false_iff_ne, ne_eq]
          exact this
        · rw [if_neg a2]
      · rw [if_neg a1]
  | succ d ih =>
    intro i left hi h1 h2 h3 h4
    have hlt : i < ws.length := by omega
    have hx := rd_get ws i hlt
    have htk : (ws.take (i + 1)).sum = (ws.take i).sum + ws[i] := by rw [List.take_succ_eq_append_getElem hlt, List.sum_append]; simp
    have hmem : ∀ w ∈ ws.take (i + 1), w ∈ ws.take i ∨ w = ws[i] := by
      intro w hw
      rw [List.take_succ_eq_append_getElem hlt, List.mem_append] at hw
      rcases hw with hw | hw
      · exact .inl hw
      · exact .inr (by simpa using hw)
    by_cases c1 : rd ws (i : Int) < 1
    · have hp : ¬ WOk ws := fun hp => by have := hp.1 ws[i] (List.getElem_mem hlt); omega
      rw [decide_eq_false hp]
      refine Ev.step (f := fun _ => some false) (fun k => ?_) (Ev.now _)
      simp only [stereo_isWidths.l0]
      rw [if_pos (by omega), if_pos (by omega), if_pos (by omega), if_pos c1]
    · by_cases c2 : rd ws (i : Int) > left
      · have hp : ¬ WOk ws := fun hp => by
          have e1 : ws.sum = (ws.take (i + 1)).sum + (ws.drop (i + 1)).sum := by rw [← List.sum_append, List.take_append_drop]
          have e2 := sum_drop_nonneg (ws := ws.drop (i + 1)) (fun w hw => hp.1 w (List.mem_of_mem_drop hw))
          have := hp.2.1
          omega
        rw [decide_eq_false hp]
        refine Ev.step (f := fun _ => some false) (fun k => ?_) (Ev.now _)
        simp only [stereo_isWidths.l0]
        rw [if_pos (by omega), if_pos (by omega), if_pos (by omega), if_neg c1, if_pos c2]
      · refine Ev.step (fun k => ?_) (ih (i + 1) (left - rd ws (i : Int)) (by omega) (by omega) (by omega) (by omega) (fun w hw => ?_))
        · simp only [stereo_isWidths.l0]
          rw [if_pos (by omega), if_pos (by omega), if_pos (by omega), if_neg c1, if_neg c2, show wrap64 (left - rd ws (i : Int)) = left - rd ws (i : Int) by unfold wrap64; omega, show wrap64 ((i : Int) + 1) = ((i + 1 : Nat) : Int) by unfold wrap64; omega]
        · rcases hmem w hw with h | rfl
          · exact h4 w h
          · omega
theorem isw_ev (ws : List Int) (hl : ws.length ≤ 1000) : Ev (fun k => stereo_isWidths.f k ws) (decide (WOk ws)) :=
  Ev.congr (fun k => rfl) (isw_l0 ws hl ws.length 0 128 (by omega) (by simp) (by omega) (by omega) (by simp))
def Inm (m : Int) (l : List Int) : Prop := ∀ x ∈ l, -m ≤ x ∧ x ≤ m
instance (m : Int) (l : List Int) : Decidable (Inm m l) := by unfold Inm; infer_instance
/-- What check answers. -/
def chkV (l r ws : List Int) (m : Int) : Int := if WOk ws then (if l.length = 128 then (if r.length = 128 then (if Inm m l ∧ Inm m r then 0 else 6) else 4) else 4) else 1
theorem chk_l0 (l r : List Int) (m : Int) (hm0 : 0 ≤ m) (hm1 : m ≤ 8388608) (hl : l.length = 128) (hr : r.length = 128) (d : Nat) : ∀ i : Nat, i + d = 128 →
    Ev (fun k => stereo_check.l0 k l r m (l.length : Int) (i : Int)) (if Inm m (l.drop i) ∧ Inm m (r.drop i) then 0 else 6) := by
  induction d with
  | zero =>
    intro i hi
    rw [List.drop_of_length_le (by omega), List.drop_of_length_le (by omega), if_pos ⟨fun x hx => by simp at hx, fun x hx => by simp at hx⟩]
    refine Ev.step (f := fun _ => some 0) (fun k => ?_) (Ev.now _)
    simp only [stereo_check.l0]
    rw [if_neg (by omega)]
  | succ d ih =>
    intro i hi
    have hx := rd_get l i (by omega)
    have hy := rd_get r i (by omega)
    have hc1 : l.drop i = l[i] :: l.drop (i + 1) := List.drop_eq_getElem_cons (by omega)
    have hc2 : r.drop i = r[i] :: r.drop (i + 1) := List.drop_eq_getElem_cons (by omega)
    have hw : wrap64 (-m) = -m := by unfold wrap64; omega
    by_cases c1 : mx (rd l (i : Int)) (rd r (i : Int)) > m
    · rw [if_neg (fun h => by
        have h1 := h.1 l[i] (by rw [hc1]; exact List.mem_cons_self)
        have h2 := h.2 r[i] (by rw [hc2]; exact List.mem_cons_self)
        unfold mx at c1; split at c1 <;> omega)]
      refine Ev.step (f := fun _ => some 6) (fun k => ?_) (Ev.now _)
      simp only [stereo_check.l0]
      rw [if_pos (by omega), if_pos (by omega), if_pos (by omega), if_pos (by omega), if_pos c1]
    · by_cases c2 : mn (rd l (i : Int)) (rd r (i : Int)) < -m
      · rw [if_neg (fun h => by
          have h1 := h.1 l[i] (by rw [hc1]; exact List.mem_cons_self)
          have h2 := h.2 r[i] (by rw [hc2]; exact List.mem_cons_self)
          unfold mn at c2; split at c2 <;> omega)]
        refine Ev.step (f := fun _ => some 6) (fun k => ?_) (Ev.now _)
        simp only [stereo_check.l0]
        rw [if_pos (by omega), if_pos (by omega), if_pos (by omega), if_pos (by omega), if_neg c1, hw, if_pos c2]
      · have hin : (-m ≤ l[i] ∧ l[i] ≤ m) ∧ (-m ≤ r[i] ∧ r[i] ≤ m) := by
          unfold mx at c1; unfold mn at c2
          split at c1 <;> split at c2 <;> omega
        have e : (Inm m (l.drop i) ∧ Inm m (r.drop i)) ↔ (Inm m (l.drop (i + 1)) ∧ Inm m (r.drop (i + 1))) := by
          rw [hc1, hc2]
          unfold Inm
          simp only [List.mem_cons, forall_eq_or_imp]
          exact ⟨fun h => ⟨h.1.2, h.2.2⟩, fun h => ⟨⟨hin.1, h.1⟩, ⟨hin.2, h.2⟩⟩⟩
        have e2 : (if Inm m (l.drop i) ∧ Inm m (r.drop i) then (0 : Int) else 6) = (if Inm m (l.drop (i + 1)) ∧ Inm m (r.drop (i + 1)) then 0 else 6) := by
          by_cases h : Inm m (l.drop i) ∧ Inm m (r.drop i)
          · rw [if_pos h, if_pos (e.1 h)]
          · rw [if_neg h, if_neg (fun h' => h (e.2 h'))]
        rw [e2]
        refine Ev.step (fun k => ?_) (ih (i + 1) (by omega))
        simp only [stereo_check.l0]
        rw [if_pos (by omega), if_pos (by omega), if_pos (by omega), if_pos (by omega), if_neg c1, hw, if_neg c2, show wrap64 ((i : Int) + 1) = ((i + 1 : Nat) : Int) by unfold wrap64; omega]
theorem chk_ev (l r ws : List Int) (m : Int) (hm0 : 0 ≤ m) (hm1 : m ≤ 8388608) (hw : ws.length ≤ 1000) : Ev (fun k => stereo_check.f k l r ws m) (chkV l r ws m) := by
  unfold stereo_check.f
  refine Ev.bind (isw_ev ws hw) ?_
  unfold chkV
  by_cases c0 : WOk ws
  · rw [if_pos c0]
    simp only [decide_eq_true c0, if_true]
    by_cases c1 : l.length = 128
    · rw [if_pos c1]
      by_cases c2 : r.length = 128
      · rw [if_pos c2]
        refine Ev.congr (fun k => ?_) (chk_l0 l r m hm0 hm1 c1 c2 128 0 (by omega))
        rw [if_pos (by omega), if_pos (by omega)]
        rfl
      · rw [if_neg c2]
        refine Ev.congr (fun k => ?_) (Ev.now _)
        rw [if_pos (by omega), if_neg (by omega)]
    · rw [if_neg c1]
      refine Ev.congr (fun k => ?_) (Ev.now _)
      rw [if_neg (by omega)]
  · rw [if_neg c0]
    refine Ev.congr (fun k => ?_) (Ev.now _)
    simp only [decide_eq_false c0]
    rfl
theorem chkV_ok {l r ws : List Int} {m : Int} (h : chkV l r ws m = 0) : WOk ws ∧ l.length = 128 ∧ r.length = 128 ∧ Inm m l ∧ Inm m r := by
  unfold chkV at h
  split at h
  · split at h
    · split at h
      · split at h
        · rename_i a b c d
          exact ⟨a, b, c, d.1, d.2⟩
        · omega
      · omega
    · omega
  · omega
theorem check_at (A0 A1 A2 : Option Addr) (n0 n1 c0 c1 c2 : Nat) (l r ws : List Int) (m : Int) (w : World) (hm0 : 0 ≤ m) (hm1 : m ≤ 8388608) (hwl : ws.length ≤ 1000) (h0 : l.length = n0) (h1 : r.length = n1) (hr0 : Kd.C (Kd.int .i64) w A0 n0 l) (hc0 : n0 ≤ c0) (hr1 : Kd.C (Kd.int .i64) w A1 n1 r) (hc1 : n1 ≤ c1) (hr2 : Kd.C (Kd.int .i64) w A2 ws.length ws) (hc2 : ws.length ≤ c2) :
    Calls Try.prog 27 #[.slice A0 n0 c0, .slice A1 n1 c1, .slice A2 ws.length c2, .int .i64 m] w fun e w' => e = .returned (.int .i64 (chkV l r ws m)) ∧ Below w.heap.size w w' := by
  subst h0 h1
  obtain ⟨k, hk⟩ := Ev.rounds (chk_ev l r ws m hm0 hm1 hwl)
  exact stereo_check.calls k A0 c0 l A1 c1 r A2 c2 ws m _ w hr0 hc0 hr1 hc1 hr2 hc2 hk
end

end Go.Proofs.Ytjplalkgabpinaa.Hn
