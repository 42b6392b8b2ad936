/- The machine's side of laws of the seat Ytjplalkgabpinaa, printed by a program of this session over the kit's printer: functions of the Go program as Lean functions, each with a proof that the call computes it. Conditions: none beyond each theorem's own. -/
import Derived.Test.YtjplalkgabpinaaHnx0
import Derived.Test.YtjplalkgabpinaaHnx2
import Derived.Test.YtjplalkgabpinaaHnx4
namespace Go.Proofs.Ytjplalkgabpinaa.Hn
open Go.RowKit Go.Proofs.YtjplalkgabpinaaW.PrintWords Go.Proofs.YtjplalkgabpinaaW.PrintLast Go.Proofs.YtjplalkgabpinaaW.PrintMore
attribute [local go_sem] max2_int min2_int max_two min_two max_three min_three max_four min_four   -- for this text's walks alone
set_option linter.unusedVariables false
set_option linter.unusedSimpArgs false

/-! ### stereo_Cross: function 16 (by hand) -/
section
-- stereo_gains.calls: what stands beside it is used here
/-- How alike two channels are, out of three sums. -/
def crossV (a b x : Int) : Int := if a = 0 then 0 else if b = 0 then 0 else if x < 0 then -(256 * (mx x (-x)) / mx (mx (mx a b) x) (-x)) else 256 * (mx x (-x)) / mx (mx (mx a b) x) (-x)
set_option maxHeartbeats 4000000 in
theorem zsums_calls (w : World) : Calls Try.prog 35 #[] w fun e w' => e = .returned (.agg #[.int .i64 0, .int .i64 0, .int .i64 0]) ∧ Below w.heap.size w w' := by
  go_enter Try.func35, Try.ntmps35
  go_wp2
  exact bodyPost_ret (v := .agg #[.int .i64 0, .int .i64 0, .int .i64 0]) (by simp [results, Try.results35, go_sem]) rfl ⟨rfl, (Below.refl _ _).alloc (Nat.le_refl _) _⟩
set_option maxHeartbeats 4000000 in
theorem addsums_calls (a b x l r : Int) (w : World) (h0 : 0 ≤ a) (h1 : a ≤ 1125899906842624) (h2 : 0 ≤ b) (h3 : b ≤ 1125899906842624) (h4 : -1125899906842624 ≤ x) (h5 : x ≤ 1125899906842624) (p : Int) (q : Int) (z : Int) (hp : p = l * l) (hq : q = r * r) (hz : z = l * r) (p0 : 0 ≤ p) (p1 : p ≤ 8796093022208) (q0 : 0 ≤ q) (q1 : q ≤ 8796093022208) (z0 : -8796093022208 ≤ z) (z1 : z ≤ 8796093022208) :
    Calls Try.prog 33 #[.agg #[.int .i64 a, .int .i64 b, .int .i64 x], .int .i64 l, .int .i64 r] w fun e w' => e = .returned (.agg #[.int .i64 (a + p), .int .i64 (b + q), .int .i64 (x + z)]) ∧ Below w.heap.size w w' := by
  have hp' := hp.symm
  have hq' := hq.symm
  have hz' := hz.symm
  clear hp hq hz
  go_enter Try.func33, Try.ntmps33
  go_wp2
  exact bodyPost_ret (v := .agg #[.int .i64 (a + p), .int .i64 (b + q), .int .i64 (x + z)]) (by simp [results, Try.results33, go_sem]) rfl ⟨rfl, ((Below.refl _ _).alloc (Nat.le_refl _) _).alloc (by simp) _⟩
theorem mx_r {a b : Int} (h : a < b) : mx a b = b := by unfold mx; rw [if_pos h]
theorem mx_l {a b : Int} (h : b ≤ a) : mx a b = a := by unfold mx; rw [if_neg (by omega)]
theorem quo_bd {m d : Int} (h0 : 0 ≤ m) (h1 : m ≤ 1125899906842624) (hd : 1 ≤ d) : 0 ≤ 256 * m / d ∧ 256 * m / d ≤ 288230376151711744 := by
  have q0 : 0 ≤ 256 * m / d := Int.ediv_nonneg (by omega) (by omega)
  have q1 : 256 * m / d ≤ 256 * m := Int.ediv_le_self _ (by omega)
  omega
theorem ret_i {a b : Int} (h : a = b) : Ending.returned (.int .i64 a) = .returned (.int .i64 b) := by rw [h]
theorem cross_top {x : Int} (hx : x < 0) : wrap64 (-wrap64 (-(256 * -x).tdiv x)) = -(256 * -x / -x) := by
  have e1 : (256 * -x).tdiv x = -256 := by
    rw [show 256 * -x = (-256) * x by omega]
    exact Int.mul_tdiv_cancel _ (by omega)
  have e2 : 256 * -x / -x = 256 := Int.mul_ediv_cancel _ (by omega)
  rw [e1, e2]
  unfold wrap64
  omega
theorem neg_in {q : Int} (h0 : 0 ≤ q) (h1 : q ≤ 288230376151711744) : wrap64 (-q) = -q := by unfold wrap64; omega
set_option maxHeartbeats 8000000 in
theorem cross_calls (a b x v : Int) (w : World) (h0 : 0 ≤ a) (h1 : a ≤ 1125899906842624) (h2 : 0 ≤ b) (h3 : b ≤ 1125899906842624) (h4 : -1125899906842624 ≤ x) (h5 : x ≤ 1125899906842624) (hv : crossV a b x = v) :
    Calls Try.prog 36 #[.agg #[.int .i64 a, .int .i64 b, .int .i64 x]] w fun e w' => e = .returned (.int .i64 v) ∧ Below w.heap.size w w' := by
  by_cases ha : a = 0
  · subst ha
    unfold crossV at hv
    rw [if_pos rfl] at hv
    subst hv
    go_enter Try.func36, Try.ntmps36
    go_wp2
    go_ret
    exact ⟨rfl, below_alloc (Below.refl _ _) _⟩
  · by_cases hb : b = 0
    · subst hb
      unfold crossV at hv
      rw [if_neg ha, if_pos rfl] at hv
      subst hv
      have ha' : (a == 0) = false := beq_eq_false_iff_ne.2 ha
      go_enter Try.func36, Try.ntmps36
      go_wp2
      go_ret
      exact ⟨rfl, below_alloc (Below.refl _ _) _⟩
    · have ha' : (a == 0) = false := beq_eq_false_iff_ne.2 ha
      have hb' : (b == 0) = false := beq_eq_false_iff_ne.2 hb
      have a1 : 1 ≤ a := by omega
      have b1 : 1 ≤ b := by omega
      unfold crossV at hv
      rw [if_neg ha, if_neg hb] at hv
      clear ha hb
      by_cases hx : x < 0
      · have hxd : decide (x < 0) = true := decide_eq_true hx
        rw [if_pos hx, mx_r (show x < -x by omega)] at hv
        by_cases hab : a < b
        · rw [mx_r hab, mx_l (show x ≤ b by omega)] at hv
          by_cases hm : b < -x
          · rw [mx_r hm] at hv
            have HV := Aside0.mk ((cross_top hx).trans hv)
            clear hv
            go_enter Try.func36, Try.ntmps36
            go_wp2
            go_ret
            exact ⟨ret_i HV.out, below_alloc (Below.refl _ _) _⟩
          · rw [mx_l (show -x ≤ b by omega)] at hv
            have hq := quo_bd (m := -x) (d := b) (by omega) (by omega) (by omega)
            have HQ := Aside0.mk hq
            have HV := Aside0.mk hv
            clear hq hv
            go_enter Try.func36, Try.ntmps36
            go_wp2
            go_ret
            exact ⟨ret_i ((neg_in HQ.out.1 HQ.out.2).trans HV.out), below_alloc (Below.refl _ _) _⟩
        · rw [mx_l (show b ≤ a by omega), mx_l (show x ≤ a by omega)] at hv
          by_cases hm : a < -x
          · rw [mx_r hm] at hv
            have HV := Aside0.mk ((cross_top hx).trans hv)
            clear hv
            go_enter Try.func36, Try.ntmps36
            go_wp2
            go_ret
            exact ⟨ret_i HV.out, below_alloc (Below.refl _ _) _⟩
          · rw [mx_l (show -x ≤ a by omega)] at hv
            have hq := quo_bd (m := -x) (d := a) (by omega) (by omega) (by omega)
            have HQ := Aside0.mk hq
            have HV := Aside0.mk hv
            clear hq hv
            go_enter Try.func36, Try.ntmps36
            go_wp2
            go_ret
            exact ⟨ret_i ((neg_in HQ.out.1 HQ.out.2).trans HV.out), below_alloc (Below.refl _ _) _⟩
      · have hxd : decide (x < 0) = false := decide_eq_false hx
        rw [if_neg hx, mx_l (show -x ≤ x by omega)] at hv
        by_cases hab : a < b
        · rw [mx_r hab] at hv
          by_cases hm : b < x
          · rw [mx_r hm, mx_l (show -x ≤ x by omega)] at hv
            have HV := Aside0.mk hv
            clear hv
            go_enter Try.func36, Try.ntmps36
            go_wp2
            go_ret
            exact ⟨ret_i HV.out, below_alloc (Below.refl _ _) _⟩
          · rw [mx_l (show x ≤ b by omega), mx_l (show -x ≤ b by omega)] at hv
            have HV := Aside0.mk hv
            clear hv
            go_enter Try.func36, Try.ntmps36
            go_wp2
            go_ret
            exact ⟨ret_i HV.out, below_alloc (Below.refl _ _) _⟩
        · rw [mx_l (show b ≤ a by omega)] at hv
          by_cases hm : a < x
          · rw [mx_r hm, mx_l (show -x ≤ x by omega)] at hv
            have HV := Aside0.mk hv
            clear hv
            go_enter Try.func36, Try.ntmps36
            go_wp2
            go_ret
            exact ⟨ret_i HV.out, below_alloc (Below.refl _ _) _⟩
          · rw [mx_l (show x ≤ a by omega), mx_l (show -x ≤ a by omega)] at hv
            have HV := Aside0.mk hv
            clear hv
            go_enter Try.func36, Try.ntmps36
            go_wp2
            go_ret
            exact ⟨ret_i HV.out, below_alloc (Below.refl _ _) _⟩
attribute [local go_sem] Oper.semAt_some
/-- The sum of products of n pairs from a on. -/
def prodSum (u v : List Int) (a : Nat) : Nat → Int
  | 0 => 0
  | n + 1 => prodSum u v a n + rd u ((a + n : Nat) : Int) * rd v ((a + n : Nat) : Int)
theorem mul_bd {x y m : Int} (h0 : -m ≤ x) (h1 : x ≤ m) (h2 : -m ≤ y) (h3 : y ≤ m) : -(m * m) ≤ x * y ∧ x * y ≤ m * m := by
  have a1 : 0 ≤ (m - x) * (m + y) := Int.mul_nonneg (by omega) (by omega)
  have a2 : 0 ≤ (m + x) * (m - y) := Int.mul_nonneg (by omega) (by omega)
  have a3 : 0 ≤ (m - x) * (m - y) := Int.mul_nonneg (by omega) (by omega)
  have a4 : 0 ≤ (m + x) * (m + y) := Int.mul_nonneg (by omega) (by omega)
  simp only [Int.sub_mul, Int.add_mul, Int.mul_sub, Int.mul_add] at a1 a2 a3 a4
  omega
theorem prodSum_bound {u v : List Int} (hu : Coefs 2097152 u) (hv : Coefs 2097152 v) (a n : Nat) : -(4398046511104 * (n : Int)) ≤ prodSum u v a n ∧ prodSum u v a n ≤ 4398046511104 * (n : Int) := by
  induction n with
  | zero => simp [prodSum]
  | succ n ih =>
    have h1 := hu (a + n)
    have h2 := hv (a + n)
    have := mul_bd h1.1 h1.2 h2.1 h2.2
    simp only [prodSum]
    omega
theorem sq_nonneg (x : Int) : 0 ≤ x * x := by
  rcases Int.le_total 0 x with h | h
  · exact Int.mul_nonneg h h
  · exact Int.mul_nonneg_of_nonpos_of_nonpos h h
theorem prodSum_sq (u : List Int) (a n : Nat) : 0 ≤ prodSum u u a n := by
  induction n with
  | zero => simp [prodSum]
  | succ n ih =>
    have := sq_nonneg (rd u ((a + n : Nat) : Int))
    simp only [prodSum]
    omega
/-- The three sums of a band. -/
def bandS (l r ws : List Int) (b : Nat) : Int × Int × Int := (prodSum l l (offN ws b) (offN ws (b + 1) - offN ws b), prodSum r r (offN ws b) (offN ws (b + 1) - offN ws b), prodSum l r (offN ws b) (offN ws (b + 1) - offN ws b))
def cellsS (s : Int × Int × Int) : List Value := [.int .i64 s.1, .int .i64 s.2.1, .int .i64 s.2.2]
def sumsC (l r ws : List Int) (pre : List Nat) : List Value := (pre.map (fun b => cellsS (bandS l r ws b))).flatten
theorem sumsC_snoc (l r ws : List Int) (pre : List Nat) (x : Nat) : sumsC l r ws (pre ++ [x]) = sumsC l r ws pre ++ cellsS (bandS l r ws x) := by simp [sumsC]
theorem sumsC_length (l r ws : List Int) (pre : List Nat) : (sumsC l r ws pre).length = pre.length * 3 := by
  induction pre with
  | nil => rfl
  | cons x pre ih => simp only [sumsC, List.map_cons, List.flatten_cons, List.length_append] at ih ⊢; rw [ih]; simp [cellsS]; omega
/-- A band's three sums, as they stand in memory. -/
def Sum3 (W : World) (b : Nat) (s : Int × Int × Int) : Prop := W.heap[b]? = some (.cells #[.int .i64 s.1, .int .i64 s.2.1, .int .i64 s.2.2] 51 (0, 0))
theorem Sum3.lt {W : World} {b : Nat} {s : Int × Int × Int} (h : Sum3 W b s) : b < W.heap.size := (Array.getElem?_eq_some_iff.1 h).1
theorem Sum3.cells {W : World} {b : Nat} {s : Int × Int × Int} (h : Sum3 W b s) : W.cell? ⟨b, 0, none⟩ = some (.int .i64 s.1) ∧ W.cell? ⟨b, 1, none⟩ = some (.int .i64 s.2.1) ∧ W.cell? ⟨b, 2, none⟩ = some (.int .i64 s.2.2) := by
  unfold Sum3 at h
  refine ⟨?_, ?_, ?_⟩ <;> simp [World.cell?, h]
theorem Sum3.frozen {W : World} {b o : Nat} {s : Int × Int × Int} (h : Sum3 W b s) : W.frozen? ⟨b, o, none⟩ = false := by
  unfold Sum3 at h
  simp [World.frozen?, h]
theorem Sum3.below {W W' : World} {b : Nat} {s : Int × Int × Int} (h : Sum3 W b s) (hb : Below W.heap.size W W') : Sum3 W' b s := (hb.block b h.lt).trans h
theorem Sum3.put {W : World} {b : Nat} {s : Int × Int × Int} (h : Sum3 W b s) (x y z : Int) : Sum3 (((W.setCell ⟨b, 0, none⟩ (.int .i64 x)).setCell ⟨b, 1, none⟩ (.int .i64 y)).setCell ⟨b, 2, none⟩ (.int .i64 z)) b (x, y, z) := by
  have h1 := blk_set h 0 (.int .i64 x)
  have h2 := blk_set h1 1 (.int .i64 y)
  exact blk_set h2 2 (.int .i64 z)
theorem three_new (W : World) (t : TypeId) (x y z : Value) : ∀ (j : Nat) (u : Value), [x, y, z][j]? = some u → (W.alloc (.cells #[x, y, z] t)).cell? ((⟨W.heap.size, 0, none⟩ : Addr).add j) = some u := by
  intro j u hu
  have hb : (W.alloc (.cells #[x, y, z] t)).heap[W.heap.size]? = some (.cells #[x, y, z] t (0, 0)) := World.alloc_heap_new W _
  have hadd : (⟨W.heap.size, 0, none⟩ : Addr).add j = ⟨W.heap.size, j, none⟩ := by unfold Addr.add; split <;> simp_all
  rw [hadd]
  simp only [World.cell?, hb]
  simpa using hu
set_option maxRecDepth 100000 in
set_option maxHeartbeats 8000000 in
theorem eachsums_calls (A0 A1 A2 : Option Addr) (c0 c1 c2 : Nat) (l r ws : List Int) (w : World) (hl : Kd.C (Kd.int .i64) w A0 l.length l) (hr : Kd.C (Kd.int .i64) w A1 r.length r) (hw : Kd.C (Kd.int .i64) w A2 ws.length ws) (hln : l.length = 128) (hrn : r.length = 128) (hwo : WOk ws) (hlc : Coefs 2097152 l) (hrc : Coefs 2097152 r) :
    Calls Try.prog 34 #[.slice A0 128 c0, .slice A1 128 c1, .slice A2 ws.length c2, .func (.func 35) #[] #[], .func (.func 33) #[] #[]] w fun e w' =>
      ∃ v0_ : Value, e = .returned v0_ ∧ w'.ownsRow w.heap.size 51 3 v0_ ws.length (sumsC l r ws (List.range ws.length)) ∧ Below w.heap.size w w' := by
  rw [hln] at hl
  rw [hrn] at hr
  have HL := Aside0.mk hl
  have HR := Aside0.mk hr
  have HW := Aside0.mk hw
  have HWO := Aside0.mk hwo
  have HLC := Aside0.mk hlc
  have HRC := Aside0.mk hrc
  have hlen : ws.length ≤ 32 := hwo.2.2.2
  clear hl hr hw hln hrn hwo hlc hrc
  obtain ⟨i0, hi, hz0, hz1, hz2⟩ := info_parts info51
  refine (callsIn_wide (n := 3)).1 ?_
  refine callsIn_of_wp_marks Try.func34 rfl trivial ?_ rfl
  simp only [Try.ntmps34, List.size_toArray, List.length_cons, List.length_nil, Nat.reduceAdd, Nat.reduceSub, Array.replicate_succ, Array.replicate_zero, List.push_toArray, List.append_toArray, List.nil_append, List.cons_append]
  gi_wp2_with (refine ⟨trivial, ?_⟩; gi_at_call 52; refine (ends_in Fence.wide _ trivial rfl A2 _ c2 _).mono ?_; rintro e w' ⟨rfl, rfl⟩)
  have b0 := Boxed.new w 22 (.slice A0 128 c0)
  have b1 := Boxed.new (w.alloc (.cells #[.slice A0 128 c0] 22)) 22 (.slice A1 128 c1)
  have b2 := Boxed.new ((w.alloc (.cells #[.slice A0 128 c0] 22)).alloc (.cells #[.slice A1 128 c1] 22)) 54 (.func (.func 35) #[] #[])
  have b3 := Boxed.new (((w.alloc (.cells #[.slice A0 128 c0] 22)).alloc (.cells #[.slice A1 128 c1] 22)).alloc (.cells #[.func (.func 35) #[] #[]] 54)) 48 (.func (.func 33) #[] #[])
  have b4 := Boxed.new ((((w.alloc (.cells #[.slice A0 128 c0] 22)).alloc (.cells #[.slice A1 128 c1] 22)).alloc (.cells #[.func (.func 35) #[] #[]] 54)).alloc (.cells #[.func (.func 33) #[] #[]] 48)) 52 (.slice none 0 0)
  have b5 := Boxed.new (((((w.alloc (.cells #[.slice A0 128 c0] 22)).alloc (.cells #[.slice A1 128 c1] 22)).alloc (.cells #[.func (.func 35) #[] #[]] 54)).alloc (.cells #[.func (.func 33) #[] #[]] 48)).alloc (.cells #[.slice none 0 0] 52)) 22 (.slice A2 ws.length c2)
  simp only [World.size_alloc] at b0 b1 b2 b3 b4 b5
  have hB0 : Below w.heap.size w ((((((w.alloc (.cells #[.slice A0 128 c0] 22)).alloc (.cells #[.slice A1 128 c1] 22)).alloc (.cells #[.func (.func 35) #[] #[]] 54)).alloc (.cells #[.func (.func 33) #[] #[]] 48)).alloc (.cells #[.slice none 0 0] 52)).alloc (.cells #[.slice A2 ws.length c2] 22)) := (((((((Below.refl _ w).alloc (Nat.le_refl _) _).alloc (by simp) _).alloc (by simp; omega) _).alloc (by simp; omega) _).alloc (by simp; omega) _).alloc (by simp; omega) _)
  refine wpIn_rangeFunc_ownG rfl (by omega) (gf := 56) (lb := #[.pointer (some ⟨w.heap.size + 1 + 1 + 1 + 1 + 1, 0, none⟩)]) rfl trivial (enters_of Try.func56 (by kernel_rfl) rfl)
    (ends_stops Fence.wide 2 trivial rfl (by omega) (w.heap.size + 1 + 1 + 1 + 1 + 1) A2 c2 ws HWO.out w _ hB0 (by simp) b5.cell HW.out) belowK_t (belowK_b (by simp; omega)) (Below.refl _ _) (fun _ => rfl)
    (fun pre W => (∃ v, Boxed W (w.heap.size + 1 + 1 + 1 + 1) 52 v ∧ W.ownsRow w.heap.size 51 3 v pre.length (sumsC l r ws pre) ∧ (0 < 1 ∨ v = v)) ∧ Boxed W w.heap.size 22 (.slice A0 128 c0) ∧ Boxed W (w.heap.size + 1) 22 (.slice A1 128 c1) ∧ Boxed W (w.heap.size + 1 + 1) 54 (.func (.func 35) #[] #[]) ∧ Boxed W (w.heap.size + 1 + 1 + 1) 48 (.func (.func 33) #[] #[]) ∧ Below w.heap.size w W)
    (fun _ _ _ => False)
    (OwnFrom.and (Own.from (holdsRow_own w.heap.size (w.heap.size + 1 + 1 + 1 + 1) 52 51 3 (fun pre : List Nat => pre.length) (fun pre : List Nat => sumsC l r ws pre) (fun (_ : List Nat) v => 0 < 1 ∨ v = v)) _) (OwnFrom.and (Own.from (boxed_own w.heap.size 22 (fun (_ : List Nat) => Value.slice A0 128 c0)) _) (OwnFrom.and (Own.from (boxed_own (w.heap.size + 1) 22 (fun (_ : List Nat) => Value.slice A1 128 c1)) _) (OwnFrom.and (Own.from (boxed_own (w.heap.size + 1 + 1) 54 (fun (_ : List Nat) => Value.func (.func 35) #[] #[])) _) (OwnFrom.and (Own.from (boxed_own (w.heap.size + 1 + 1 + 1) 48 (fun (_ : List Nat) => Value.func (.func 33) #[] #[])) _) (ownFrom_below (Nat.le_refl _) (by simp; omega)))))))
    (fun _ _ _ _ _ hs _ _ => hs)
    ⟨⟨_, b4.alloc _, World.ownsRow_nil _ _ _ _, .inl (by omega)⟩, ((((b0.alloc _).alloc _).alloc _).alloc _).alloc _, (((b1.alloc _).alloc _).alloc _).alloc _, ((b2.alloc _).alloc _).alloc _, (b3.alloc _).alloc _, hB0⟩
    (fun x => { tmps := #[.slice A0 128 c0, .slice A1 128 c1, .slice A2 ws.length c2, .func (.func 35) #[] #[], .func (.func 33) #[] #[], .pointer (some ⟨w.heap.size, 0, none⟩), .pointer (some ⟨w.heap.size + 1, 0, none⟩), undef, .pointer (some ⟨w.heap.size + 1 + 1, 0, none⟩), .pointer (some ⟨w.heap.size + 1 + 1 + 1, 0, none⟩), .slice none 0 0, .pointer (some ⟨w.heap.size + 1 + 1 + 1 + 1, 0, none⟩), .int .i64 (offN ws x : Int), .int .i64 (offN ws (x + 1) : Int), undef, undef, .slice A2 ws.length c2, .func (.func 56) #[] #[.pointer (some ⟨w.heap.size + 1 + 1 + 1 + 1 + 1, 0, none⟩)], .int .i64 (offN ws x : Int), .int .i64 (offN ws (x + 1) : Int), undef, undef, undef, undef, undef, undef, undef, undef, undef, undef, undef, undef, undef, undef, undef, undef, undef, undef, undef, undef, undef, undef, undef, undef], defers := [] }) ?assign ?body ?done ?stop
  case assign =>
    intro l x W K hK
    gi_wp2
    exact hK
  case body =>
    rintro lr pre x W ⟨⟨v, hv, hrow, _⟩, x0, x1, x2, x3, hB⟩ hlt
    have X0 := Aside0.mk x0
    have X1 := Aside0.mk x1
    have X2 := Aside0.mk x2
    have X3 := Aside0.mk x3
    have HV := Aside0.mk hv
    have HROW := Aside0.mk hrow
    have HB := Aside0.mk hB
    have HLT := Aside0.mk hlt
    have hc2 := x2.cell
    have o1 := offN_le HWO.out x
    have o2 := offN_le HWO.out (x + 1)
    have o3 := offN_mono ws x
    have hbg : bandS l r ws x = (prodSum l l (offN ws x) (offN ws (x + 1) - offN ws x), prodSum r r (offN ws x) (offN ws (x + 1) - offN ws x), prodSum l r (offN ws x) (offN ws (x + 1) - offN ws x)) := rfl
    have HBG := Aside0.mk hbg
    clear x0 x1 x2 x3 hv hrow hB hlt hbg
    obtain ⟨a, ha⟩ : ∃ a, a = offN ws x := ⟨_, rfl⟩
    obtain ⟨b, hb⟩ : ∃ b, b = offN ws (x + 1) := ⟨_, rfl⟩
    rw [← ha, ← hb] at HBG
    rw [← ha] at o1 o3 ⊢
    rw [← hb] at o2 o3 ⊢
    clear ha hb
    gi_wp2_with (refine ⟨trivial, ?_⟩; gi_at_call 35; refine (CallsIn.inRound lr (callsIn_wide.2 (zsums_calls _))).mono ?_; rintro e W1 ⟨rfl, hb1⟩; have HB1 := Aside0.mk hb1; clear hb1)
    clear hc2
    have hS0 : Sum3 (W1.alloc (.cells #[.int .i64 0, .int .i64 0, .int .i64 0] 51)) W1.heap.size (prodSum l l a 0, prodSum r r a 0, prodSum l r a 0) := World.alloc_heap_new W1 _
    have HS0 := Aside0.mk hS0
    clear hS0
    obtain ⟨g, hg⟩ : ∃ g, g = W1.heap.size := ⟨_, rfl⟩
    have HGG := Aside0.mk hg
    have HGW := Aside0.mk (show W.heap.size ≤ g by have := HB1.out.size; omega)
    have HB2 := Aside0.mk (HB1.out.alloc HB1.out.size (.cells #[.int .i64 0, .int .i64 0, .int .i64 0] 51))
    rw [← hg] at HS0 ⊢
    clear hg
    gi_loopw [15] (fun i wr => ∃ n : Nat, i = .int .i64 ((a + n : Nat) : Int) ∧ Aside0 (a + n ≤ b) ∧ Aside0 (Sum3 wr g (prodSum l l a n, prodSum r r a n, prodSum l r a n)) ∧ Aside0 (Below W.heap.size W wr)) (fun i _ => (b : Nat) - (intOf i).toNat)
    case atStart => exact ⟨0, rfl, ⟨o3⟩, HS0, HB2⟩
    case round =>
      obtain ⟨n, rfl, HN, HS, HBW⟩ := hrel
      by_cases hn : a + n < b
      · have HNT := Aside0.mk hn
        obtain ⟨i, hie⟩ : ∃ i, i = a + n := ⟨_, rfl⟩
        have s1 := prodSum_bound HLC.out HLC.out a n
        have s2 := prodSum_bound HRC.out HRC.out a n
        have s3 := prodSum_bound HLC.out HRC.out a n
        have t1 := prodSum_sq l a n
        have t2 := prodSum_sq r a n
        have e1 : prodSum l l a (n + 1) = prodSum l l a n + rd l ((a + n : Nat) : Int) * rd l ((a + n : Nat) : Int) := rfl
        have e2 : prodSum r r a (n + 1) = prodSum r r a n + rd r ((a + n : Nat) : Int) * rd r ((a + n : Nat) : Int) := rfl
        have e3 : prodSum l r a (n + 1) = prodSum l r a n + rd l ((a + n : Nat) : Int) * rd r ((a + n : Nat) : Int) := rfl
        obtain ⟨S1, hS1⟩ : ∃ S, S = prodSum l l a n := ⟨_, rfl⟩
        obtain ⟨S2, hS2⟩ : ∃ S, S = prodSum r r a n := ⟨_, rfl⟩
        obtain ⟨S3, hS3⟩ : ∃ S, S = prodSum l r a n := ⟨_, rfl⟩
        rw [← hS1] at HS s1 t1 e1
        rw [← hS2] at HS s2 t2 e2
        rw [← hS3] at HS s3 e3
        rw [← hie] at e1 e2 e3 hn ⊢
        obtain ⟨ad, e, hx⟩ := Kd.at_int HL.out (i : Int) (by omega) (by omega)
        subst e
        obtain ⟨ad2, e, hy⟩ := Kd.at_int HR.out (i : Int) (by omega) (by omega)
        subst e
        have hbb : Below w.heap.size w wr := HB.out.trans (HBW.out.mono HB.out.size)
        replace hx := pw_cell_below hbb hx
        replace hy := pw_cell_below hbb hy
        simp only [Int.toNat_natCast] at hx hy
        have g1 := HLC.out i
        have g2 := HRC.out i
        have d0 := (boxed_below X0.out HBW.out).cell
        have d1 := (boxed_below X1.out HBW.out).cell
        have d3 := (boxed_below X3.out HBW.out).cell
        obtain ⟨u1, hu1⟩ : ∃ u, u = rd l (i : Int) := ⟨_, rfl⟩
        obtain ⟨u2, hu2⟩ : ∃ u, u = rd r (i : Int) := ⟨_, rfl⟩
        rw [← hu1] at hx g1 e1 e3
        rw [← hu2] at hy g2 e2 e3
        have m1 := mul_bd g1.1 g1.2 g1.1 g1.2
        have m2 := mul_bd g2.1 g2.2 g2.1 g2.2
        have m3 := mul_bd g1.1 g1.2 g2.1 g2.2
        have q1 := sq_nonneg u1
        have q2 := sq_nonneg u2
        obtain ⟨P1, hP1⟩ : ∃ P, P = u1 * u1 := ⟨_, rfl⟩
        obtain ⟨P2, hP2⟩ : ∃ P, P = u2 * u2 := ⟨_, rfl⟩
        obtain ⟨P3, hP3⟩ : ∃ P, P = u1 * u2 := ⟨_, rfl⟩
        rw [← hP1] at e1 m1 q1
        rw [← hP2] at e2 m2 q2
        rw [← hP3] at e3 m3
        have HCALL := fun w0 => Aside0.mk (addsums_calls S1 S2 S3 u1 u2 w0 t1 (by omega) t2 (by omega) (by omega) (by omega) P1 P2 P3 hP1 hP2 hP3 q1 (by omega) q2 (by omega) (by omega) (by omega))
        have HE1 := Aside0.mk e1
        have HE2 := Aside0.mk e2
        have HE3 := Aside0.mk e3
        have HIE := Aside0.mk hie
        have i128 : (i : Int) < 128 := by omega
        have hd : decide ((i : Int) < (b : Int)) = true := decide_eq_true (by omega)
        obtain ⟨c0', c1', c2'⟩ := HS.out.cells
        clear e1 e2 e3 hu1 hu2 hS1 hS2 hS3 g1 g2 hbb hie m1 m2 m3 q1 q2 hP1 hP2 hP3 s1 s2 s3 t1 t2
        gi_wp2
        refine wpIn_round_tail 10 (by kernel_rfl) (by kernel_rfl) (by kernel_rfl) ?_
        simp only [List.take_succ_cons, List.take_zero, List.drop_succ_cons, List.drop_zero]
        repeat still_step
        refine wpStill_nil ?_
        go_wp2_with (go_at_call 33; refine (HCALL _).out.mono ?_; rintro e w' ⟨rfl, HB3⟩; have hs3 := Sum3.below (W := wr.drew) HS.out HB3; obtain ⟨f0, f1, f2⟩ := hs3.cells; have z0 := hs3.frozen (o := 0); have z1 := hs3.frozen (o := 1); have z2 := hs3.frozen (o := 2); have HS3 := Aside0.mk hs3; clear hs3; have HB3' := Aside0.mk HB3; clear HB3)
        refine ⟨rfl, ?_⟩
        gi_wp2
        go_roundw
        case rel => exact ⟨n + 1, by rw [HIE.out]; congr 1, ⟨by have := HNT.out; omega⟩, ⟨by rw [HE1.out, HE2.out, HE3.out]; exact Sum3.put HS3.out _ _ _⟩, ⟨((((pw_below_drewN HBW.out 1).trans (HB3'.out.mono HBW.out.size)).setCell (p := ⟨g, 0, none⟩) HGW.out _).setCell (p := ⟨g, 1, none⟩) HGW.out _).setCell (p := ⟨g, 2, none⟩) HGW.out _⟩⟩
        case measure => simp [intOf]; omega
      · have hd : decide ((((a + n : Nat)) : Int) < (b : Int)) = false := decide_eq_false (by omega)
        have en : n = b - a := by have := HN.out; omega
        subst en
        obtain ⟨S1, hS1⟩ : ∃ S, S = prodSum l l a (b - a) := ⟨_, rfl⟩
        obtain ⟨S2, hS2⟩ : ∃ S, S = prodSum r r a (b - a) := ⟨_, rfl⟩
        obtain ⟨S3, hS3⟩ : ∃ S, S = prodSum l r a (b - a) := ⟨_, rfl⟩
        rw [← hS1, ← hS2, ← hS3] at HS HBG
        have hv := boxed_below HV.out HBW.out
        have hrow := own_stays HROW.out HBW.out
        have hbb : Below w.heap.size w wr := HB.out.trans (HBW.out.mono HB.out.size)
        have hc := hv.cell
        have hx0 := boxed_below X0.out HBW.out
        have hx1 := boxed_below X1.out HBW.out
        have hx2 := boxed_below X2.out HBW.out
        have hx3 := boxed_below X3.out HBW.out
        have Y0 := Aside0.mk hx0
        have Y1 := Aside0.mk hx1
        have Y2 := Aside0.mk hx2
        have Y3 := Aside0.mk hx3
        have hsz := hbb.size
        have hpl := HLT.out
        obtain ⟨c0', c1', c2'⟩ := HS.out.cells
        clear hx0 hx1 hx2 hx3
        obtain ⟨q, hq⟩ : ∃ q, q = a + (b - a) := ⟨_, rfl⟩
        rw [← hq] at hd ⊢
        have hd2 : ¬ (q < b) := by omega
        have HQ := Aside0.mk hq
        clear hS1 hS2 hS3 hq
        gi_wp2_with (gi_at_builtin; refine wpListIn_append_own _ rfl _ _ 52 rfl w.heap.size 51 i0 (.agg #[.int .i64 0, .int .i64 0, .int .i64 0]) 3 24 Try.underlying52 hi hz0 hz1 hz2 rfl (by decide) _ _ _ rfl (hrow.alloc _) ⟨wr.heap.size, 0, none⟩ 1 1 [.int .i64 S1, .int .i64 S2, .int .i64 S3] rfl rfl (three_new _ _ _ _ _) (by simp [Value.oneCell']) (by unfold maxLen; omega) (by omega) (by simp; omega) ?_; intro v' w1 hown' hgrow _; obtain ⟨g', cap', rfl⟩ := ownsRow_succ hown'; obtain ⟨hv1, hv2, hr2, hk2, hb2⟩ := hv.appended (by decide) hrow hsz (by omega) hown' hgrow; have hc1 := hv1.cell; have hf1 := hv1.frozen)
        exact ⟨((keeps_of_below HBW.out).trans hk2).from _, (HBW.out.mono HB.out.size).trans hb2, ⟨_, hv2, by rw [sumsC_snoc, HBG.out]; simpa [cellsS] using hr2⟩, ((((Y0.out.alloc _).kept hgrow (Y0.out.not_row (by decide) hrow)).other (by omega) (Value.slice (some ⟨g', 0, none⟩) (pre.length + 1) cap'))), ((((Y1.out.alloc _).kept hgrow (Y1.out.not_row (by decide) hrow)).other (by omega) (Value.slice (some ⟨g', 0, none⟩) (pre.length + 1) cap'))), ((((Y2.out.alloc _).kept hgrow (Y2.out.not_row (by decide) hrow)).other (by omega) (Value.slice (some ⟨g', 0, none⟩) (pre.length + 1) cap'))), ((((Y3.out.alloc _).kept hgrow (Y3.out.not_row (by decide) hrow)).other (by omega) (Value.slice (some ⟨g', 0, none⟩) (pre.length + 1) cap'))), hbb.trans hb2⟩
  case done =>
    rintro D ys W hD rfl ⟨⟨v, hv, hrow, _⟩, _, _, _, _, hB⟩ hK
    have hc := hv.cell
    gi_wp2
    refine ⟨by simp, .inl ⟨_, _, rfl, run_takeDeferred hK, ?_⟩⟩
    exact ⟨_, results_tmp rfl _ _ _, v, rfl, by simpa using ownsRow_putObj hrow _ hK rfl, hB.trans (belowK_b (w := w) (Nat.le_refl _) W D _ _ (by simp at hD; omega) hK rfl rfl)⟩
  case stop =>
    rintro D c pre W _ _ h _
    exact h.elim
theorem addr_add (g j : Nat) : (⟨g, 0, none⟩ : Addr).add j = ⟨g, j, none⟩ := by unfold Addr.add; split <;> simp_all
/-- How alike the bands are. -/
def crossB (l r ws : List Int) (b : Nat) : Int := crossV (bandS l r ws b).1 (bandS l r ws b).2.1 (bandS l r ws b).2.2
def crossL (l r ws : List Int) (n : Nat) : List Int := (List.range n).map (crossB l r ws)
theorem crossL_length (l r ws : List Int) (n : Nat) : (crossL l r ws n).length = n := by simp [crossL]
theorem crossL_succ (l r ws : List Int) (n : Nat) : crossL l r ws (n + 1) = crossL l r ws n ++ [crossB l r ws n] := by simp [crossL, List.range_succ]
theorem rows_apart {W : World} {b1 b2 e1 e2 s1 s2 n1 n2 : Nat} {v1 v2 : Value} {x1 x2 : List Value} (h1 : W.ownsRow b1 e1 s1 v1 n1 x1) (h2 : W.ownsRow b2 e2 s2 v2 n2 x2) (he : e1 ≠ e2) : v1.ownBlock = none ∨ v1.ownBlock ≠ v2.ownBlock := by
  cases hv : v1.ownBlock with
  | none => exact .inl rfl
  | some k =>
    refine .inr fun e => ?_
    obtain ⟨c1, hc1⟩ := own_typed h1 k hv
    obtain ⟨c2, hc2⟩ := own_typed h2 k e.symm
    rw [hc1] at hc2
    injection hc2 with hc2
    injection hc2 with _ hc2
    exact he hc2
theorem sumsC_get (l r ws : List Int) (pre : List Nat) (n : Nat) (hn : n < pre.length) : ∀ j, j < 3 → (sumsC l r ws pre)[n * 3 + j]? = (cellsS (bandS l r ws pre[n]))[j]? := by
  induction pre generalizing n with
  | nil => simp at hn
  | cons x pre ih =>
    intro j hj
    have e : sumsC l r ws (x :: pre) = cellsS (bandS l r ws x) ++ sumsC l r ws pre := by simp [sumsC]
    rw [e]
    cases n with
    | zero => rw [List.getElem?_append_left (by simp [cellsS]; omega)]; simp
    | succ n =>
      rw [List.getElem?_append_right (by simp [cellsS]; omega)]
      have : (n + 1) * 3 + j - (cellsS (bandS l r ws x)).length = n * 3 + j := by simp [cellsS]; omega
      rw [this, ih n (by simpa using hn) j hj]
      simp
/-- A band's sums are small. -/
theorem bandS_bound {l r : List Int} (hl : Coefs 2097152 l) (hr : Coefs 2097152 r) {ws : List Int} (hw : WOk ws) (b : Nat) :
    0 ≤ (bandS l r ws b).1 ∧ (bandS l r ws b).1 ≤ 1125899906842624 ∧ 0 ≤ (bandS l r ws b).2.1 ∧ (bandS l r ws b).2.1 ≤ 1125899906842624 ∧ -1125899906842624 ≤ (bandS l r ws b).2.2 ∧ (bandS l r ws b).2.2 ≤ 1125899906842624 := by
  have h1 := prodSum_bound hl hl (offN ws b) (offN ws (b + 1) - offN ws b)
  have h2 := prodSum_bound hr hr (offN ws b) (offN ws (b + 1) - offN ws b)
  have h3 := prodSum_bound hl hr (offN ws b) (offN ws (b + 1) - offN ws b)
  have h4 := prodSum_sq l (offN ws b) (offN ws (b + 1) - offN ws b)
  have h5 := prodSum_sq r (offN ws b) (offN ws (b + 1) - offN ws b)
  have h6 := offN_le hw (b + 1)
  unfold bandS
  simp only
  refine ⟨h4, ?_, h5, ?_, ?_, ?_⟩ <;> omega
def stereo_Cross.f (l0 l1 l2 : List Int) : Option (List Int × Int) := if l2.length ≤ 1000 then some (if chkV l0 l1 l2 2097152 = 0 then (crossL l0 l1 l2 l2.length, 0) else ([], chkV l0 l1 l2 2097152)) else none
set_option maxRecDepth 100000 in
set_option maxHeartbeats 8000000 in
theorem stereo_Cross.calls (A0 : Option Addr) (c0 : Nat) (l0 : List Int) (A1 : Option Addr) (c1 : Nat) (l1 : List Int) (A2 : Option Addr) (c2 : Nat) (l2 : List Int) (r1 : List Int) (r2 : Int) (w : World) (hr0 : Kd.C (Kd.int .i64) w A0 l0.length l0) (hc0 : l0.length ≤ c0) (hr1 : Kd.C (Kd.int .i64) w A1 l1.length l1) (hc1 : l1.length ≤ c1) (hr2 : Kd.C (Kd.int .i64) w A2 l2.length l2) (hc2 : l2.length ≤ c2) (h : stereo_Cross.f l0 l1 l2 = some (r1, r2)) :
    Calls Try.prog 16 #[.slice A0 l0.length c0, .slice A1 l1.length c1, .slice A2 l2.length c2] w fun e w' => ∃ v : Value, e = .returned (.tuple #[v, .int .i64 r2]) ∧ Kd.R (Kd.int .i64) 3 w' w.heap.size (fun _ => True) v r1 ∧ Below w.heap.size w w' := by
  unfold stereo_Cross.f at h
  split at h
  case isFalse => cases h
  rename_i hwl
  have h := Option.some.inj h
  have HCK := Aside0.mk (check_at A0 A1 A2 l0.length l1.length c0 c1 c2 l0 l1 l2 2097152 w (by omega) (by omega) hwl rfl rfl hr0 hc0 hr1 hc1 hr2 hc2)
  by_cases hz : chkV l0 l1 l2 2097152 = 0
  · rw [if_pos hz] at h
    obtain ⟨rfl, rfl⟩ := Prod.mk.inj h
    obtain ⟨hwo, hn0, hn1, hi0, hi1⟩ := chkV_ok hz
    have HE := Aside0.mk fun (w1 : World) (hb : Below w.heap.size w w1) => eachsums_calls A0 A1 A2 c0 c1 c2 l0 l1 l2 w1 (Kd.C_below hr0 hb) (Kd.C_below hr1 hb) (Kd.C_below hr2 hb) hn0 hn1 hwo (coefs_of (by omega) hi0) (coefs_of (by omega) hi1)
    have HBD := Aside0.mk (bandS_bound (coefs_of (by omega) hi0) (coefs_of (by omega) hi1) hwo)
    have hlen := hwo.2.2
    obtain ⟨i0, hi, hz0, hz1, hz2⟩ := info_parts info3
    obtain ⟨i1, hj, hj0, hj1, hj2⟩ := info_parts info51
    rw [hz] at HCK
    rw [hn0, hn1] at HCK ⊢
    clear hr0 hc0 hr1 hc1 hr2 hc2 h hz hwo hi0 hi1 hn0 hn1
    obtain ⟨len, hlen0⟩ : ∃ n, n = l2.length := ⟨_, rfl⟩
    rw [← hlen0] at HCK HE hlen hwl ⊢
    have HLEN := Aside0.mk hlen0
    clear hlen0
    obtain ⟨hlen1, hlen2⟩ := hlen
    go_enter Try.func16, Try.ntmps16
    go_wp2_with (first | (go_at_call 27; refine HCK.out.mono ?_; rintro e w1 ⟨rfl, hb⟩; have HB1 := Aside0.mk hb; clear hb) | (go_at_call 34; refine (HE.out _ HB1.out).mono ?_; rintro e w2 ⟨v, rfl, hrow, hb⟩; have HROW := Aside0.mk hrow; have HB2 := Aside0.mk (HB1.out.trans (hb.mono HB1.out.size)); obtain ⟨g, cap, rfl⟩ : ∃ g cap, v = .slice (some ⟨g, 0, none⟩) len cap := (by obtain ⟨n, rfl⟩ : ∃ n, len = n + 1 := ⟨len - 1, by omega⟩; exact ownsRow_succ hrow); clear hb hrow))
    go_loopw [10, 27] (fun v i wr => ∃ n : Nat, i = .int .i64 (n : Int) ∧ Aside0 (n ≤ len) ∧ Aside0 (wr.ownsRow w.heap.size 3 1 v n ((crossL l0 l1 l2 n).map (Value.int .i64))) ∧ Aside0 (wr.ownsRow w1.heap.size 51 3 (.slice (some ⟨g, 0, none⟩) len cap) len (sumsC l0 l1 l2 (List.range len))) ∧ Aside0 (Below w.heap.size w wr)) (fun _ i _ => len - (intOf i).toNat)
    case atStart => exact ⟨0, rfl, ⟨Nat.zero_le _⟩, ⟨World.ownsRow_nil _ _ _ _⟩, HROW, HB2⟩
    case round =>
      obtain ⟨n, rfl, HN, HOUT, HSUM, HB⟩ := hrel
      by_cases hn : n < len
      · have HNT := Aside0.mk hn
        have hpl : n < l2.length := by rw [← HLEN.out]; exact hn
        have k0 := (HSUM.out.cells rfl) (n * 3 + 0) _ (by rw [sumsC_get l0 l1 l2 (List.range len) n (by simpa using hn) 0 (by omega)]; rfl)
        have k1 := (HSUM.out.cells rfl) (n * 3 + 1) _ (by rw [sumsC_get l0 l1 l2 (List.range len) n (by simpa using hn) 1 (by omega)]; rfl)
        have k2 := (HSUM.out.cells rfl) (n * 3 + 2) _ (by rw [sumsC_get l0 l1 l2 (List.range len) n (by simpa using hn) 2 (by omega)]; rfl)
        simp only [List.getElem_range, addr_add, Nat.add_zero] at k0 k1 k2
        have hbd := HBD.out n
        obtain ⟨v1, hv1⟩ : ∃ v, v = (bandS l0 l1 l2 n).1 := ⟨_, rfl⟩
        obtain ⟨v2, hv2⟩ : ∃ v, v = (bandS l0 l1 l2 n).2.1 := ⟨_, rfl⟩
        obtain ⟨v3, hv3⟩ : ∃ v, v = (bandS l0 l1 l2 n).2.2 := ⟨_, rfl⟩
        have hcr : crossB l0 l1 l2 n = crossV v1 v2 v3 := by rw [hv1, hv2, hv3]; rfl
        rw [← hv1] at k0 hbd
        rw [← hv2] at k1 hbd
        rw [← hv3] at k2 hbd
        obtain ⟨C, hC⟩ : ∃ C, C = crossB l0 l1 l2 n := ⟨_, rfl⟩
        have HCALL := fun w0 => Aside0.mk (cross_calls v1 v2 v3 C w0 hbd.1 hbd.2.1 hbd.2.2.1 hbd.2.2.2.1 hbd.2.2.2.2.1 hbd.2.2.2.2.2 (by rw [hC, hcr]))
        have HC := Aside0.mk hC
        have hd : decide (n < len) = true := decide_eq_true hn
        clear hbd hv1 hv2 hv3 hcr hC hpl
        go_wp2_with (first | (go_at_call 36; refine (HCALL _).out.mono ?_; rintro e w3 ⟨rfl, hb⟩; have HB3 := Aside0.mk hb; have hs3 : w.heap.size ≤ w3.heap.size := (by have h1 := hb.size; have h2 := HB.out.size; simp at h1; omega); clear hb) | (at_builtin; refine wpList_append_own _ rfl _ _ 22 rfl w.heap.size 3 i0 (.int .i64 0) 1 8 Try.underlying22 hi hz0 hz1 hz2 rfl (by decide) _ _ _ rfl ((own_stays (HOUT.out.alloc _) HB3.out).alloc _) ⟨w3.heap.size, 0, none⟩ 1 1 [.int .i64 C] rfl rfl (cell_one_new _ _ _) (by simp [Value.oneCell']) (by unfold maxLen; omega) (by omega) (by simp; omega) ?_; intro v' w4 hown' hgrow _; have HOWN := Aside0.mk hown'; have HGROW := Aside0.mk hgrow; clear hown' hgrow))
        go_roundw
        case rel => exact ⟨n + 1, by go_num, ⟨HNT.out⟩, ⟨by rw [crossL_succ, ← HC.out, List.map_append]; exact HOWN.out⟩, ⟨((own_stays (HSUM.out.alloc _) HB3.out).alloc _).kept HGROW.out (rows_apart (own_stays (HSUM.out.alloc _) HB3.out) (own_stays (HOUT.out.alloc _) HB3.out) (by decide))⟩, ⟨((((HB.out.alloc HB.out.size _).trans (HB3.out.mono (by have := HB.out.size; simp; omega)))).alloc hs3 _).grown HGROW.out (by simp; omega) (fun j ej => own_base (own_stays (HOUT.out.alloc _) HB3.out) j ej)⟩⟩
        case measure => simp [intOf]; omega
      · obtain rfl : n = len := by have := HN.out; omega
        have hd : decide (n < n) = false := decide_eq_false (by omega)
        go_wp2
        go_ret2
        exact ⟨_, rfl, Kd.R_of_own (enc := Value.int .i64) (h1 := fun _ => rfl) (by rw [crossL_length]; exact HOUT.out) (fun _ _ => trivial), HB.out⟩
  · rw [if_neg hz] at h
    obtain ⟨rfl, rfl⟩ := Prod.mk.inj h
    have hzb : (chkV l0 l1 l2 2097152 == 0) = false := beq_eq_false_iff_ne.2 hz
    obtain ⟨z, hze⟩ : ∃ z, z = chkV l0 l1 l2 2097152 := ⟨_, rfl⟩
    rw [← hze] at HCK hzb ⊢
    clear hr0 hc0 hr1 hc1 hr2 hc2 h hz hze
    go_enter Try.func16, Try.ntmps16
    go_wp2_with (go_at_call 27; refine HCK.out.mono ?_; rintro e w1 ⟨rfl, hb⟩; have HB1 := Aside0.mk hb; clear hb)
    go_ret2
    exact ⟨_, rfl, Kd.R_nil _ _ _ _ _, HB1.out⟩
end

end Go.Proofs.Ytjplalkgabpinaa.Hn
