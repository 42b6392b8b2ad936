/- Functions of the Go program as Lean functions, each with a proof that the call computes it. Conditions: none beyond each theorem's own. -/
import Derived.Test.YtooipbjdpajmmaaHlx0
import Derived.Test.YtooipbjdpajmmaaHlx3
import Derived.Test.YtooipbjdpajmmaaHlx4
namespace Go.Proofs.Ytooipbjdpajmmaa.Hl
open Go.RowKit Go.Proofs.YtooipbjdpajmmaaW.PrintWords Go.Proofs.YtooipbjdpajmmaaW.PrintLast Go.Proofs.YtooipbjdpajmmaaW.PrintMore
attribute [local go_sem] max2_int min2_int max_two min_two max_three min_three max_four min_four   -- for this text's walks alone
set_option linter.unusedVariables false
set_option linter.unusedSimpArgs false

/-! ### block_attacks: function 44 (by hand) -/
section
attribute [local go_sem] Oper.semAt_some
/-- What attacks does with a part: the ring of the energies before, the parts told so far. -/
def aStep (l : List Int) (s : (Nat → Int) × List Int) (j : Nat) : (Nat → Int) × List Int :=
  (fun k => if j % 4 = k then energyOf l j else s.1 k, if 8 * ((s.1 0 + s.1 1 + s.1 2 + s.1 3) / 4) + 65536 < energyOf l j then s.2 ++ [(j : Int)] else s.2)
def aSt (l : List Int) (pre : List Nat) : (Nat → Int) × List Int := pre.foldl (aStep l) (fun _ => 0, [])
theorem aSt_snoc (l : List Int) (pre : List Nat) (x : Nat) : aSt l (pre ++ [x]) = aStep l (aSt l pre) x := by simp [aSt]
theorem energy_bound {l : List Int} (h : Samples l) (j : Nat) : 0 ≤ energyOf l j ∧ energyOf l j ≤ 274877906944 := by
  have := partSum_bound h j 16
  unfold energyOf
  omega
theorem aSt_bound {l : List Int} (h : Samples l) (pre : List Nat) (k : Nat) : 0 ≤ (aSt l pre).1 k ∧ (aSt l pre).1 k ≤ 274877906944 := by
  have key : ∀ (pre : List Nat) (s : (Nat → Int) × List Int), (∀ k, 0 ≤ s.1 k ∧ s.1 k ≤ 274877906944) → ∀ k, 0 ≤ (pre.foldl (aStep l) s).1 k ∧ (pre.foldl (aStep l) s).1 k ≤ 274877906944 := by
    intro pre
    induction pre with
    | nil => exact fun s hs k => hs k
    | cons x pre ih =>
      intro s hs k
      refine ih _ (fun k => ?_) k
      unfold aStep
      dsimp only
      split
      · exact energy_bound h x
      · exact hs k
  exact key pre _ (fun k => by simp) k
theorem aSt_length (l : List Int) (pre : List Nat) : (aSt l pre).2.length ≤ pre.length := by
  have key : ∀ (pre : List Nat) (s : (Nat → Int) × List Int), (pre.foldl (aStep l) s).2.length ≤ s.2.length + pre.length := by
    intro pre
    induction pre with
    | nil => exact fun s => by simp
    | cons x pre ih =>
      intro s
      have h1 := ih (aStep l s x)
      have h2 : (aStep l s x).2.length ≤ s.2.length + 1 := by
        unfold aStep
        dsimp only
        split <;> simp
      rw [List.foldl_cons, List.length_cons]
      omega
  have := key pre (fun _ => 0, [])
  simpa [aSt] using this
theorem checkB_zero {l : List Int} (hz : checkB l = 0) : Samples l ∧ (l.length : Int) % 128 = 0 ∧ l.length ≤ 8192 := by
  unfold checkB at hz
  by_cases h1 : (l.length : Int) % 128 = 0 ∧ l.length ≤ 8192
  · rw [if_pos h1] at hz
    by_cases h2 : Samples l
    · exact ⟨h2, h1⟩
    · rw [if_neg h2] at hz; omega
  · rw [if_neg h1] at hz; omega
/-- A block of cells, known whole. -/
def Whole (W : World) (B : Nat) (t : TypeId) (vs : Array Value) : Prop := W.heap[B]? = some (.cells vs t (0, 0))
theorem Whole.kept {W W' : World} {row : Option Nat} {B : Nat} {t : TypeId} {vs : Array Value} (h : Whole W B t vs) (hg : W.grownBy W' row) (hne : some B ≠ row) : Whole W' B t vs := (hg.block B (Array.getElem?_eq_some_iff.1 h).1 hne).trans h
theorem Whole.alloc {W : World} {B : Nat} {t : TypeId} {vs : Array Value} (h : Whole W B t vs) (o : Obj) : Whole (W.alloc o) B t vs := h.kept (World.grownBy_alloc W o none) (by simp)
theorem Whole.other {W : World} {B B' : Nat} {t : TypeId} {vs : Array Value} (h : Whole W B t vs) (hne : B ≠ B') (k : Nat) (u : Value) : Whole (W.setCell ⟨B', k, none⟩ u) B t vs := (Below.heap_setCell W ⟨B', k, none⟩ u B hne).trans h
theorem Whole.cell {W : World} {B : Nat} {t : TypeId} {vs : Array Value} (h : Whole W B t vs) (k : Nat) : W.cell? ⟨B, k, none⟩ = vs[k]? := by simp [World.cell?, show W.heap[B]? = _ from h]
theorem Whole.frozen {W : World} {B : Nat} {t : TypeId} {vs : Array Value} (h : Whole W B t vs) (k : Nat) : W.frozen? ⟨B, k, none⟩ = false := by simp [World.frozen?, show W.heap[B]? = _ from h]
theorem Whole.set {W : World} {B : Nat} {t : TypeId} {vs : Array Value} (h : Whole W B t vs) (k : Nat) (u : Value) : Whole (W.setCell ⟨B, k, none⟩ u) B t (vs.setIfInBounds k u) := by
  obtain ⟨hlt, hk⟩ := Array.getElem?_eq_some_iff.1 h
  show (W.heap.modify B _)[B]? = _
  rw [Array.getElem?_eq_getElem (by rw [Array.size_modify]; exact hlt), Array.getElem_modify_self, hk]
  rfl
theorem whole_own {β : Type} (B : Nat) (t : TypeId) (f : β → Array Value) : Own (fun s W => Whole W B t (f s)) := fun s X Y row hs hg hrow =>
  hs.kept hg (fun e' => by obtain ⟨o, ho, hc⟩ := hrow B e'.symm; rw [show X.heap[B]? = _ from hs] at ho; cases ho; cases hc)
theorem Whole.not_row {W : World} {B : Nat} {t e : TypeId} {vs : Array Value} (h : Whole W B t vs) (hte : t ≠ e) {base size k : Nat} {v : Value} {xs : List Value} (hr : W.ownsRow base e size v k xs) : some B ≠ v.ownBlock := own_ne hr h (Ne.symm hte)
/-- The ring. -/
def ringOf (f : Nat → Int) : Array Value := #[.int .i64 (f 0), .int .i64 (f 1), .int .i64 (f 2), .int .i64 (f 3)]
theorem ringOf_step (l : List Int) (s : (Nat → Int) × List Int) (j : Nat) : ringOf (aStep l s j).1 = (ringOf s.1).setIfInBounds (j % 4) (.int .i64 (energyOf l j)) := by
  unfold ringOf aStep
  have h : j % 4 = 0 ∨ j % 4 = 1 ∨ j % 4 = 2 ∨ j % 4 = 3 := by omega
  rcases h with h | h | h | h <;> simp [h]
theorem after_ring {W W1 : World} {n₀ m : Nat} {v' s : Value} {ys : List Value} {vs : Array Value} (r : Nat) (u : Value) (hv2 : Boxed W1 (n₀ + 1) 22 v') (hr2 : W1.ownsRow n₀ 3 1 v' m ys) (hX : Boxed W1 (n₀ + 1 + 1) 22 s) (hw : Whole W1 n₀ 66 vs) (hk2 : KeepsOthers W W1) (hb2 : Below n₀ W W1) :
    Boxed (W1.setCell ⟨n₀, r, none⟩ u) (n₀ + 1) 22 v' ∧ (W1.setCell ⟨n₀, r, none⟩ u).ownsRow n₀ 3 1 v' m ys ∧ Boxed (W1.setCell ⟨n₀, r, none⟩ u) (n₀ + 1 + 1) 22 s ∧ Whole (W1.setCell ⟨n₀, r, none⟩ u) n₀ 66 (vs.setIfInBounds r u) ∧ KeepsOthers W (W1.setCell ⟨n₀, r, none⟩ u) ∧ Below n₀ W (W1.setCell ⟨n₀, r, none⟩ u) := by
  have hg : W1.grownBy (W1.setCell ⟨n₀, r, none⟩ u) (some n₀) := ⟨rfl, rfl, rfl, (KeepsWalks.setCell W1 _ u).size, fun k _ hk => Below.heap_setCell _ _ _ k (fun e => hk (by rw [e]))⟩
  exact ⟨Whole.other (vs := #[v']) hv2 (by omega) r u, hr2.kept hg (.inr (hw.not_row (by decide) hr2).symm), Whole.other (vs := #[s]) hX (by omega) r u, hw.set r u, hk2.trans (KeepsOthers.setCell _ _ _), hb2.setCell (p := ⟨n₀, r, none⟩) (Nat.le_refl _) u⟩
def block_attacks.f (l0 : List Int) : Option (List Int) := if checkB l0 = 0 then some (aSt l0 (List.range (l0.length / 16))).2 else none
set_option maxRecDepth 100000 in
set_option maxHeartbeats 4000000 in
theorem block_attacks.calls (A0 : Option Addr) (c0 : Nat) (l0 : List Int) (r : List Int) (w : World) (hr0 : Kd.C (Kd.int .i64) w A0 l0.length l0) (hc0 : l0.length ≤ c0) (h : block_attacks.f l0 = some r) :
    Calls Try.prog 44 #[.slice A0 l0.length c0] w fun e w' => ∃ v0_ : Value, e = .returned v0_ ∧ Kd.R (Kd.int .i64) 3 w' w.heap.size (fun _ => True) v0_ r ∧ Below w.heap.size w w' := by
  have HR := Aside0.mk hr0
  have HC := Aside0.mk hc0
  clear hr0 hc0
  unfold block_attacks.f at h
  by_cases hz : checkB l0 = 0
  · rw [if_pos hz] at h
    simp only [Option.some.injEq] at h
    obtain rfl := h
    obtain ⟨hs, hm, hle⟩ := checkB_zero hz
    have HS := Aside0.mk hs
    have hp : l0.length = 16 * (l0.length / 16) := by omega
    obtain ⟨p, hpe⟩ : ∃ p, p = l0.length / 16 := ⟨_, rfl⟩
    rw [← hpe] at hp ⊢
    have hp2 : p ≤ 512 := by omega
    have HP := Aside0.mk hp
    clear hs hm hle hp hz hpe
    obtain ⟨i0, hi, hz0, hz1, hz2⟩ := info_parts info3
    refine (callsIn_wide (n := 3)).1 ?_
    refine callsIn_of_wp_marks Try.func44 rfl trivial ?_ rfl
    simp only [Try.ntmps44, List.size_toArray, List.length_cons, List.length_nil, Nat.reduceAdd, Nat.reduceSub, Array.replicate_succ, Array.replicate_zero, List.push_toArray, List.append_toArray, List.nil_append, List.cons_append]
    gi_wp2_with (refine ⟨trivial, ?_⟩; gi_at_call 42; refine (energies_in Fence.wide _ trivial rfl A0 _ c0 _).mono ?_; rintro e w' ⟨rfl, rfl⟩)
    have wR : Whole (w.alloc (.cells (ringOf (fun _ => 0)) 66)) w.heap.size 66 (ringOf (fun _ => 0)) := World.alloc_heap_new w _
    have bO := Boxed.new (w.alloc (.cells (ringOf (fun _ => 0)) 66)) 22 (.slice none 0 0)
    have bN := Boxed.new ((w.alloc (.cells (ringOf (fun _ => 0)) 66)).alloc (.cells #[.slice none 0 0] 22)) 22 (.slice A0 l0.length c0)
    rw [World.size_alloc] at bO
    rw [World.size_alloc, World.size_alloc] at bN
    have hB0 : Below w.heap.size w (((w.alloc (.cells (ringOf (fun _ => 0)) 66)).alloc (.cells #[.slice none 0 0] 22)).alloc (.cells #[.slice A0 l0.length c0] 22)) := (((Below.refl _ w).alloc (Nat.le_refl _) _).alloc (by simp) _).alloc (by simp; omega) _
    refine wpIn_rangeFunc_ownG rfl (by omega) (gf := 59) (lb := #[.pointer (some ⟨w.heap.size + 1 + 1, 0, none⟩)]) rfl trivial (enters_of Try.func59 (by kernel_rfl) rfl)
      (energies_stops Fence.wide 2 trivial rfl (by omega) (w.heap.size + 1 + 1) A0 c0 p l0 HP.out hp2 HS.out HC.out w _ hB0 (by simp) bN.cell HR.out) kpB_t (kpB_b (by simp; omega) (by simp)) (Below.refl _ _) (fun _ => rfl)
      (fun pre W => (∃ v, Boxed W (w.heap.size + 1) 22 v ∧ W.ownsRow w.heap.size 3 1 v (aSt l0 pre).2.length ((aSt l0 pre).2.map (Value.int .i64)) ∧ True) ∧ Boxed W (w.heap.size + 1 + 1) 22 (.slice A0 l0.length c0) ∧ Whole W w.heap.size 66 (ringOf (aSt l0 pre).1) ∧ Below w.heap.size w W)
      (fun _ _ _ => False)
      (OwnFrom.and (Own.from (holdsRow_own w.heap.size (w.heap.size + 1) 22 3 1 (fun pre : List Nat => (aSt l0 pre).2.length) (fun pre : List Nat => (aSt l0 pre).2.map (Value.int .i64)) (fun _ _ => True)) _) (OwnFrom.and (Own.from (boxed_own (w.heap.size + 1 + 1) 22 (fun (_ : List Nat) => Value.slice A0 l0.length c0)) _) (OwnFrom.and (Own.from (whole_own w.heap.size 66 (fun pre : List Nat => ringOf (aSt l0 pre).1)) _) (ownFrom_below (Nat.le_refl _) (by simp; omega)))))
      (fun _ _ _ _ _ hs _ _ => hs)
      ⟨⟨_, bO.alloc _, World.ownsRow_nil _ _ _ _, trivial⟩, bN, (wR.alloc _).alloc _, hB0⟩
      (fun x => { tmps := #[.slice A0 l0.length c0, undef, .slice none 0 0, .pointer (some ⟨w.heap.size, 0, none⟩), .pointer (some ⟨w.heap.size + 1, 0, none⟩), .int .i64 (x : Int), .int .i64 (energyOf l0 x), .slice A0 l0.length c0, .func (.func 59) #[] #[.pointer (some ⟨w.heap.size + 1 + 1, 0, none⟩)], .int .i64 (x : Int), .int .i64 (energyOf l0 x), undef, undef, undef, undef, undef, undef, undef, undef, undef, undef, undef, undef, undef, undef, undef, undef, undef, undef, undef, undef, undef, undef, undef, undef, undef], defers := [] }) ?assign ?body ?done ?stop
    case assign =>
      intro l x W K hK
      gi_wp2
      exact hK
    case body =>
      rintro l pre x W ⟨⟨v, hv, hrow, _⟩, hx, hw, hB⟩ hlt
      have HX := Aside0.mk hx
      have HW := Aside0.mk hw
      have HSN := Aside0.mk (aSt_snoc l0 pre x)
      have HRS := Aside0.mk (ringOf_step l0 (aSt l0 pre) x)
      have HLE := Aside0.mk (aSt_length l0 pre)
      have hc := hv.cell
      have b0 := aSt_bound HS.out pre 0
      have b1 := aSt_bound HS.out pre 1
      have b2 := aSt_bound HS.out pre 2
      have b3 := aSt_bound HS.out pre 3
      have be := energy_bound HS.out x
      have c0_ := hw.cell 0
      have c1_ := hw.cell 1
      have c2_ := hw.cell 2
      have c3_ := hw.cell 3
      simp only [ringOf] at c0_ c1_ c2_ c3_
      simp at c0_ c1_ c2_ c3_
      clear hx hw
      have hx4 : x % 4 = 0 ∨ x % 4 = 1 ∨ x % 4 = 2 ∨ x % 4 = 3 := by omega
      by_cases hat : 8 * (((aSt l0 pre).1 0 + (aSt l0 pre).1 1 + (aSt l0 pre).1 2 + (aSt l0 pre).1 3) / 4) + 65536 < energyOf l0 x
      · have HAT := Aside0.mk hat
        have hat2 : decide (8 * (((aSt l0 pre).1 0 + (aSt l0 pre).1 1 + (aSt l0 pre).1 2 + (aSt l0 pre).1 3) / 4) + 65536 < energyOf l0 x) = true := decide_eq_true hat
        clear hat
        have hs2 : (aSt l0 (pre ++ [x])).2 = (aSt l0 pre).2 ++ [(x : Int)] := by rw [HSN.out]; unfold aStep; dsimp only; rw [if_pos HAT.out]
        have HS2 := Aside0.mk hs2
        clear hs2
        rcases hx4 with h4 | h4 | h4 | h4
        all_goals
          have H4 := Aside0.mk h4
          have h5 : (x : Int) % 4 = ((x % 4 : Nat) : Int) := by omega
          rw [h4] at h5
          simp only [Int.cast_ofNat_Int, Int.natCast_zero, Int.natCast_one] at h5
          clear h4
          gi_wp2_with (gi_at_builtin; refine wpListIn_append_own _ rfl _ _ 22 rfl w.heap.size 3 i0 (.int .i64 0) 1 8 Try.underlying22 hi hz0 hz1 hz2 rfl (by decide) _ _ _ rfl (hrow.alloc _) ⟨W.heap.size, 0, none⟩ 1 1 [.int .i64 (x : Int)] rfl rfl (cell_one_new _ _ _) (by simp [Value.oneCell']) (by have := HLE.out; unfold maxLen; omega) (by have := HLE.out; omega) (by have := hB.size; simp; omega) ?_; intro v' w1 hown' hgrow _; obtain ⟨g', cap', rfl⟩ := ownsRow_succ hown'; obtain ⟨hv1, hv2, hr2, hk2, hb2⟩ := hv.appended (by decide) hrow hB.size (Nat.le_succ _) hown' hgrow; have hc1 := hv1.cell; have hf1 := hv1.frozen; have hw1 := Aside0.mk ((HW.out.alloc _).kept hgrow (HW.out.not_row (by decide) hrow)); have cu0 := hw1.out.cell 0; have cu1 := hw1.out.cell 1; have cu2 := hw1.out.cell 2; have cu3 := hw1.out.cell 3; simp only [ringOf] at cu0 cu1 cu2 cu3; simp at cu0 cu1 cu2 cu3; have fu0 := hw1.out.frozen 0; have fu1 := hw1.out.frozen 1; have fu2 := hw1.out.frozen 2; have fu3 := hw1.out.frozen 3)
          obtain ⟨k1, k2, k3, k4, k5, k6⟩ := after_ring (W := W) (n₀ := w.heap.size) (x % 4) (.int .i64 (energyOf l0 x)) hv2 hr2 (((HX.out.alloc _).kept hgrow (HX.out.not_row (by decide) hrow)).other (show w.heap.size + 1 + 1 ≠ w.heap.size + 1 by omega) _) (hw1.out.other (show w.heap.size ≠ w.heap.size + 1 by omega) 0 _) hk2 hb2
          rw [H4.out] at k1 k2 k3 k4 k5 k6
          refine ⟨k5.from _, ⟨k6, Eq.trans k3 (Eq.symm HX.out)⟩, ⟨_, k1, ?_⟩, k3, ?_, hB.trans k6⟩
          · rw [HS2.out]; simpa using k2
          · rw [HSN.out, HRS.out, H4.out]; exact k4
      · have HAT := Aside0.mk hat
        have hat2 : decide (8 * (((aSt l0 pre).1 0 + (aSt l0 pre).1 1 + (aSt l0 pre).1 2 + (aSt l0 pre).1 3) / 4) + 65536 < energyOf l0 x) = false := decide_eq_false hat
        clear hat
        have hs2 : (aSt l0 (pre ++ [x])).2 = (aSt l0 pre).2 := by rw [HSN.out]; unfold aStep; dsimp only; rw [if_neg HAT.out]
        have HS2 := Aside0.mk hs2
        clear hs2
        have f0_ := HW.out.frozen 0
        have f1_ := HW.out.frozen 1
        have f2_ := HW.out.frozen 2
        have f3_ := HW.out.frozen 3
        rcases hx4 with h4 | h4 | h4 | h4
        all_goals
          have H4 := Aside0.mk h4
          have h5 : (x : Int) % 4 = ((x % 4 : Nat) : Int) := by omega
          rw [h4] at h5
          simp only [Int.cast_ofNat_Int, Int.natCast_zero, Int.natCast_one] at h5
          clear h4
          gi_wp2
          obtain ⟨k1, k2, k3, k4, k5, k6⟩ := after_ring (W := W) (n₀ := w.heap.size) (x % 4) (.int .i64 (energyOf l0 x)) hv hrow HX.out HW.out (KeepsOthers.refl W) (Below.refl _ W)
          rw [H4.out] at k1 k2 k3 k4 k5 k6
          refine ⟨k5.from _, ⟨k6, Eq.trans k3 (Eq.symm HX.out)⟩, ⟨_, k1, ?_⟩, k3, ?_, hB.trans k6⟩
          · rw [HS2.out]; simpa using k2
          · rw [HSN.out, HRS.out, H4.out]; exact k4
    case done =>
      rintro D ys W hD rfl ⟨⟨v, hv, hrow, _⟩, _, _, hB⟩ hK
      have hc := hv.cell
      gi_wp2
      refine ⟨by simp, .inl ⟨_, _, rfl, run_takeDeferred hK, ?_⟩⟩
      exact ⟨_, results_tmp rfl _ _ _, v, rfl, Kd.R_of_own (enc := Value.int .i64) (h1 := fun _ => rfl) (ownsRow_putObj hrow _ hK rfl) (fun _ _ => trivial), hB.trans (belowK_b (w := w) (Nat.le_refl _) W D _ _ (by simp at hD; omega) hK rfl rfl)⟩
    case stop =>
      rintro D c pre W _ _ h _
      exact h.elim
  · rw [if_neg hz] at h
    exact absurd h (by simp)
end

/-! ### block_Flags: function 20 -/
def block_Flags.l0 : Nat → List Bool → List Int → Int → Int → Option (List Bool × Int)
  | 0, _, _, _, _ => none
  | k + 1, x5, x18, x19, x20 => if x20 < x19 then (if 0 ≤ x20 then (if x20 < (x18.length : Int) then (if 0 ≤ (wrap64 (Int.tdiv (rd x18 x20) 8)) then (if (wrap64 (Int.tdiv (rd x18 x20) 8)) < (x5.length : Int) then (block_Flags.l0 k (x5.set ((wrap64 (Int.tdiv (rd x18 x20) 8)) : Int).toNat true) x18 x19 (wrap64 (x20 + 1))) else (none)) else (none)) else (none)) else (none)) else (some (x5, 0))
def block_Flags.f (k : Nat) (l0 : List Int) : Option (List Bool × Int) := (block_check.f k l0).bind fun t119 => (if t119 = 0 then (if 0 ≤ (wrap64 ((l0.length : Int) / 128)) then (if (wrap64 ((l0.length : Int) / 128) : Int).toNat ≤ 281474976710656 then ((block_attacks.f l0).bind fun t123 => (block_Flags.l0 k (List.replicate (wrap64 ((l0.length : Int) / 128) : Int).toNat false) t123 (t123.length : Int) 0)) else (none)) else (none)) else (some (([] : List Bool), t119)))
theorem block_Flags.mono_l : ∀ k, (∀ y0 y1 y2 y3, LeO (block_Flags.l0 k y0 y1 y2 y3) (block_Flags.l0 (k + 1) y0 y1 y2 y3))
  | 0 => fun _ _ _ _ r h => by simp [block_Flags.l0] at h
  | k + 1 => by
    have ih0 := block_Flags.mono_l k
    · intro y0 y1 y2 y3
      unfold block_Flags.l0
      repeat' first
      | (with_reducible exact ih0 _ _ _ _)
      | (with_reducible exact block_check.mono _ _)
      | (with_reducible exact LeO.refl _)
      | (with_reducible exact LeO.none _)
      | (with_reducible refine LeO.ite ?_ ?_)
      | (with_reducible refine LeO.bind ?_ (fun _ => ?_))
      | exact ih0 _ _ _ _
      | exact block_check.mono _ _
      | exact LeO.none _
      | refine LeO.ite ?_ ?_
      | refine LeO.bind ?_ (fun _ => ?_)
theorem block_Flags.mono : ∀ a0 k, LeO (block_Flags.f k a0) (block_Flags.f (k + 1) a0) := by
  intro a0 k
  have ih0 := block_Flags.mono_l k
  unfold block_Flags.f
  repeat' first
      | (with_reducible exact ih0 _ _ _ _)
      | (with_reducible exact block_check.mono _ _)
      | (with_reducible exact LeO.refl _)
      | (with_reducible exact LeO.none _)
      | (with_reducible refine LeO.ite ?_ ?_)
      | (with_reducible refine LeO.bind ?_ (fun _ => ?_))
      | exact ih0 _ _ _ _
      | exact block_check.mono _ _
      | exact LeO.none _
      | refine LeO.ite ?_ ?_
      | refine LeO.bind ?_ (fun _ => ?_)
set_option maxHeartbeats 8000000 in
set_option maxRecDepth 100000 in
theorem block_Flags.calls (k : Nat) (A0 : Option Addr) (c0 : Nat) (l0 : List Int) (r1 : List Bool) (r2 : Int) (w : World) (hr0 : Kd.C (Kd.int .i64) w A0 l0.length l0) (hc0 : l0.length ≤ c0) (h : block_Flags.f k l0 = some (r1, r2)) :
    Calls Try.prog 20 #[.slice A0 l0.length c0] w fun e w' => ∃ v0_ : Value, e = .returned (.tuple #[v0_, .int .i64 r2]) ∧ Kd.R Kd.bool 4 w' w.heap.size (fun _ => True) v0_ r1 ∧ Below w.heap.size w w' := by
  have HR0 := Aside0.mk hr0
  have HC0 := Aside0.mk hc0
  clear hr0 hc0
  have HB := Aside0.mk (Below.refl w.heap.size w)
  have H : ((block_check.f k l0).bind fun t119 => (if t119 = 0 then (if 0 ≤ (wrap64 ((l0.length : Int) / 128)) then (if (wrap64 ((l0.length : Int) / 128) : Int).toNat ≤ 281474976710656 then ((block_attacks.f l0).bind fun t123 => (block_Flags.l0 k (List.replicate (wrap64 ((l0.length : Int) / 128) : Int).toNat false) t123 (t123.length : Int) 0)) else (none)) else (none)) else (some (([] : List Bool), t119)))) = some (r1, r2) := h
  clear h
  replace H := Option.bind_eq_some_iff.mp H
  obtain ⟨t119, A20, H⟩ := H
  replace H : (if t119 = 0 then (if 0 ≤ (wrap64 ((l0.length : Int) / 128)) then (if (wrap64 ((l0.length : Int) / 128) : Int).toNat ≤ 281474976710656 then ((block_attacks.f l0).bind fun t123 => (block_Flags.l0 k (List.replicate (wrap64 ((l0.length : Int) / 128) : Int).toNat false) t123 (t123.length : Int) 0)) else (none)) else (none)) else (some (([] : List Bool), t119))) = some (r1, r2) := H
  have A2 := Aside0.mk A20
  clear A20
  by_cases c3 : t119 = 0
  · rw [if_pos c3] at H
    have c3b0 : (t119 == 0) = true := beq_iff_eq.mpr c3
    have c3b1 : (t119 != 0) = false := bne_eq_false_iff_eq.mpr c3
    clear c3
    obtain ⟨ji4, hji4⟩ : ∃ j_ : Int, (wrap64 ((l0.length : Int) / 128)) = j_ := ⟨_, rfl⟩
    replace H : (if 0 ≤ (ji4) then (if (ji4 : Int).toNat ≤ 281474976710656 then ((block_attacks.f l0).bind fun t123 => (block_Flags.l0 k (List.replicate (ji4 : Int).toNat false) t123 (t123.length : Int) 0)) else (none)) else (none)) = some (r1, r2) := by first | (rw [hji4] at H; exact H) | (simp only [hji4] at H ⊢; exact H)
    (try rw [hji4] at A2)
    have hji4w : (IntKind.i64.wrap ((l0.length : Int) / 128)) = ji4 := (i64_w _).trans hji4
    by_cases c5 : 0 ≤ (ji4)
    · rw [if_pos c5] at H
      have c5b0 := eq_true c5
      have c5b1 : decide (0 ≤ (ji4)) = true := decide_eq_true c5
      clear c5
      by_cases c6 : (ji4 : Int).toNat ≤ 281474976710656
      · rw [if_pos c6] at H
        have c6b0 := eq_true c6
        have c6b1 : decide ((ji4 : Int).toNat ≤ 281474976710656) = true := decide_eq_true c6
        clear c6
        obtain ⟨y120, hy120⟩ : ∃ y_ : List Bool, y_ = (List.replicate (ji4 : Int).toNat false) := ⟨_, rfl⟩
        replace H : ((block_attacks.f l0).bind fun t123 => (block_Flags.l0 k y120 t123 (t123.length : Int) 0)) = some (r1, r2) := by first | (rw [hy120]; with_reducible exact H) | (have H2_ := (Option.bind_some _ _).symm.trans H; rw [hy120]; with_reducible exact H2_) | (have H2_ := (Option.bind_some _ _).symm.trans H; with_reducible exact H2_) | with_reducible exact H | (rw [hy120]; exact H) | exact H
        have Ny120 := Aside0.mk hy120
        clear hy120
        replace H := Option.bind_eq_some_iff.mp H
        obtain ⟨t123, A70, H⟩ := H
        replace H : (block_Flags.l0 k y120 t123 (t123.length : Int) 0) = some (r1, r2) := H
        have A7 := Aside0.mk A70
        clear A70
        have H' := Aside0.mk H
        clear H
        go_enter Try.func20, Try.ntmps20
        go_wp2_with (first | ((with_reducible refine gate_callee (f := 41) rfl ?_); refine goesL_ (some 9) rfl rfl Try.func41 (by kernel_rfl) rfl #[.slice A0 l0.length c0] rfl (by (try simp only [List.map_toArray, List.map_cons, List.map_nil]); first | done | rfl | (simp only [List.length_drop, List.length_take]; rfl)) ?_; (with_reducible refine (block_check.calls k _ _ l0 t119 _ ?side1 ?side2 A2.out).mono ?_); (case side1 => repeat (first | exact HR0.out | (with_reducible refine Kd.C_alloc ?_ _) | (with_reducible refine Kd.C_drewN ?_ _) | (with_reducible refine Kd.C_drew ?_))); (case side2 => exact HC0.out); rintro e w' ⟨rfl, ⟨nd, rfl⟩⟩; refine ⟨_, rfl, ?_⟩) | ((with_reducible refine gate_dst (N := 16) rfl ?_); refine Kd.R_make Kd.bool _ 4 rfl (N := 16) rfl 29 _ _ rfl ji4 rfl rfl Try.underlying29 (.bool false) 1 info4 rfl (by decide) (by omega) false (ok := fun _ => True) (okp := fun _ => True) rfl (fun _ hk => hk) trivial (of_decide_eq_true (by first | (with_reducible assumption) | assumption)) (Nat.le_trans (Nat.mul_le_mul_right _ (of_decide_eq_true (by first | (with_reducible assumption) | assumption) : ji4.toNat ≤ 281474976710656)) (by omega)) (Below.refl _ _) (Nat.le_refl _) ?_; intro v121 w8 ho9 hb hg_ hnew_; clear hg_ hnew_; (first | rw [← Ny120.out] at ho9 | (simp only [Int.reduceToNat] at ho9; rw [← Ny120.out] at ho9)); have n0_ := Aside0.mk (Kd.R_lower ho9 (below_size (by repeat (first | (with_reducible first | exact HB.out | apply below_alloc | apply pw_below_drewN | apply below_drew1) | exact HB.out)))); have n1_ := Aside0.mk (below_step (by repeat (first | (with_reducible first | exact HB.out | apply below_alloc | apply pw_below_drewN | apply below_drew1) | exact HB.out)) hb); clear HB; have HO122 := n0_; have HB := n1_; clear n0_ n1_; clear hb ho9) | ((with_reducible refine gate_callee (f := 44) rfl ?_); refine goesL_ (some 18) rfl rfl Try.func44 (by kernel_rfl) rfl #[.slice A0 l0.length c0] rfl (by (try simp only [List.map_toArray, List.map_cons, List.map_nil]); first | done | rfl | (simp only [List.length_drop, List.length_take]; rfl)) ?_; (with_reducible refine (block_attacks.calls _ _ l0 t123 _ ?side1 ?side2 A7.out).mono ?_); (case side1 => repeat (first | exact (Kd.C_below HR0.out HB.out) | (with_reducible refine Kd.C_alloc ?_ _) | (with_reducible refine Kd.C_drewN ?_ _) | (with_reducible refine Kd.C_drew ?_))); (case side2 => exact HC0.out); rintro e w10 ⟨v124, rfl, ho0, hb⟩; refine ⟨_, rfl, ?_⟩; have n0_ := Aside0.mk (Kd.R_below (by (with_reducible repeat (first | apply Kd.R_alloc | apply Kd.R_drewN | apply Kd.R_drew)); exact HO122.out) hb); have n1_ := Aside0.mk (Kd.R_lower ho0 (below_size (by repeat (first | (with_reducible first | exact HB.out | apply below_alloc | apply pw_below_drewN | apply below_drew1) | exact HB.out)))); have n2_ := Aside0.mk (below_step (by repeat (first | (with_reducible first | exact HB.out | apply below_alloc | apply pw_below_drewN | apply below_drew1) | exact HB.out)) hb); clear HO122; clear HB; have HO122 := n0_; have HO125 := n1_; have HB := n2_; clear n0_ n1_ n2_; (try clear hb); (try clear hb2); (try clear hk); (try clear hi); (try clear ho0); obtain ⟨Ao11, co11, eo11⟩ := Kd.R_slice HO125.out; subst eo11))
        go_loopg [20] k (fun kq v20 w' => ∃ (x5_1 : List Bool) (x20_1 : Int), v20 = .int .i64 x20_1 ∧ Aside0 (block_Flags.l0 kq x5_1 t123 (t123.length : Int) x20_1 = some (r1, r2)) ∧ Aside0 (kq ≤ k) ∧ Aside0 (Kd.R Kd.bool 4 w' w.heap.size (fun _ => True) v121 x5_1) ∧ Aside0 (Kd.R (Kd.int .i64) 3 w' w.heap.size (fun _ => True) (.slice Ao11 t123.length co11) t123) ∧ Aside0 (Below w.heap.size w w'))
        case atStart => exact ⟨(y120), (0), (by first | rfl | (simp; done) | (simp [*]; done)), H', ⟨Nat.le_refl _⟩, ⟨by (with_reducible repeat (first | apply Kd.R_alloc | apply Kd.R_drewN | apply Kd.R_drew)); exact HO122.out⟩, ⟨by (with_reducible repeat (first | apply Kd.R_alloc | apply Kd.R_drewN | apply Kd.R_drew)); exact HO125.out⟩, ⟨by repeat (first | (with_reducible first | exact HB.out | apply below_alloc | apply pw_below_drewN | apply below_drew1) | exact HB.out)⟩⟩
        case round =>
          clear H'
          try clear c2
          try clear p2
          try clear c3
          try clear c3b0
          try clear c3b1
          try clear c4
          try clear c5
          try clear c5b0
          try clear c5b1
          try clear c6
          try clear c6b0
          try clear c6b1
          try clear p6
          obtain ⟨x5_1, x20_1, rfl, HA, HK1, HO_5, HO_18, HB⟩ := hrel
          cases gk with
          | zero => exact absurd HA.out (by simp [block_Flags.l0])
          | succ k1 =>
            have H := HA.out
            clear HA
            simp only [block_Flags.l0] at H
            by_cases c12 : x20_1 < (t123.length : Int)
            · rw [if_pos c12] at H
              have c12b0 : decide (x20_1 < (t123.length : Int)) = true := decide_eq_true c12
              clear c12
              by_cases c13 : 0 ≤ x20_1
              · rw [if_pos c13] at H
                have c13b0 : decide (0 ≤ x20_1) = true := decide_eq_true c13
                clear c13
                by_cases c14 : x20_1 < (t123.length : Int)
                · rw [if_pos c14] at H
                  have c14b0 : decide (x20_1 < (t123.length : Int)) = true := decide_eq_true c14
                  clear c14
                  obtain ⟨ji15, hji15⟩ : ∃ j_ : Int, (wrap64 (Int.tdiv (rd t123 x20_1) 8)) = j_ := ⟨_, rfl⟩
                  replace H : (if 0 ≤ (ji15) then (if (ji15) < (x5_1.length : Int) then (block_Flags.l0 k1 (x5_1.set ((ji15) : Int).toNat true) t123 (t123.length : Int) (wrap64 (x20_1 + 1))) else (none)) else (none)) = some (r1, r2) := by first | (rw [hji15] at H; exact H) | (simp only [hji15] at H ⊢; exact H)
                  have hji15w : (IntKind.i64.wrap (Int.tdiv (rd t123 x20_1) 8)) = ji15 := (i64_w _).trans hji15
                  by_cases c16 : 0 ≤ (ji15)
                  · rw [if_pos c16] at H
                    have c16b0 : decide (0 ≤ (ji15)) = true := decide_eq_true c16
                    clear c16
                    by_cases c17 : (ji15) < (x5_1.length : Int)
                    · rw [if_pos c17] at H
                      have c17b0 : decide ((ji15) < (x5_1.length : Int)) = true := decide_eq_true c17
                      clear c17
                      obtain ⟨y127, hy127⟩ : ∃ y_ : List Bool, y_ = (x5_1.set ((ji15) : Int).toNat true) := ⟨_, rfl⟩
                      replace H : (block_Flags.l0 k1 y127 t123 (t123.length : Int) (wrap64 (x20_1 + 1))) = some (r1, r2) := by first | (rw [hy127]; with_reducible exact H) | (have H2_ := (Option.bind_some _ _).symm.trans H; rw [hy127]; with_reducible exact H2_) | (have H2_ := (Option.bind_some _ _).symm.trans H; with_reducible exact H2_) | with_reducible exact H | (rw [hy127]; exact H) | exact H
                      have Ny127 := Aside0.mk hy127
                      clear hy127
                      have H' := Aside0.mk H
                      clear H
                      have p126 : 0 ≤ (x20_1 : Int) := of_decide_eq_true (by first | (with_reducible assumption) | assumption)
                      have q126 : x20_1 < (t123.length : Int) := of_decide_eq_true (by first | (with_reducible assumption) | assumption)
                      obtain ⟨ad126, e126, hx126_0⟩ := Kd.at_int (Kd.R_reads' HO_18.out).2.2 x20_1 p126 q126
                      cases e126
                      replace p126 := eq_true p126
                      replace q126 := eq_true q126
                      have p18 : 0 ≤ ((ji15) : Int) := of_decide_eq_true (by first | (with_reducible assumption) | assumption)
                      have q18 : ((ji15) : Int) < ((x5_1.length : Int) : Int) := of_decide_eq_true (by first | (with_reducible assumption) | assumption)
                      obtain ⟨go18, co18, eo18, gb18, gl18, cl18, HG18⟩ := Kd.R_form HO_5.out (by omega)
                      (first | cases eo18 | (injection eo18 with ea_ en_ ec_; (first | subst ea_ | (injection ea_ with ea_; subst ea_)); subst ec_; clear en_))
                      have GB18 := Aside0.mk gb18
                      have GG18 := Aside0.mk HG18
                      clear gb18 gl18 HG18
                      obtain ⟨hx18_0, hf18_0⟩ := Kd.R_celln false HO_5.out ((ji15) : Int) p18 q18
                      replace p18 := eq_true p18
                      replace q18 := eq_true q18
                      have HP19 := Kd.R_putg HO_5.out ((ji15) : Int) true
                      go_wp2_with (first | ((with_reducible refine gate_store (t := 4) (p := 27) rfl ?_); refine store_event (t := 4) (p := 27) (v := ?vo_w20) (w1 := (wr.setCell ⟨go18, ((ji15) : Int).toNat, none⟩ (.bool true))) ?hg ?ho ?hn ?hr ?_; (case ho => rfl); (case hg => rfl); (case hn => rfl); (case hr => first | (go_simp; done) | (go_simp; rfl)); intro w20 hw; have hg : wr.grownBy w20 (some go18) := (by rw [hw]; exact HP19.2); have hp_ : Kd.R Kd.bool 4 w20 w.heap.size (fun _ => True) (.slice (some ⟨go18, 0, none⟩) x5_1.length co18) y127 := (by rw [hw, Ny127.out]; exact HP19.1); clear HP19; have n0_ := Aside0.mk (hp_); have n1_ := Aside0.mk (Kd.R_over' (v := (.slice (some ⟨go18, 0, none⟩) x5_1.length co18)) (by (with_reducible repeat (first | apply Kd.R_alloc | apply Kd.R_drewN | apply Kd.R_drew)); exact HO_18.out) (Kd.R_typed HO_5.out) (by decide) hg); have n2_ := Aside0.mk ((by rw [hw]; exact below_set (HB.out) GB18.out : Below w.heap.size w w20)); clear HO_5; clear HO_18; clear HB; have HO_5 := n0_; have HO_18 := n1_; have HB := n2_; clear n0_ n1_ n2_; clear hg hw hp_))
                      go_roundg k1
                      case measure => have := HK1.out; omega
                      case rel => exact ⟨(y127), (wrap64 (x20_1 + 1)), (by first | rfl | (simp; done) | (simp [*]; done)), H', ⟨by have := HK1.out; omega⟩, ⟨by (with_reducible repeat (first | apply Kd.R_alloc | apply Kd.R_drewN | apply Kd.R_drew)); exact HO_5.out⟩, ⟨by (with_reducible repeat (first | apply Kd.R_alloc | apply Kd.R_drewN | apply Kd.R_drew)); exact HO_18.out⟩, ⟨by repeat (first | (with_reducible first | exact HB.out | apply below_alloc | apply pw_below_drewN | apply below_drew1) | exact HB.out)⟩⟩
                    · rw [if_neg c17] at H
                      exact absurd H (by simp)
                  · rw [if_neg c16] at H
                    exact absurd H (by simp)
                · rw [if_neg c14] at H
                  exact absurd H (by simp)
              · rw [if_neg c13] at H
                exact absurd H (by simp)
            · rw [if_neg c12] at H
              have c12b0 : decide (x20_1 < (t123.length : Int)) = false := decide_eq_false c12
              clear c12
              simp only [Option.some.injEq, Prod.mk.injEq] at H
              obtain ⟨rfl, rfl⟩ := H
              go_wp2
              go_ret2
              exact ⟨_, by first | rfl | (simp [errW_none, errW_some] <;> rfl) | (simp only [← hji4]; first | rfl | (simp [errW_none, errW_some] <;> rfl)) | (simp [*, errW_none, errW_some] <;> rfl), by (with_reducible repeat (first | apply Kd.R_alloc | apply Kd.R_drewN | apply Kd.R_drew)); exact HO_5.out, by repeat (first | (with_reducible first | exact HB.out | apply below_alloc | apply pw_below_drewN | apply below_drew1) | exact HB.out)⟩
      · rw [if_neg c6] at H
        exact absurd H (by simp)
    · rw [if_neg c5] at H
      exact absurd H (by simp)
  · rw [if_neg c3] at H
    have c3b0 : (t119 == 0) = false := beq_eq_false_iff_ne.mpr c3
    have c3b1 : (t119 != 0) = true := bne_iff_ne.mpr c3
    simp only [Option.some.injEq, Prod.mk.injEq] at H
    obtain ⟨rfl, rfl⟩ := H
    go_enter Try.func20, Try.ntmps20
    go_wp2_with (first | ((with_reducible refine gate_callee (f := 41) rfl ?_); refine goesL_ (some 9) rfl rfl Try.func41 (by kernel_rfl) rfl #[.slice A0 l0.length c0] rfl (by (try simp only [List.map_toArray, List.map_cons, List.map_nil]); first | done | rfl | (simp only [List.length_drop, List.length_take]; rfl)) ?_; (with_reducible refine (block_check.calls k _ _ l0 t119 _ ?side1 ?side2 A2.out).mono ?_); (case side1 => repeat (first | exact HR0.out | (with_reducible refine Kd.C_alloc ?_ _) | (with_reducible refine Kd.C_drewN ?_ _) | (with_reducible refine Kd.C_drew ?_))); (case side2 => exact HC0.out); rintro e w' ⟨rfl, ⟨nd, rfl⟩⟩; refine ⟨_, rfl, ?_⟩))
    go_ret2
    exact ⟨_, by first | rfl | (simp [errW_none, errW_some] <;> rfl) | (simp [*, errW_none, errW_some] <;> rfl), by first | exact Kd.R_nil _ _ _ _ _ | exact Kd.N_nil _ _ _ _ _ | exact Kd.V_nil _ _ _ _ _ | exact Kd.Q_nil _ _ _ _ _ | exact Kd.S_nil _ _ _ _ _, by repeat (first | (with_reducible first | exact HB.out | apply below_alloc | apply pw_below_drewN | apply below_drew1) | exact HB.out)⟩

end Go.Proofs.Ytooipbjdpajmmaa.Hl
