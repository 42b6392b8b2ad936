/- Functions of the Go program as Lean functions, each with a proof that the call computes it. Conditions: none beyond each theorem's own. -/
import Derived.Test.YtooipbjdpajmmaaHlx0
import Derived.Test.YtooipbjdpajmmaaHlx3
namespace Go.Proofs.Ytooipbjdpajmmaa.Hl
open Go.RowKit Go.Proofs.YtooipbjdpajmmaaW.PrintWords Go.Proofs.YtooipbjdpajmmaaW.PrintLast Go.Proofs.YtooipbjdpajmmaaW.PrintMore
attribute [local go_sem] max2_int min2_int max_two min_two max_three min_three max_four min_four   -- for this text's walks alone
set_option linter.unusedVariables false
set_option linter.unusedSimpArgs false

/-! ### block_energies: function 42 (by hand) -/
/-- The sample ahead of sample i, 0 ahead of the first one. -/
def wasAt (l : List Int) (i : Nat) : Int := if i = 0 then 0 else rd l ((i - 1 : Nat) : Int)
/-- The sum of the squares of the first m differences of the part j. -/
def partSum (l : List Int) (j : Nat) : Nat → Int
  | 0 => 0
  | m + 1 => partSum l j m + (rd l ((16 * j + m : Nat) : Int) - wasAt l (16 * j + m)) * (rd l ((16 * j + m : Nat) : Int) - wasAt l (16 * j + m))
/-- The energy of a part. -/
def energyOf (l : List Int) (j : Nat) : Int := partSum l j 16
theorem range_prefix {k p : Nat} (h : k < p) : List.range k ++ [k] <+: List.range p := by
  have e : List.range p = List.range (k + 1) ++ (List.range (p - (k + 1))).map (k + 1 + ·) := by
    rw [← List.range_add]; congr 1; omega
  rw [e, List.range_succ]
  exact List.prefix_append _ _
/-- The samples lie within their bounds. -/
def Samples (l : List Int) : Prop := ∀ i : Nat, -65536 ≤ rd l (i : Int) ∧ rd l (i : Int) ≤ 65536
theorem Samples.was {l : List Int} (h : Samples l) (i : Nat) : -65536 ≤ wasAt l i ∧ wasAt l i ≤ 65536 := by
  unfold wasAt
  split
  · omega
  · exact h _
theorem sq_bound (x y : Int) (h1 : -65536 ≤ x) (h2 : x ≤ 65536) (h3 : -65536 ≤ y) (h4 : y ≤ 65536) : 0 ≤ (x - y) * (x - y) ∧ (x - y) * (x - y) ≤ 17179869184 := by
  generalize hd : x - y = d
  have h5 : -131072 ≤ d := by omega
  have h6 : d ≤ 131072 := by omega
  constructor
  · rcases Int.le_total 0 d with h | h
    · exact Int.mul_nonneg h h
    · exact Int.mul_nonneg_of_nonpos_of_nonpos h h
  · rcases Int.le_total 0 d with h | h
    · exact Int.le_trans (Int.mul_le_mul h6 h6 h (by omega)) (by omega)
    · have := Int.mul_le_mul (a := -d) (b := -d) (c := 131072) (d := 131072) (by omega) (by omega) (by omega) (by omega)
      rw [show -d * -d = d * d by rw [Int.neg_mul, Int.mul_neg, Int.neg_neg]] at this
      omega
theorem partSum_bound {l : List Int} (h : Samples l) (j m : Nat) : 0 ≤ partSum l j m ∧ partSum l j m ≤ 17179869184 * (m : Int) := by
  induction m with
  | zero => simp [partSum]
  | succ m ih =>
    have h1 := h (16 * j + m)
    have h2 := h.was (16 * j + m)
    have := sq_bound _ _ h1.1 h1.2 h2.1 h2.2
    simp only [partSum]
    omega
theorem step_wrap (s x y : Int) (h0 : 0 ≤ s) (h00 : s ≤ 1099511627776) (h1 : -65536 ≤ x) (h2 : x ≤ 65536) (h3 : -65536 ≤ y) (h4 : y ≤ 65536) : wrap64 (s + wrap64 ((x - y) * (x - y))) = s + (x - y) * (x - y) := by
  have := sq_bound x y h1 h2 h3 h4
  generalize (x - y) * (x - y) = q at *
  unfold wrap64
  omega
theorem mid_rd (l : List Int) (a m : Nat) (h : a + 16 ≤ l.length) (hm : m < 16) : rd ((l.take (a + 16)).drop a) (m : Int) = rd l ((a + m : Nat) : Int) := by
  unfold rd
  simp only [Int.toNat_natCast]
  rw [List.getD_eq_getElem?_getD, List.getElem?_drop, List.getElem?_take, if_pos (by omega), ← List.getD_eq_getElem?_getD]
/-- What a round that goes on keeps: what lay ahead of the call, and the box of the slice. -/
def KpB (n₀ Bs : Nat) (W W' : World) : Prop := Below n₀ W W' ∧ W'.heap[Bs]? = W.heap[Bs]?
theorem kpB_t {n₀ Bs : Nat} {A B C : World} (h : KpB n₀ Bs A B) (k : KpB n₀ Bs B C) : KpB n₀ Bs A C := ⟨h.1.trans k.1, k.2.trans h.2⟩
theorem kpB_b {n₀ Bs : Nat} {w : World} (hn : n₀ ≤ w.heap.size) (hB : Bs < w.heap.size) (W : World) (l : Nat) (o o' : Obj) (hl : w.heap.size ≤ l) (h : W.heap[l]? = some o) (hc : o.isCells = false) (hw : o.isWalk = false) : KpB n₀ Bs W (W.putObj l o') :=
  ⟨belowK_b hn W l o o' hl h hc hw, World.putObj_heap_other (by omega)⟩
theorem kpB_cell {n₀ Bs : Nat} {W W' : World} (h : KpB n₀ Bs W W') : W'.cell? ⟨Bs, 0, none⟩ = W.cell? ⟨Bs, 0, none⟩ := World.cell?_of_block (w := W) (h.2)
set_option maxRecDepth 100000 in
set_option maxHeartbeats 4000000 in
/-- **energies' closure: for every loop body that keeps what lay ahead of the loop.** -/
theorem energies1_in (F : Fence) (n : Nat) (h59 : F.fn 59) (hro : F.round = none) (hn : 1 ≤ n) (l Bs : Nat) (A : Option Addr) (c p : Nat) (xs : List Int) (hp : xs.length = 16 * p) (hp2 : p ≤ 512) (hs : Samples xs) (hcap : xs.length ≤ c) (J Jx : List Nat → World → Prop) (w0 : World)
    (hY : ∀ (pre : List Nat) (x : Nat) W, J pre W → pre.length < p → YieldAt F (n - 1) Try.prog l #[.int .i64 (x : Int), .int .i64 (energyOf xs x)] W fun e W' =>
      (e = .returned (.bool true) ∧ J (pre ++ [x]) W' ∧ KpB w0.heap.size Bs W W') ∨ (e = .returned (.bool false) ∧ Jx (pre ++ [x]) W'))
    (W : World) (hW : Below w0.heap.size w0 W) (hBs : W.cell? ⟨Bs, 0, none⟩ = some (.slice A xs.length c)) (hr : Kd.C (Kd.int .i64) w0 A xs.length xs) (h0 : J [] W) :
    CallsIn F n Try.prog 59 #[.func (.yield l) #[] #[], .pointer (some ⟨Bs, 0, none⟩)] W fun e W' => (∃ v, e = .returned v) ∧
      ((∃ ys, ys = List.range p ∧ J ys W') ∨ (∃ pre, pre <+: List.range p ∧ Jx pre W')) := by
  have HR := Aside0.mk hr
  have HS := Aside0.mk hs
  have HP := Aside0.mk hp
  have HP2 := Aside0.mk hp2
  have hlen : xs.length ≤ 8192 := by omega
  obtain ⟨i0, hi, hz0, hz1, hz2⟩ := info_parts info3
  have HSL := Aside0.mk (fun (k : Nat) (hk : k < p) => print_mid_int (P := Try.prog) (k := .i64) 22 3 Try.underlying22 hi hz1 A c xs ((k : Int) * 16) (((k : Int) + 1) * 16) (by omega) (by omega) (by omega) hcap)
  clear hi hz0 hz1 hz2 hr hs hcap hp
  refine callsIn_of_wp Try.func59 rfl h59 ?_ hro
  simp only [Try.ntmps59, List.size_toArray, List.length_cons, List.length_nil, Nat.reduceAdd, Nat.reduceSub, Array.replicate_succ, Array.replicate_zero, List.push_toArray, List.append_toArray, List.nil_append, List.cons_append]
  have HBW := Aside0.mk hBs
  gi_wp2
  clear hBs
  gi_loopw [3, 11] (fun s i wr => ∃ k : Nat, i = .int .i64 k ∧ s = .int .i64 (wasAt xs (16 * k)) ∧ Aside0 (k ≤ p) ∧ Aside0 (J (List.range k) wr) ∧ Aside0 (wr.cell? ⟨Bs, 0, none⟩ = some (.slice A xs.length c)) ∧ Aside0 (Below w0.heap.size w0 wr)) (fun _ i _ => p - (intOf i).toNat)
  case atStart => exact ⟨0, rfl, rfl, ⟨Nat.zero_le _⟩, ⟨h0⟩, HBW, ⟨hW⟩⟩
  case round =>
    obtain ⟨k, rfl, rfl, HK, HJ, HBX, HB⟩ := hrel
    have hbw := HBX.out
    by_cases hlt : k < p
    · have HLT := Aside0.mk hlt
      have hk : k < 512 := by omega
      have hd : decide ((k : Int) < (xs.length : Int) / 16) = true := decide_eq_true (by have := HP.out; omega)
      obtain ⟨A', hsl, hrd, hcp⟩ := HSL.out k hlt
      have e1 : ((k : Int) * 16).toNat = 16 * k := by omega
      have e2 : (((k : Int) + 1) * 16).toNat = 16 * k + 16 := by omega
      have e3 : ((xs.take (16 * k + 16)).drop (16 * k)).length = 16 := by rw [List.length_drop, List.length_take]; have := HP.out; omega
      have hrd2 := hrd wr (Kd.reads_of_C (d := (0 : Int)) (h1 := fun _ => rfl) (Kd.C_below HR.out HB.out))
      rw [e1, e2, e3] at hsl hrd2
      have HRD := Aside0.mk hrd2
      have HMID := Aside0.mk (fun m (hm : m < 16) => mid_rd xs (16 * k) m (by have := HP.out; omega) hm)
      obtain ⟨Y, hYe⟩ : ∃ Y, Y = (xs.take (16 * k + 16)).drop (16 * k) := ⟨_, rfl⟩
      rw [← hYe] at HRD HMID
      clear hrd hrd2 hcp e1 e2 e3 hYe
      gi_wp2
      gi_loop [3, 5, 22] (fun s t i => ∃ m : Nat, i = .int .i64 m ∧ s = .int .i64 (wasAt xs (16 * k + m)) ∧ t = .int .i64 (partSum xs k m) ∧ Aside0 (m ≤ 16)) (fun _ _ i => 16 - (intOf i).toNat)
      case atStart => exact ⟨0, rfl, rfl, rfl, ⟨by omega⟩⟩
      case round =>
        obtain ⟨m, rfl, hs0, ht0, HM⟩ := hrel
        by_cases hm : m < 16
        · have HMT := Aside0.mk hm
          have hd3 : decide ((m : Int) < 16) = true := decide_eq_true (by omega)
          obtain ⟨ad, e, hx⟩ := ReadsOf.at_ HRD.out (m : Int) (by omega) (by omega)
          subst e
          simp only [Int.toNat_natCast] at hx
          rw [show rdOf 0 Y (m : Int) = rd Y (m : Int) from rfl, HMID.out m hm] at hx
          have b1 := HS.out (16 * k + m)
          have b2 := HS.out.was (16 * k + m)
          have b3 := partSum_bound HS.out k m
          have hst := step_wrap (partSum xs k m) (rd xs ((16 * k + m : Nat) : Int)) (wasAt xs (16 * k + m)) b3.1 (by omega) b1.1 b1.2 b2.1 b2.2
          have hps : partSum xs k (m + 1) = partSum xs k m + (rd xs ((16 * k + m : Nat) : Int) - wasAt xs (16 * k + m)) * (rd xs ((16 * k + m : Nat) : Int) - wasAt xs (16 * k + m)) := rfl
          have hwn : wasAt xs (16 * k + (m + 1)) = rd xs ((16 * k + m : Nat) : Int) := by unfold wasAt; rw [if_neg (by omega)]; congr 1
          obtain ⟨X, hX⟩ : ∃ X, X = rd xs ((16 * k + m : Nat) : Int) := ⟨_, rfl⟩
          obtain ⟨Z, hZ⟩ : ∃ Z, Z = wasAt xs (16 * k + m) := ⟨_, rfl⟩
          obtain ⟨S, hS⟩ : ∃ S, S = partSum xs k m := ⟨_, rfl⟩
          rw [← hX] at hx b1 hst hps hwn
          rw [← hZ] at b2 hst hps hs0
          rw [← hS] at b3 hst hps ht0
          obtain ⟨b11, b12⟩ := b1
          obtain ⟨b21, b22⟩ := b2
          have HST := Aside0.mk hst
          have HPS := Aside0.mk hps
          have HWN := Aside0.mk hwn
          subst hs0 ht0
          clear hX hZ hS hst hps hwn b3
          gi_wp2
          go_round
          case rel => exact ⟨m + 1, by go_num, by rw [HWN.out], by rw [HST.out, HPS.out], ⟨HMT.out⟩⟩
          case measure => have := HMT.out; simp [intOf]; omega
        · have hd3 : decide ((m : Int) < 16) = false := decide_eq_false (by omega)
          obtain rfl : m = 16 := by have := HM.out; omega
          subst hs0 ht0
          obtain ⟨fn, tmps, assign, body, hy, hR⟩ := hY _ k wr HJ.out (by rw [List.length_range]; exact HLT.out)
          unfold energyOf at hy
          clear hm HM
          gi_wp2
          refine hR.mono ?_
          rintro e W3 (⟨rfl, hJ3, hk3⟩ | ⟨rfl, hJx3⟩)
          · have HJ3 := Aside0.mk hJ3
            have HB3 := Aside0.mk hk3
            clear hJ3 hk3
            gi_wp2
            go_roundw
            case rel => exact ⟨k + 1, by go_num, by rw [show 16 * (k + 1) = 16 * k + 16 by omega], ⟨HLT.out⟩, ⟨by rw [List.range_succ]; exact HJ3.out⟩, ⟨(kpB_cell HB3.out).trans HBX.out⟩, ⟨HB.out.trans HB3.out.1⟩⟩
            case measure => have := HLT.out; simp [intOf]; omega
          · gi_wp2
            refine bodyPost_ret (results_none rfl _ _ _) rfl ?_
            exact ⟨⟨_, rfl⟩, .inr ⟨_, range_prefix HLT.out, hJx3⟩⟩
    · have hd : decide ((k : Int) < (xs.length : Int) / 16) = false := decide_eq_false (by have := HP.out; omega)
      obtain rfl : k = p := by have := HK.out; omega
      gi_wp2
      go_end0
      exact ⟨⟨_, rfl⟩, .inl ⟨_, rfl, HJ.out⟩⟩
set_option maxHeartbeats 1000000 in
/-- energies(x): the slice value is boxed; the function value captures the box. -/
theorem energies_in (F : Fence) (n : Nat) (h42 : F.fn 42) (hro : F.round = none) (A : Option Addr) (len cap : Nat) (w : World) :
    CallsIn F n Try.prog 42 #[.slice A len cap] w fun e w' => e = .returned (.func (.func 59) #[] #[.pointer (some ⟨w.heap.size, 0, none⟩)]) ∧ w' = w.alloc (.cells #[.slice A len cap] 22) := by
  refine callsIn_of_wp Try.func42 rfl h42 ?_ hro
  simp only [Try.ntmps42, List.size_toArray, List.length_cons, List.length_nil, Nat.reduceAdd, Nat.reduceSub, Array.replicate_succ, Array.replicate_zero, List.push_toArray, List.append_toArray, List.nil_append, List.cons_append]
  gi_wp2
  go_ret
  exact ⟨rfl, rfl⟩
/-- energies(x) hands back a value that tells the parts, one behind the other. -/
theorem energies_stops (F : Fence) (n : Nat) (h59 : F.fn 59) (hro : F.round = none) (hn : 1 ≤ n) (Bs : Nat) (A : Option Addr) (c p : Nat) (xs : List Int) (hp : xs.length = 16 * p) (hp2 : p ≤ 512) (hs : Samples xs) (hcap : xs.length ≤ c) (w00 w0 : World) (hw : Below w00.heap.size w00 w0) (hlt : Bs < w0.heap.size)
    (hBs : w0.cell? ⟨Bs, 0, none⟩ = some (.slice A xs.length c)) (hr : Kd.C (Kd.int .i64) w00 A xs.length xs) :
    SeqStopsK F n Try.prog 59 #[.pointer (some ⟨Bs, 0, none⟩)] (fun x : Nat => #[Value.int .i64 (x : Int), Value.int .i64 (energyOf xs x)]) (KpB w00.heap.size Bs) (fun ys => ys = List.range p) (fun pre => pre <+: List.range p) p w0 := fun l J Jx W hW _ _ hY h0 =>
  energies1_in F n h59 hro hn l Bs A c p xs hp hp2 hs hcap J Jx w00 hY W (hw.trans (hW.mono hw.size)) ((hW.cell (p := ⟨Bs, 0, none⟩) hlt).trans hBs) hr h0
def block_energies.f : Unit := ()

/-! ### block_Parts: function 16 (by hand) -/
section
attribute [local go_sem] Oper.semAt_some
instance (l : List Int) : Decidable (Samples l) :=
  if h : l.all (fun x => decide (-65536 ≤ x) && decide (x ≤ 65536)) = true then .isTrue (by
    intro i
    by_cases hi : i < l.length
    · have := List.all_eq_true.1 h l[i] (List.getElem_mem hi)
      rw [Bool.and_eq_true, decide_eq_true_eq, decide_eq_true_eq] at this
      have e : rd l (i : Int) = l[i] := by unfold rd; simp [List.getD_eq_getElem?_getD, hi]
      rw [e]; exact this
    · have e : rd l (i : Int) = 0 := by unfold rd; rw [List.getD_eq_getElem?_getD, List.getElem?_eq_none (by simpa using hi)]; rfl
      rw [e]; omega)
  else .isFalse (fun hs => h (List.all_eq_true.2 fun x hx => by
    obtain ⟨i, hi, rfl⟩ := List.getElem_of_mem hx
    have := hs i
    have e : rd l (i : Int) = l[i] := by unfold rd; simp [List.getD_eq_getElem?_getD, hi]
    rw [e] at this
    simpa using this))
/-- The error of samples. -/
def checkB (l : List Int) : Int := if (l.length : Int) % 128 = 0 ∧ l.length ≤ 8192 then (if Samples l then 0 else 6) else 1
theorem rd_out (l : List Int) (i : Nat) (h : l.length ≤ i) : rd l (i : Int) = 0 := by
  unfold rd
  rw [List.getD_eq_getElem?_getD, List.getElem?_eq_none (by simpa using h)]
  rfl
theorem check_l0 (l : List Int) (hl : l.length ≤ 8192) (d : Nat) : ∀ (k i : Nat), i ≤ l.length → l.length - i = d → d < k → (∀ j : Nat, j < i → -65536 ≤ rd l (j : Int) ∧ rd l (j : Int) ≤ 65536) →
    ∃ r, block_check.l0 k l (l.length : Int) (i : Int) = some r ∧ ((Samples l ∧ r = 0) ∨ (¬ Samples l ∧ r = 6)) := by
  induction d with
  | zero =>
    intro k i h1 h2 h3 h4
    obtain ⟨k, rfl⟩ : ∃ m, k = m + 1 := ⟨k - 1, by omega⟩
    refine ⟨0, ?_, .inl ⟨fun j => ?_, rfl⟩⟩
    · simp only [block_check.l0]; rw [if_neg (by omega)]
    · by_cases hj : j < i
      · exact h4 j hj
      · rw [rd_out l j (by omega)]; omega
  | succ d ih =>
    intro k i h1 h2 h3 h4
    obtain ⟨k, rfl⟩ : ∃ m, k = m + 1 := ⟨k - 1, by omega⟩
    simp only [block_check.l0]
    rw [if_pos (by omega), if_pos (by omega), if_pos (by omega)]
    by_cases ha : rd l (i : Int) < -65536
    · rw [if_pos ha]; exact ⟨6, rfl, .inr ⟨fun h => by have := h i; omega, rfl⟩⟩
    · rw [if_neg ha]
      by_cases hb : rd l (i : Int) > 65536
      · rw [if_pos hb]; exact ⟨6, rfl, .inr ⟨fun h => by have := h i; omega, rfl⟩⟩
      · rw [if_neg hb, show wrap64 ((i : Int) + 1) = ((i + 1 : Nat) : Int) by unfold wrap64; omega]
        refine ih k (i + 1) (by omega) (by omega) (by omega) (fun j hj => ?_)
        by_cases e : j = i
        · subst e; omega
        · exact h4 j (by omega)
theorem check_tells (l : List Int) : ∃ k, block_check.f k l = some (checkB l) := by
  unfold checkB block_check.f
  by_cases h1 : (l.length : Int) % 128 = 0
  · by_cases h2 : l.length ≤ 8192
    · refine ⟨l.length + 2, ?_⟩
      rw [if_pos h1, if_pos ⟨h1, h2⟩, decide_eq_false (by omega)]
      simp only [block_check.j0]
      obtain ⟨r, hr, hc⟩ := check_l0 l h2 l.length (l.length + 1) 0 (by omega) (by omega) (by omega) (fun j hj => absurd hj (Nat.not_lt_zero j))
      rw [if_neg (by simp)]
      simp only [Int.natCast_zero] at hr
      rw [hr]
      rcases hc with ⟨hc, rfl⟩ | ⟨hc, rfl⟩
      · rw [if_pos hc]
      · rw [if_neg hc]
    · refine ⟨1, ?_⟩
      rw [if_pos h1, if_neg (fun h => h2 h.2), decide_eq_true (by omega)]
      rfl
  · refine ⟨1, ?_⟩
    rw [if_neg h1, if_neg (fun h => h1 h.1)]
    rfl
/-- The energies of parts. -/
def ensOf (l : List Int) (pre : List Nat) : List Int := pre.map (energyOf l)
theorem ensOf_length (l : List Int) (pre : List Nat) : (ensOf l pre).length = pre.length := List.length_map _
theorem ensOf_snoc (l : List Int) (pre : List Nat) (x : Nat) : ensOf l (pre ++ [x]) = ensOf l pre ++ [energyOf l x] := by simp [ensOf]
def block_Parts.f (l0 : List Int) : Option (List Int × Int) := if checkB l0 = 0 then some (ensOf l0 (List.range (l0.length / 16)), 0) else some ([], checkB l0)
set_option maxRecDepth 100000 in
set_option maxHeartbeats 4000000 in
theorem block_Parts.calls (A0 : Option Addr) (c0 : Nat) (l0 : List Int) (r1 : List Int) (r2 : Int) (w : World) (hr0 : Kd.C (Kd.int .i64) w A0 l0.length l0) (hc0 : l0.length ≤ c0) (h : block_Parts.f l0 = some (r1, r2)) :
    Calls Try.prog 16 #[.slice A0 l0.length c0] w fun e w' => ∃ v0_ : Value, e = .returned (.tuple #[v0_, .int .i64 r2]) ∧ Kd.R (Kd.int .i64) 3 w' w.heap.size (fun _ => True) v0_ r1 ∧ Below w.heap.size w w' := by
  obtain ⟨kc, hkc⟩ := check_tells l0
  have HKC := Aside0.mk hkc
  have HR := Aside0.mk hr0
  have HC := Aside0.mk hc0
  clear hkc hr0 hc0
  unfold block_Parts.f at h
  by_cases hz : checkB l0 = 0
  · rw [if_pos hz] at h
    simp only [Option.some.injEq, Prod.mk.injEq] at h
    obtain ⟨rfl, rfl⟩ := h
    have hsm : Samples l0 ∧ (l0.length : Int) % 128 = 0 ∧ l0.length ≤ 8192 := by
      unfold checkB at hz
      by_cases h1 : (l0.length : Int) % 128 = 0 ∧ l0.length ≤ 8192
      · rw [if_pos h1] at hz
        by_cases h2 : Samples l0
        · exact ⟨h2, h1⟩
        · rw [if_neg h2] at hz; omega
      · rw [if_neg h1] at hz; omega
    obtain ⟨hs, hm, hle⟩ := hsm
    have HS := Aside0.mk hs
    have hp : l0.length = 16 * (l0.length / 16) := by omega
    obtain ⟨p, hpe⟩ : ∃ p, p = l0.length / 16 := ⟨_, rfl⟩
    rw [← hpe] at hp ⊢
    have hp2 : p ≤ 512 := by omega
    have HP := Aside0.mk hp
    have HZ := Aside0.mk hz
    clear hs hm hle hp hz hpe
    obtain ⟨i0, hi, hz0, hz1, hz2⟩ := info_parts info3
    refine (callsIn_wide (n := 3)).1 ?_
    refine callsIn_of_wp_marks Try.func16 rfl trivial ?_ rfl
    simp only [Try.ntmps16, List.size_toArray, List.length_cons, List.length_nil, Nat.reduceAdd, Nat.reduceSub, Array.replicate_succ, Array.replicate_zero, List.push_toArray, List.append_toArray, List.nil_append, List.cons_append]
    gi_wp2_with (first | (refine ⟨trivial, ?_⟩; gi_at_call 41; refine (callsIn_wide.2 (block_check.calls kc A0 c0 l0 0 _ HR.out HC.out (by rw [HKC.out, HZ.out]))).mono ?_; rintro e w' ⟨rfl, ⟨nd, rfl⟩⟩) | (refine ⟨trivial, ?_⟩; gi_at_call 42; refine (energies_in Fence.wide _ trivial rfl A0 _ c0 _).mono ?_; rintro e w' ⟨rfl, rfl⟩))
    have bO := Boxed.new (w.drewN nd) 22 (.slice none 0 0)
    have bN := Boxed.new ((w.drewN nd).alloc (.cells #[.slice none 0 0] 22)) 22 (.slice A0 l0.length c0)
    rw [World.size_alloc] at bN
    have hB0 : Below w.heap.size w (((w.drewN nd).alloc (.cells #[.slice none 0 0] 22)).alloc (.cells #[.slice A0 l0.length c0] 22)) := ((pw_below_drewN (Below.refl _ w) nd).alloc (Nat.le_refl _) _).alloc (by simp) _
    refine wpIn_rangeFunc_ownG rfl (by omega) (gf := 59) (lb := #[.pointer (some ⟨w.heap.size + 1, 0, none⟩)]) rfl trivial (enters_of Try.func59 (by kernel_rfl) rfl)
      (energies_stops Fence.wide 2 trivial rfl (by omega) (w.heap.size + 1) A0 c0 p l0 HP.out hp2 HS.out HC.out w _ hB0 (by simp) bN.cell HR.out) kpB_t (kpB_b (by simp; omega) (by simp)) (Below.refl _ _) (fun _ => rfl)
      (fun pre W => (∃ v, Boxed W w.heap.size 22 v ∧ W.ownsRow w.heap.size 3 1 v (ensOf l0 pre).length ((ensOf l0 pre).map (Value.int .i64)) ∧ (v = .slice none 0 0 ↔ ensOf l0 pre = [])) ∧ Boxed W (w.heap.size + 1) 22 (.slice A0 l0.length c0) ∧ Below w.heap.size w W)
      (fun _ _ _ => False)
      (OwnFrom.and (Own.from (holdsRow_own w.heap.size w.heap.size 22 3 1 (fun pre : List Nat => (ensOf l0 pre).length) (fun pre : List Nat => (ensOf l0 pre).map (Value.int .i64)) (fun (pre : List Nat) v => v = .slice none 0 0 ↔ ensOf l0 pre = [])) _) (OwnFrom.and (Own.from (boxed_own (w.heap.size + 1) 22 (fun (_ : List Nat) => Value.slice A0 l0.length c0)) _) (ownFrom_below (Nat.le_refl _) (by simp; omega))))
      (fun _ _ _ _ _ hs _ _ => hs)
      ⟨⟨_, bO.alloc _, World.ownsRow_nil _ _ _ _, by simp [ensOf]⟩, bN, hB0⟩
      (fun x => { tmps := #[.slice A0 l0.length c0, undef, .slice none 0 0, .int .i64 0, .int .i64 0, .pointer (some ⟨w.heap.size, 0, none⟩), undef, .int .i64 (energyOf l0 x), .slice A0 l0.length c0, .int .i64 0, .int .i64 0, .bool false, undef, .slice A0 l0.length c0, .func (.func 59) #[] #[.pointer (some ⟨w.heap.size + 1, 0, none⟩)], .int .i64 (x : Int), .int .i64 (energyOf l0 x), undef, undef, undef, undef, undef], defers := [] }) ?assign ?body ?done ?stop
    case assign =>
      intro l x W K hK
      gi_wp2
      exact hK
    case body =>
      rintro l pre x W ⟨⟨v, hv, hrow, hnil⟩, hx, hB⟩ hlt
      have HX := Aside0.mk hx
      clear hx
      have hc := hv.cell
      gi_wp2_with (gi_at_builtin; refine wpListIn_append_own _ rfl _ _ 22 rfl w.heap.size 3 i0 (.int .i64 0) 1 8 Try.underlying22 hi hz0 hz1 hz2 rfl (by decide) _ _ _ rfl (hrow.alloc _) ⟨W.heap.size, 0, none⟩ 1 1 [.int .i64 (energyOf l0 x)] rfl rfl (cell_one_new _ _ _) (by simp [Value.oneCell']) (by rw [ensOf_length]; unfold maxLen; omega) (by rw [ensOf_length]; omega) (by have := hB.size; simp; omega) ?_; intro v' w1 hown' hgrow _; obtain ⟨g', cap', rfl⟩ := ownsRow_succ hown'; obtain ⟨hv1, hv2, hr2, hk2, hb2⟩ := hv.appended (by decide) hrow hB.size (Nat.le_refl _) hown' hgrow; have hc1 := hv1.cell; have hf1 := hv1.frozen)
      have hx2 := (((HX.out.alloc _).kept hgrow (HX.out.not_row (by decide) hrow)).other (show w.heap.size + 1 ≠ w.heap.size by omega) (Value.slice (some ⟨g', 0, none⟩) ((ensOf l0 pre).length + 1) cap'))
      exact ⟨hk2.from _, ⟨hb2, Eq.trans hx2 (Eq.symm HX.out)⟩, ⟨_, hv2, by rw [ensOf_snoc]; simpa using hr2, by rw [ensOf_snoc]; simp⟩, hx2, hB.trans hb2⟩
    case done =>
      rintro D ys W hD rfl ⟨⟨v, hv, hrow, hnil⟩, _, hB⟩ hK
      have hc := hv.cell
      gi_wp2
      refine ⟨by simp, .inl ⟨_, _, rfl, run_takeDeferred hK, ?_⟩⟩
      exact ⟨_, results_tmp2 rfl _ _ _, v, rfl, Kd.R_of_own (enc := Value.int .i64) (h1 := fun _ => rfl) (ownsRow_putObj hrow _ hK rfl) (fun _ _ => trivial), hB.trans (belowK_b (w := w) (Nat.le_refl _) W D _ _ (by simp at hD; omega) hK rfl rfl)⟩
    case stop =>
      rintro D c pre W _ _ h _
      exact h.elim
  · rw [if_neg hz] at h
    simp only [Option.some.injEq, Prod.mk.injEq] at h
    obtain ⟨rfl, rfl⟩ := h
    have hne : (checkB l0 != 0) = true := bne_iff_ne.mpr hz
    clear hz
    go_enter Try.func16, Try.ntmps16
    go_wp2_with (go_at_call 41; refine (block_check.calls kc A0 c0 l0 (checkB l0) _ HR.out HC.out HKC.out).mono ?_; rintro e w' ⟨rfl, ⟨nd, rfl⟩⟩)
    go_ret2
    exact ⟨_, rfl, Kd.R_nil _ _ _ _ _, pw_below_drewN (Below.refl _ _) _⟩
end

end Go.Proofs.Ytooipbjdpajmmaa.Hl
