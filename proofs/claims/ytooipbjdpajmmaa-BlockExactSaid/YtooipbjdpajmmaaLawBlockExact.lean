/- The row BlockExact of the seat Ytooipbjdpajmmaa: the machine's side (printed texts) and the plain law, joined. Conditions: those of the given statement, no others. -/
import Derived.Test.YtooipbjdpajmmaaRows
import Derived.Test.YtooipbjdpajmmaaHnx17
import Derived.Test.YtooipbjdpajmmaaHnx6
import Derived.Test.YtooipbjdpajmmaaPureBlockExact
import Derived.WalkKit
import Derived.ProofKit
import Derived.OpenShut
import Derived.ShutString
import Derived.ChangeOld
import Derived.Below
import Derived.SizedLaws
import Derived.Deep.Grids
import Derived.Outline
import Derived.Test.YtooipbjdpajmmaaWSized
namespace Go.Proofs.Ytooipbjdpajmmaa.blockExact
open Go.ChangeShapes Go.WideShapes Go.ChangeAt Go.RowKit Go.Proofs.Ytooipbjdpajmmaa.Hn Go.Proofs.YtooipbjdpajmmaaW.PrintWords Go.Proofs.YtooipbjdpajmmaaW.PrintLast Go.Proofs.YtooipbjdpajmmaaW.PrintMore
set_option linter.unusedVariables false
set_option linter.unusedSimpArgs false
theorem own : ownKnob Try.prog.godebug = none := by kernel_rfl
theorem laidOut : laidOutB Try.prog = true := by kernel_rfl
/-- A slice of bools that comes in, as a list that is read. -/
theorem reads_bools {w : World} {a : Addr} {len cap : Nat} {B : Nat → Bool} (hl : len ≤ cap) (hm : cap ≤ maxLen) (h : ∀ i, i < cap → w.cell? (a.add i) = some (.bool (B i))) :
    Kd.C Kd.bool w (some a) len ((List.range len).map B) := by
  refine ⟨by simp, by unfold maxLen at hm; omega, fun _ => ⟨a, rfl, fun j p hj => ⟨[.bool p], rfl, rfl, fun i u hu => ?_⟩⟩⟩
  have hj' : j < len := by
    have := (List.getElem?_eq_some_iff.1 hj).1
    simpa using this
  have hp : B j = p := by simpa [List.getElem?_map, hj'] using hj
  cases i with
  | zero =>
    obtain rfl : Value.bool p = u := by simpa using hu
    rw [← hp]
    show w.cell? (a.add (j * 1 + 0)) = _
    rw [Nat.mul_one, Nat.add_zero]
    exact h j (by omega)
  | succ i => simp at hu
theorem reads_none (w : World) : Kd.C Kd.bool w none 0 [] := ⟨rfl, by omega, fun h => absurd h (by omega)⟩
def IsBools (w : World) (a : Option Addr) (len cap : Nat) (zs : List Bool) : Prop := zs.length = len ∧ len ≤ cap ∧ Kd.C Kd.bool w a len zs
theorem exact_at {w : World} {A : Option Addr} {n c : Nat} {l : List Bool} {a b r1 r2 r3 : Int} (k : Nat) (hl : l.length = n) (hr : Kd.C Kd.bool w A n l) (hc : n ≤ c) (h : block_Exact.f k l a b = some (r1, r2, r3)) :
    Calls Try.prog 28 #[.slice A n c, .int .i64 a, .int .i64 b] w fun e w' => e = .returned (.tuple #[.int .i64 r1, .int .i64 r2, .int .i64 r3]) ∧ Drawn0 w w' := by
  subst hl; exact block_Exact.calls k A c l a b r1 r2 r3 w hr hc h
theorem frames_at {w : World} {A : Option Addr} {n c : Nat} {l : List Bool} {a r1 r2 r3 : Int} (k : Nat) (hl : l.length = n) (hr : Kd.C Kd.bool w A n l) (hc : n ≤ c) (h : block_Frames.f k l a = some (r1, r2, r3)) :
    Calls Try.prog 26 #[.slice A n c, .int .i64 a] w fun e w' => e = .returned (.tuple #[.int .i64 r1, .int .i64 r2, .int .i64 r3]) ∧ Drawn0 w w' := by
  subst hl; exact block_Frames.calls k A c l a r1 r2 r3 w hr hc h
attribute [local go_sem] max2_int min2_int max_two min_two
set_option maxRecDepth 100000 in
set_option maxHeartbeats 8000000 in
theorem walked (k : Nat) (A0 : Option Addr) (c0 n : Nat) (l0 : List Bool) (x y a b m : Nat) (f g : Int) (w : World) (hln : l0.length = n) (hr0 : Kd.C Kd.bool w A0 n l0) (hc0 : n ≤ c0) (hl : n ≤ 64) (hx : x ≤ 255) (hy : y ≤ 255)
    (hleab : a ≤ b) (hbl : b ≤ n) (hm : m = b - a) (e1 : x % (n + 1) = a) (e2 : y % (n - a + 1) = m) (h1 : block_Exact.f k l0 (a : Int) (b : Int) = some (f, g, 0)) (h2 : ∀ i : Nat, i < 128 * n → block_Frames.f k l0 (i : Int) = some (Pure.frA l0 i, Pure.frB l0 i, 0))
    (hf0 : 0 ≤ f) (hfg : f ≤ g) (hg : g ≤ 128 * (n : Int)) (hend : f < g ∨ f = 128 * (a : Int)) (hmatch : ∀ i : Nat, ((a : Int) ≤ Pure.frA l0 i ∧ Pure.frB l0 i < (b : Int)) ↔ (f ≤ (i : Int) ∧ (i : Int) < g)) :
    Calls Try.prog 8 #[.slice A0 n c0, .agg #[.int .u8 (x : Int), .int .u8 (y : Int)]] w fun e w' => e = .returned (.bool true) ∧ Below w.heap.size w w' := by
  have t1 : (x : Int) % ((n : Int) + 1) = (a : Int) := by rw [← e1]; rfl
  have t2 : (y : Int) % ((n : Int) - (a : Int) + 1) = (m : Int) := by
    rw [← e2, show (n : Int) - (a : Int) + 1 = ((n - a + 1 : Nat) : Int) by omega]; rfl
  have E1 := Aside0.mk (e1 : x % (n + 1) = a)
  have E2 := Aside0.mk (e2 : y % (n - a + 1) = m)
  have T1 := Aside0.mk t1
  have T2 := Aside0.mk t2
  have hab : a ≤ n := Nat.le_trans hleab hbl
  have hmb : a + m = b := by omega
  have HMB := Aside0.mk hmb
  have HLN := Aside0.mk hln
  have HR := Aside0.mk hr0
  have HC := Aside0.mk hc0
  have H1 := Aside0.mk h1
  have H2 := Aside0.mk h2
  have HM := Aside0.mk hmatch
  have HEND := Aside0.mk hend
  clear hr0 hc0 h1 h2 hmatch hend e1 e2 t1 t2 hln hm
  have hB : Below w.heap.size w (w.alloc (.cells #[.int .u8 (x : Int), .int .u8 (y : Int)] 42)) := (Below.refl _ w).alloc (Nat.le_refl _) _
  have HB := Aside0.mk hB
  clear hB
  have k0 : (w.alloc (.cells #[.int .u8 (x : Int), .int .u8 (y : Int)] 42)).cell? ⟨w.heap.size, 0, none⟩ = some (.int .u8 (x : Int)) := by
    have hb : (w.alloc (.cells #[.int .u8 (x : Int), .int .u8 (y : Int)] 42)).heap[w.heap.size]? = some (.cells #[.int .u8 (x : Int), .int .u8 (y : Int)] 42 (0, 0)) := World.alloc_heap_new w _
    simp only [World.cell?, hb]
    rfl
  have k1 : (w.alloc (.cells #[.int .u8 (x : Int), .int .u8 (y : Int)] 42)).cell? ⟨w.heap.size, 1, none⟩ = some (.int .u8 (y : Int)) := by
    have hb : (w.alloc (.cells #[.int .u8 (x : Int), .int .u8 (y : Int)] 42)).heap[w.heap.size]? = some (.cells #[.int .u8 (x : Int), .int .u8 (y : Int)] 42 (0, 0)) := World.alloc_heap_new w _
    simp only [World.cell?, hb]
    rfl
  have hd : decide ((n : Int) > 64) = false := decide_eq_false (by omega)
  have hz1 : ((n : Int) + 1 == 0) = false := beq_eq_false_iff_ne.2 (by omega)
  have hz2 : ((n : Int) - (a : Int) + 1 == 0) = false := beq_eq_false_iff_ne.2 (by omega)
  clear hmb
  have HX := Aside0.mk hl
  have HFG := Aside0.mk (show 0 ≤ f ∧ f ≤ g ∧ g ≤ 128 * (n : Int) from ⟨hf0, hfg, hg⟩)
  have HAB := Aside0.mk (show a ≤ b ∧ b ≤ n from ⟨hleab, hbl⟩)
  have hxi : (x : Int) ≤ 255 := by omega
  have hyi : (y : Int) ≤ 255 := by omega
  clear hf0 hfg hg hleab hbl hx hy
  go_enter Try.func8, Try.ntmps8
  go_upto_if 16 with (fail)
  go_upto_region 4 with (fail)
  simp only [T1.out]
  go_upto_region 5 with (fail)
  simp only [T2.out]
  have hmi : (a : Int) + (m : Int) = (b : Int) := by have := HMB.out; omega
  have hbw : wrap64 (b : Int) = (b : Int) := by have := HAB.out; unfold wrap64; omega
  simp only [hmi, hbw]
  clear hmi hbw hz1 hz2 k0 k1 hxi hyi
  have d1 : decide (g < f) = false := decide_eq_false (by have := HFG.out; omega)
  have d2 : decide (f < 0) = false := decide_eq_false (by have := HFG.out; omega)
  have d3 : decide (128 * (n : Int) < g) = false := decide_eq_false (by have := HFG.out; omega)
  go_upto_if 61 with (go_at_call 28; refine (exact_at k HLN.out (Kd.C_below HR.out HB.out) HC.out H1.out).mono ?_; rintro e w' ⟨rfl, ⟨n1, rfl⟩⟩)
  go_upto_block 0 with (fail)
  have hs1 : (if (1 : Int) < (a : Int) then (a : Int) - 1 else 0) = ((a - 1 : Nat) : Int) := by split <;> omega
  simp only [hs1]
  clear hs1 d1 d2 d3 hd
  have hb64 : (b : Int) ≤ 64 := by have := HAB.out; omega
  have hn64 : (n : Int) ≤ 64 := by omega
  have hmn : (if (b : Int) + 1 < (n : Int) then (b : Int) + 1 else (n : Int)) = ((min n (b + 1) : Nat) : Int) := by split <;> omega
  have HMN := Aside0.mk hmn
  clear hmn
  have HB2 := Aside0.mk (pw_below_drewN HB.out n1)
  go_wp2
  go_loopw [10] (fun i wr => ∃ k : Nat, i = .int .i64 (k : Int) ∧ Aside0 (Below w.heap.size w wr)) (fun i _ => 128 * n - (intOf i).toNat)
  case atStart => exact ⟨128 * (a - 1), by go_num, HB2⟩
  case round =>
    obtain ⟨q, rfl, HBR⟩ := hrel
    by_cases hq : q < 128 * min n (b + 1)
    · have hq1 : q < 128 * n := by omega
      have hq2 : q < 128 * (b + 1) := by omega
      have HQ := Aside0.mk hq
      have hfr := H2.out q hq1
      have hA := Pure.frA_le l0 q
      have hBB := Pure.frB_ge l0 q
      have hmt := HM.out q
      obtain ⟨fa, hfa⟩ : ∃ z, z = Pure.frA l0 q := ⟨_, rfl⟩
      obtain ⟨fb, hfb⟩ : ∃ z, z = Pure.frB l0 q := ⟨_, rfl⟩
      rw [← hfa] at hfr hA hmt
      rw [← hfb] at hfr hBB hmt
      have HFR := Aside0.mk hfr
      have ha0 : (fa : Int) ≤ ((q / 128 : Nat) : Int) := hA.1
      have hb0 : ((q / 128 : Nat) : Int) ≤ (fb : Int) := hBB.1
      have HMT := Aside0.mk hmt
      have HA0 := Aside0.mk ha0
      have HB0 := Aside0.mk hb0
      have hq3 : (q : Int) < 128 * (n : Int) := by omega
      have hq4 : (q : Int) < 128 * ((b : Int) + 1) := by omega
      clear hq hfr hA hBB hmt hfa hfb hq1 hq2
      go_upto_if 73 with (fail)
      simp only [HMN.out]
      have hqM : decide ((q : Int) < 128 * ((min n (b + 1) : Nat) : Int)) = true := decide_eq_true (by have := HQ.out; omega)
      simp only [hqM]
      clear hqM
      go_upto_region 12 with (go_at_call 26; refine (frames_at k HLN.out (Kd.C_below HR.out HBR.out) HC.out HFR.out).mono ?_; rintro e w' ⟨rfl, ⟨n2, rfl⟩⟩)
      clear ha0 hb0
      have c1 : decide ((q : Int) / 128 < fa) = false := decide_eq_false (by have := HA0.out; omega)
      have c2 : decide (fb < (q : Int) / 128) = false := decide_eq_false (by have := HB0.out; omega)
      by_cases p1 : (a : Int) ≤ fa
      · have p1d : decide ((a : Int) ≤ fa) = true := decide_eq_true p1
        by_cases p2 : fb < (b : Int)
        · have p2d : decide (fb < (b : Int)) = true := decide_eq_true p2
          have p3d : decide (f ≤ (q : Int)) = true := decide_eq_true (HMT.out.1 ⟨p1, p2⟩).1
          have p4d : decide ((q : Int) < g) = true := decide_eq_true (HMT.out.1 ⟨p1, p2⟩).2
          clear p1 p2
          go_wp2
          go_roundw
          case rel => exact ⟨q + 1, by go_num, ⟨pw_below_drewN HBR.out n2⟩⟩
          case measure => have := HQ.out; simp [intOf]; omega
        · have p2d : decide (fb < (b : Int)) = false := decide_eq_false p2
          by_cases p3 : f ≤ (q : Int)
          · have p3d : decide (f ≤ (q : Int)) = true := decide_eq_true p3
            have p4d : decide ((q : Int) < g) = false := decide_eq_false (fun h => p2 (HMT.out.2 ⟨p3, h⟩).2)
            clear p1 p2 p3
            go_wp2
            go_roundw
            case rel => exact ⟨q + 1, by go_num, ⟨pw_below_drewN HBR.out n2⟩⟩
            case measure => have := HQ.out; simp [intOf]; omega
          · have p3d : decide (f ≤ (q : Int)) = false := decide_eq_false p3
            clear p1 p2 p3
            go_wp2
            go_roundw
            case rel => exact ⟨q + 1, by go_num, ⟨pw_below_drewN HBR.out n2⟩⟩
            case measure => have := HQ.out; simp [intOf]; omega
      · have p1d : decide ((a : Int) ≤ fa) = false := decide_eq_false p1
        by_cases p3 : f ≤ (q : Int)
        · have p3d : decide (f ≤ (q : Int)) = true := decide_eq_true p3
          have p4d : decide ((q : Int) < g) = false := decide_eq_false (fun h => p1 (HMT.out.2 ⟨p3, h⟩).1)
          clear p1 p3
          go_wp2
          go_roundw
          case rel => exact ⟨q + 1, by go_num, ⟨pw_below_drewN HBR.out n2⟩⟩
          case measure => have := HQ.out; simp [intOf]; omega
        · have p3d : decide (f ≤ (q : Int)) = false := decide_eq_false p3
          clear p1 p3
          go_wp2
          go_roundw
          case rel => exact ⟨q + 1, by go_num, ⟨pw_below_drewN HBR.out n2⟩⟩
          case measure => have := HQ.out; simp [intOf]; omega
    · go_upto_if 73 with (fail)
      simp only [HMN.out]
      have hqM : decide ((q : Int) < 128 * ((min n (b + 1) : Nat) : Int)) = false := decide_eq_false (by omega)
      simp only [hqM]
      clear hqM
      have arm := HB
      rcases HEND.out with he | he
      · have hed : decide (f < g) = true := decide_eq_true he
        clear he
        go_wp2_with (go_at_call 12; refine (shawmlaw09_awake.calls true _ rfl).mono ?_; rintro e w' ⟨rfl, hb⟩)
        go_ret
        exact ⟨rfl, HBR.out.trans (hb.mono HBR.out.size)⟩
      · by_cases he2 : f < g
        · have hed : decide (f < g) = true := decide_eq_true he2
          clear he he2
          go_wp2_with (go_at_call 12; refine (shawmlaw09_awake.calls true _ rfl).mono ?_; rintro e w' ⟨rfl, hb⟩)
          go_ret
          exact ⟨rfl, HBR.out.trans (hb.mono HBR.out.size)⟩
        · have hed : decide (f < g) = false := decide_eq_false he2
          have hee : (f == 128 * (a : Int)) = true := by rw [he]; exact beq_self_eq_true _
          have ha64 : (a : Int) ≤ 64 := by omega
          clear he he2
          go_wp2_with (go_at_call 12; refine (shawmlaw09_awake.calls true _ rfl).mono ?_; rintro e w' ⟨rfl, hb⟩)
          go_ret
          exact ⟨rfl, HBR.out.trans (hb.mono HBR.out.size)⟩
theorem list_two {l : List Value} (h : l.length = 2) : ∃ c0 c1, l = [c0, c1] := by
  match l, h with
  | [c0, c1], _ => exact ⟨c0, c1, rfl⟩
/-- An array of two bytes that comes in. -/
theorem open_two {H : Type} {enc : TypeId × Value → H} {W : World} {base : Nat} {v2 : Value} {d : DataW H} {p : List MemPlace} (hv : Value.okWide Try.prog W .any base 42 v2) (h2 : DataW.Trod enc Try.prog W 0 (fun _ => true) true 42 v2 d p) :
    ∃ x y : Nat, v2 = .agg #[.int .u8 (x : Int), .int .u8 (y : Int)] ∧ x ≤ 255 ∧ y ≤ 255 := by
  obtain ⟨cs, rfl, hsz, _⟩ : ∃ cs, v2 = .agg cs ∧ cs.size = Try.prog.cellsOf 42 ∧ Row.okWide Try.prog W .any base 42 cs := by
    simpa [Value.okWide, Try.underlying42] using hv
  rw [show Try.prog.cellsOf 42 = 2 by kernel_rfl] at hsz
  obtain ⟨l⟩ := cs
  obtain ⟨c0, c1, rfl⟩ := list_two hsz
  obtain ⟨fuel, hf⟩ := h2
  obtain ⟨xs, m, _, ex, hlen, hl, hel⟩ := DataW.trod_array Try.underlying42 hf
  have c3 : Try.prog.cellsOf 5 = 1 := by kernel_rfl
  have e0 := hel 0 (by omega)
  have e1 := hel 1 (by omega)
  rw [List.getElem?_eq_getElem (by omega)] at e0 e1
  simp only [Value.cells, c3, Nat.zero_mul, Nat.one_mul, List.drop_zero, List.drop_succ_cons, List.take_succ_cons, List.take_zero] at e0 e1
  obtain ⟨x, ex0, _, hx⟩ := DataW.trod_int Try.underlying5 e0
  obtain ⟨y, ey0, _, hy⟩ := DataW.trod_int Try.underlying5 e1
  simp only [List.cons.injEq, and_true] at ex0 ey0
  subst ex0
  subst ey0
  have bx : 0 ≤ x ∧ x ≤ 255 := by
    have hmin : IntKind.u8.min = 0 := rfl
    have hmax : IntKind.u8.max = 255 := rfl
    simp only [Lit.wf, Bool.and_eq_true, decide_eq_true_eq] at hx
    omega
  have byy : 0 ≤ y ∧ y ≤ 255 := by
    have hmin : IntKind.u8.min = 0 := rfl
    have hmax : IntKind.u8.max = 255 := rfl
    simp only [Lit.wf, Bool.and_eq_true, decide_eq_true_eq] at hy
    omega
  exact ⟨x.toNat, y.toNat, by rw [Int.toNat_of_nonneg bx.1, Int.toNat_of_nonneg byy.1], by omega, by omega⟩
set_option maxHeartbeats 2000000 in
theorem walked_long (A0 : Option Addr) (c0 n : Nat) (x y : Nat) (w : World) (hl : 64 < n) :
    Calls Try.prog 8 #[.slice A0 n c0, .agg #[.int .u8 (x : Int), .int .u8 (y : Int)]] w fun e w' => e = .returned (.bool true) ∧ Below w.heap.size w w' := by
  have hB : Below w.heap.size w (w.alloc (.cells #[.int .u8 (x : Int), .int .u8 (y : Int)] 42)) := (Below.refl _ w).alloc (Nat.le_refl _) _
  have HB := Aside0.mk hB
  clear hB
  have hd : decide (64 < n) = true := decide_eq_true hl
  go_enter Try.func8, Try.ntmps8
  go_wp2_with (go_at_call 12; refine (shawmlaw09_awake.calls true _ rfl).mono ?_; rintro e w' ⟨rfl, hb⟩)
  go_ret
  exact ⟨rfl, HB.out.trans (hb.mono (by simp))⟩
set_option maxRecDepth 100000 in
set_option maxHeartbeats 2000000 in
theorem lifted (os : Os) (started : os.Started) (H : Type) (enc : TypeId × Value → H) :
    ReturnsInHanded {} Try.checked os 8 .any (Rows.blockExactSpec.pre6 enc Try.prog Try.f8 Rows.blockExactRow.domain false) (Rows.blockExactSpec.post enc Try.prog Try.f8 false true false false) := by
  refine returnsInHanded_of_change_sized (C := Try.checked) own started (by kernel_rfl) Try.func8
    (ChangeSpec.witness6 (enc := enc) (C := Try.checked) false ⟨#[], #[.slice none 0 0, .agg #[.int .u8 0, .int .u8 0]], []⟩ 8 (by kernel_rfl) (by kernel_rfl) (by kernel_rfl) (by kernel_rfl)) ?_
  intro W base args ds gs before hval0 hW hcnd hsz0 _
  have hval : ∀ (j : Nat) t v, Try.f8.params[j]? = some t → args[j]? = some v → Value.okWide Try.prog W .any base t v := hval0
  have hW' := hW
  obtain ⟨p, q, hA0, hV, rfl, hfz, hnd⟩ := hW
  have hA : DataW.TrodAll enc Try.prog W 0 (fun _ => true) true Try.f8.params.toList args.toList ds p := hA0
  rw [Try.params8] at hA hval
  obtain ⟨v0, vs0, d0, ds0, p0, q0, hargs, rfl, rfl, h0, r0⟩ := trodAll_cons hA
  obtain ⟨v1, vs1, d1, ds1, p1, q1, rfl, rfl, rfl, h1, r1⟩ := trodAll_cons r0
  obtain ⟨rfl, rfl, rfl⟩ := trodAll_nil r1
  obtain rfl : args = #[v0, v1] := by cases args; simp_all
  obtain ⟨rfl, rfl⟩ := trodVars_none hV
  obtain ⟨a0, len0, cap0, rfl⟩ := okWide_slice Try.underlying29 (hval 0 29 v0 rfl rfl)
  have k0 := h0
  have lt0 : ∀ x ∈ p0, x.block < W.heap.size := by obtain ⟨m, hm⟩ := k0; exact DataW.trod_lt m _ _ _ hm
  have k1 := h1
  have lt1 : ∀ x ∈ p1, x.block < W.heap.size := by obtain ⟨m, hm⟩ := k1; exact DataW.trod_lt m _ _ _ hm
  obtain ⟨z0, w0⟩ : ∃ zs, IsBools W a0 len0 cap0 zs := by
    obtain ⟨fuel, hf⟩ := h0
    rcases Go.Deep.open_bools Try.underlying29 Try.underlying4 (by kernel_rfl) hf with ⟨hcs, _⟩ | ⟨x, l, c, B, hcs, _, hl, hm, _, hcell⟩
    · simp [Value.cells] at hcs
      obtain ⟨rfl, rfl, rfl⟩ := hcs
      exact ⟨[], rfl, by omega, reads_none _⟩
    · simp [Value.cells] at hcs
      obtain ⟨rfl, rfl, rfl⟩ := hcs
      exact ⟨_, by simp, hl, reads_bools hl hm hcell⟩
  obtain ⟨x, y, rfl, hx, hy⟩ := open_two (hval 1 42 v1 rfl rfl) h1
  clear hA0 hval0 hsz0
  obtain ⟨rfl, c0, e0⟩ := w0
  have W8 : Calls Try.prog 8 #[.slice a0 z0.length cap0, .agg #[.int .u8 (x : Int), .int .u8 (y : Int)]] W fun e w' => e = .returned (.bool true) ∧ Below W.heap.size W w' := by
    by_cases hl : z0.length ≤ 64
    · have ha : x % (z0.length + 1) ≤ z0.length := Nat.lt_succ_iff.1 (Nat.mod_lt _ (by omega))
      have hm : y % (z0.length - x % (z0.length + 1) + 1) ≤ z0.length - x % (z0.length + 1) := Nat.lt_succ_iff.1 (Nat.mod_lt _ (by omega))
      obtain ⟨a, ea⟩ : ∃ a, a = x % (z0.length + 1) := ⟨_, rfl⟩
      rw [← ea] at ha hm
      obtain ⟨m, em⟩ : ∃ m, m = y % (z0.length - a + 1) := ⟨_, rfl⟩
      rw [← em] at hm
      obtain ⟨k, f1, f2⟩ := Pure.BlockExact z0 hl a (a + m) (by omega) (by omega)
      obtain ⟨g1, g2, g3, g4⟩ := Pure.exV_bounds z0 a (a + m) (by omega) (by omega)
      exact walked k a0 cap0 z0.length z0 x y a (a + m) m _ _ W rfl e0 c0 hl hx hy (by omega) (by omega) (by omega) ea.symm em.symm f1 f2 g1 g2 g3 g4 (fun i => Pure.exact_match z0 a (a + m) i (by omega))
    · exact walked_long a0 cap0 z0.length x y W (by omega)
  refine W8.mono fun e W' ⟨he, bel⟩ => ?_
  subst he
  exact ⟨_, rfl, _, _, _, [], _, [], hW', trodAll_mk1 (shut_bool Try.underlying4 _), (trodAll_cons_mk (Below.trod laidOut (by kernel_rfl) (of_decide_eq_true (by kernel_rfl)) k0 bel lt0) (trodAll_cons_mk (Below.trod laidOut (by kernel_rfl) (of_decide_eq_true (by kernel_rfl)) k1 bel lt1) trodAll_mk0)), rfl, bel.frame _, fun h => by cases h⟩
theorem over : Rows.blockExactRow.holds Try.pinned (OpenSpec.ofChange Rows.blockExactSpec) :=
  OpenClaim.holds_of_wide 8 Try.f8 rfl rfl rfl rfl rfl rfl rfl ⟨rfl, rfl, rfl, rfl, rfl⟩ rfl rfl rfl rfl rfl (by kernel_rfl) Try.func8 (by kernel_rfl)
    (of_decide_eq_true (by kernel_rfl)) (by unfold Func.isWrapper; first | (rw [if_pos (by decide +kernel)]; kernel_rfl) | (rw [if_neg (by decide +kernel)]; exact ⟨rfl, rfl⟩))
    (fun os started H enc _ => lifted os started H enc)
theorem proved : Rows.BlockExactSaid := over
#print axioms proved
end Go.Proofs.Ytooipbjdpajmmaa.blockExact
namespace Go.Proofs.Ytooipbjdpajmmaa
/-- The row, under a short name, for the claim. -/
theorem blockExact_holds : Rows.BlockExactSaid := blockExact.proved
end Go.Proofs.Ytooipbjdpajmmaa
