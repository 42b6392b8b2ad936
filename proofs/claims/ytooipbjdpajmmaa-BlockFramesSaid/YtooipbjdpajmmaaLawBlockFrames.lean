/- The row BlockFrames of the seat Ytooipbjdpajmmaa: the machine's side (printed texts) and the plain law, joined. Conditions: those of the given statement, no others. -/
import Derived.Test.YtooipbjdpajmmaaRows
import Derived.Test.YtooipbjdpajmmaaHnx17
import Derived.Test.YtooipbjdpajmmaaHnx6
import Derived.Test.YtooipbjdpajmmaaHnx18
import Derived.Test.YtooipbjdpajmmaaHnx19
import Derived.Test.YtooipbjdpajmmaaPureBlockFrames
import Derived.WalkKit
import Derived.ProofKit
import Derived.OpenShut
import Derived.ShutString
import Derived.ChangeOld
import Derived.Below
import Derived.SizedLaws
import Derived.Deep.Grids
import Derived.Test.YtooipbjdpajmmaaWSized
namespace Go.Proofs.Ytooipbjdpajmmaa.blockFrames
open Go.ChangeShapes Go.WideShapes Go.ChangeAt Go.RowKit Go.Proofs.Ytooipbjdpajmmaa.Hn Go.Proofs.YtooipbjdpajmmaaW.PrintWords Go.Proofs.YtooipbjdpajmmaaW.PrintLast Go.Proofs.YtooipbjdpajmmaaW.PrintMore
set_option linter.unusedVariables false
set_option linter.unusedSimpArgs false
theorem own : ownKnob Try.prog.godebug = none := by kernel_rfl
theorem laidOut : laidOutB Try.prog = true := by kernel_rfl
/-- A slice of bools that comes in, as a list that is read. -/
theorem reads_bools {w : World} {a : Addr} {len cap : Nat} {B : Nat → Bool} (hl : len ≤ cap) (hm : cap ≤ maxLen) (h : ∀ i, i < cap → w.cell? (a.add i) = some (.bool (B i))) :
    Kd.C Kd.bool w (some a) len ((List.range len).map B) := by
  refine ⟨by simp, by unfold maxLen at hm; omega, fun _ => ⟨a, rfl, fun j p hj => ⟨[.bool p], rfl, rfl, fun i u hu => ?_⟩⟩⟩
  have hj' : j < len := by
    have := (List.getElem?_eq_some_iff.1 hj).1
    simpa using this
  have hp : B j = p := by simpa [List.getElem?_map, hj'] using hj
  cases i with
  | zero =>
    obtain rfl : Value.bool p = u := by simpa using hu
    rw [← hp]
    show w.cell? (a.add (j * 1 + 0)) = _
    rw [Nat.mul_one, Nat.add_zero]
    exact h j (by omega)
  | succ i => simp at hu
theorem reads_none (w : World) : Kd.C Kd.bool w none 0 [] := ⟨rfl, by omega, fun h => absurd h (by omega)⟩
def IsBools (w : World) (a : Option Addr) (len cap : Nat) (zs : List Bool) : Prop := zs.length = len ∧ len ≤ cap ∧ Kd.C Kd.bool w a len zs
set_option maxRecDepth 100000 in
set_option maxHeartbeats 8000000 in
theorem walked (k : Nat) (A0 : Option Addr) (c0 : Nat) (l0 : List Bool) (a1 x y f1 f2 f3 p1 p2 p3 : Int) (w : World) (hr0 : Kd.C Kd.bool w A0 l0.length l0) (hc0 : l0.length ≤ c0)
    (h1 : block_Frames.f k l0 a1 = some (f1, f2, f3)) (h2 : shawmref09_Frames.f k l0 a1 = some (f1, f2, f3)) (h3 : block_Exact.f k l0 x y = some (p1, p2, p3)) (h4 : shawmref09_Exact.f k l0 x y = some (p1, p2, p3)) :
    Calls Try.prog 7 #[.slice A0 l0.length c0, .int .i64 a1, .agg #[.int .i64 x, .int .i64 y]] w fun e w' => e = .returned (.bool true) ∧ Below w.heap.size w w' := by
  have HR := Aside0.mk hr0
  have HC := Aside0.mk hc0
  have H1 := Aside0.mk h1
  have H2 := Aside0.mk h2
  have H3 := Aside0.mk h3
  have H4 := Aside0.mk h4
  clear hr0 hc0 h1 h2 h3 h4
  have hB : Below w.heap.size w (w.alloc (.cells #[.int .i64 x, .int .i64 y] 37)) := (Below.refl _ w).alloc (Nat.le_refl _) _
  have HB := Aside0.mk hB
  clear hB
  have k0 : (w.alloc (.cells #[.int .i64 x, .int .i64 y] 37)).cell? ⟨w.heap.size, 0, none⟩ = some (.int .i64 x) := by
    have hb : (w.alloc (.cells #[.int .i64 x, .int .i64 y] 37)).heap[w.heap.size]? = some (.cells #[.int .i64 x, .int .i64 y] 37 (0, 0)) := World.alloc_heap_new w _
    simp only [World.cell?, hb]
    rfl
  have k1 : (w.alloc (.cells #[.int .i64 x, .int .i64 y] 37)).cell? ⟨w.heap.size, 1, none⟩ = some (.int .i64 y) := by
    have hb : (w.alloc (.cells #[.int .i64 x, .int .i64 y] 37)).heap[w.heap.size]? = some (.cells #[.int .i64 x, .int .i64 y] 37 (0, 0)) := World.alloc_heap_new w _
    simp only [World.cell?, hb]
    rfl
  go_enter Try.func7, Try.ntmps7
  by_cases hlen : (l0.length : Int) > 100
  · have hd : decide ((l0.length : Int) > 100) = true := decide_eq_true hlen
    go_wp2_with (go_at_call 12; refine (shawmlaw09_awake.calls true _ rfl).mono ?_; rintro e w' ⟨rfl, hb⟩)
    go_ret
    exact ⟨rfl, HB.out.trans (hb.mono (by simp))⟩
  · have hd : decide ((l0.length : Int) > 100) = false := decide_eq_false hlen
    go_wp2_with (first | (go_at_call 26; refine (block_Frames.calls k A0 c0 l0 a1 _ _ _ _ (Kd.C_below HR.out HB.out) HC.out H1.out).mono ?_; rintro e w' ⟨rfl, ⟨n1, rfl⟩⟩) | (go_at_call 27; refine (shawmref09_Frames.calls k A0 c0 l0 a1 _ _ _ _ (Kd.C_below HR.out (pw_below_drewN HB.out _)) HC.out H2.out).mono ?_; rintro e w' ⟨rfl, ⟨n2, rfl⟩⟩) | (go_at_call 28; refine (block_Exact.calls k A0 c0 l0 x y _ _ _ _ (Kd.C_below HR.out (pw_below_drewN HB.out _)) HC.out H3.out).mono ?_; rintro e w' ⟨rfl, ⟨n3, rfl⟩⟩) | (go_at_call 29; refine (shawmref09_Exact.calls k A0 c0 l0 x y _ _ _ _ (Kd.C_below HR.out (pw_below_drewN HB.out _)) HC.out H4.out).mono ?_; rintro e w' ⟨rfl, ⟨n4, rfl⟩⟩) | (go_at_call 12; refine (shawmlaw09_awake.calls true _ rfl).mono ?_; rintro e w' ⟨rfl, hb⟩))
    go_ret
    exact ⟨rfl, (pw_below_drewN HB.out _).trans (hb.mono (by simp))⟩
theorem list_two {l : List Value} (h : l.length = 2) : ∃ c0 c1, l = [c0, c1] := by
  match l, h with
  | [c0, c1], _ => exact ⟨c0, c1, rfl⟩
/-- An array of two whole numbers that comes in. -/
theorem open_two {H : Type} {enc : TypeId × Value → H} {W : World} {base : Nat} {v2 : Value} {d : DataW H} {p : List MemPlace} (hv : Value.okWide Try.prog W .any base 37 v2) (h2 : DataW.Trod enc Try.prog W 0 (fun _ => true) true 37 v2 d p) :
    ∃ x y : Int, v2 = .agg #[.int .i64 x, .int .i64 y] := by
  obtain ⟨cs, rfl, hsz, _⟩ : ∃ cs, v2 = .agg cs ∧ cs.size = Try.prog.cellsOf 37 ∧ Row.okWide Try.prog W .any base 37 cs := by
    simpa [Value.okWide, Try.underlying37] using hv
  rw [show Try.prog.cellsOf 37 = 2 by kernel_rfl] at hsz
  obtain ⟨l⟩ := cs
  obtain ⟨c0, c1, rfl⟩ := list_two hsz
  obtain ⟨fuel, hf⟩ := h2
  obtain ⟨xs, m, _, ex, hlen, hl, hel⟩ := DataW.trod_array Try.underlying37 hf
  have c3 : Try.prog.cellsOf 3 = 1 := by kernel_rfl
  have e0 := hel 0 (by omega)
  have e1 := hel 1 (by omega)
  rw [List.getElem?_eq_getElem (by omega)] at e0 e1
  simp only [Value.cells, c3, Nat.zero_mul, Nat.one_mul, List.drop_zero, List.drop_succ_cons, List.take_succ_cons, List.take_zero] at e0 e1
  obtain ⟨x, ex0, _, _⟩ := DataW.trod_int Try.underlying3 e0
  obtain ⟨y, ey0, _, _⟩ := DataW.trod_int Try.underlying3 e1
  simp only [List.cons.injEq, and_true] at ex0 ey0
  subst ex0
  subst ey0
  exact ⟨x, y, rfl⟩
set_option maxRecDepth 100000 in
set_option maxHeartbeats 2000000 in
theorem lifted (os : Os) (started : os.Started) (H : Type) (enc : TypeId × Value → H) :
    ReturnsInHanded {} Try.checked os 7 .any (Rows.blockFramesSpec.pre6 enc Try.prog Try.f7 Rows.blockFramesRow.domain false) (Rows.blockFramesSpec.post enc Try.prog Try.f7 false true false false) := by
  refine returnsInHanded_of_change_sized (C := Try.checked) own started (by kernel_rfl) Try.func7
    (ChangeSpec.witness6 (enc := enc) (C := Try.checked) false ⟨#[], #[.slice none 0 0, .int .i64 0, .agg #[.int .i64 0, .int .i64 0]], []⟩ 8 (by kernel_rfl) (by kernel_rfl) (by kernel_rfl) (by kernel_rfl)) ?_
  intro W base args ds gs before hval0 hW hcnd hsz0 _
  have hval : ∀ (j : Nat) t v, Try.f7.params[j]? = some t → args[j]? = some v → Value.okWide Try.prog W .any base t v := hval0
  have hW' := hW
  obtain ⟨p, q, hA0, hV, rfl, hfz, hnd⟩ := hW
  have hA : DataW.TrodAll enc Try.prog W 0 (fun _ => true) true Try.f7.params.toList args.toList ds p := hA0
  rw [Try.params7] at hA hval
  obtain ⟨v0, vs0, d0, ds0, p0, q0, hargs, rfl, rfl, h0, r0⟩ := trodAll_cons hA
  obtain ⟨v1, vs1, d1, ds1, p1, q1, rfl, rfl, rfl, h1, r1⟩ := trodAll_cons r0
  obtain ⟨v2, vs2, d2, ds2, p2, q2, rfl, rfl, rfl, h2, r2⟩ := trodAll_cons r1
  obtain ⟨rfl, rfl, rfl⟩ := trodAll_nil r2
  obtain rfl : args = #[v0, v1, v2] := by cases args; simp_all
  obtain ⟨rfl, rfl⟩ := trodVars_none hV
  obtain ⟨a0, len0, cap0, rfl⟩ := okWide_slice Try.underlying29 (hval 0 29 v0 rfl rfl)
  have k0 := h0
  have lt0 : ∀ x ∈ p0, x.block < W.heap.size := by obtain ⟨m, hm⟩ := k0; exact DataW.trod_lt m _ _ _ hm
  have k2 := h2
  have lt2 : ∀ x ∈ p2, x.block < W.heap.size := by obtain ⟨m, hm⟩ := k2; exact DataW.trod_lt m _ _ _ hm
  obtain ⟨z0, w0⟩ : ∃ zs, IsBools W a0 len0 cap0 zs := by
    obtain ⟨fuel, hf⟩ := h0
    rcases Go.Deep.open_bools Try.underlying29 Try.underlying4 (by kernel_rfl) hf with ⟨hcs, _⟩ | ⟨x, l, c, B, hcs, _, hl, hm, _, hcell⟩
    · simp [Value.cells] at hcs
      obtain ⟨rfl, rfl, rfl⟩ := hcs
      exact ⟨[], rfl, by omega, reads_none _⟩
    · simp [Value.cells] at hcs
      obtain ⟨rfl, rfl, rfl⟩ := hcs
      exact ⟨_, by simp, hl, reads_bools hl hm hcell⟩
  obtain ⟨a1, rfl, rfl, rfl, w1⟩ := open_int Try.underlying3 (hval 1 3 v1 rfl rfl) h1
  obtain ⟨x, y, rfl⟩ := open_two (hval 2 37 v2 rfl rfl) h2
  clear hA0 hval0 hsz0
  obtain ⟨rfl, c0, e0⟩ := w0
  obtain ⟨k, f1, f2, f3, f4⟩ := Pure.BlockFrames z0 a1 x y
  refine (walked k a0 cap0 z0 a1 x y _ _ _ _ _ _ W e0 c0 f1 f2 f3 f4).mono fun e W' ⟨he, bel⟩ => ?_
  subst he
  exact ⟨_, rfl, _, _, _, [], _, [], hW', trodAll_mk1 (shut_bool Try.underlying4 _), (trodAll_cons_mk (Below.trod laidOut (by kernel_rfl) (of_decide_eq_true (by kernel_rfl)) k0 bel lt0) (trodAll_cons_mk (shut_int Try.underlying3 w1) (trodAll_cons_mk (Below.trod laidOut (by kernel_rfl) (of_decide_eq_true (by kernel_rfl)) k2 bel lt2) trodAll_mk0))), rfl, bel.frame _, fun h => by cases h⟩
theorem over : Rows.blockFramesRow.holds Try.pinned (OpenSpec.ofChange Rows.blockFramesSpec) :=
  OpenClaim.holds_of_wide 7 Try.f7 rfl rfl rfl rfl rfl rfl rfl ⟨rfl, rfl, rfl, rfl, rfl⟩ rfl rfl rfl rfl rfl (by kernel_rfl) Try.func7 (by kernel_rfl)
    (of_decide_eq_true (by kernel_rfl)) (by unfold Func.isWrapper; first | (rw [if_pos (by decide +kernel)]; kernel_rfl) | (rw [if_neg (by decide +kernel)]; exact ⟨rfl, rfl⟩))
    (fun os started H enc _ => lifted os started H enc)
theorem proved : Rows.BlockFramesSaid := over
#print axioms proved
end Go.Proofs.Ytooipbjdpajmmaa.blockFrames
namespace Go.Proofs.Ytooipbjdpajmmaa
/-- The row, under a short name, for the claim. -/
theorem blockFrames_holds : Rows.BlockFramesSaid := blockFrames.proved
end Go.Proofs.Ytooipbjdpajmmaa
