/- The row StereoChooses of the seat Ytjplalkgabpinaa: the machine's side (printed texts) and the plain law, joined. Conditions: those of the given statement, no others. -/
import Derived.Test.YtjplalkgabpinaaRows
import Derived.Test.YtjplalkgabpinaaHnx27
import Derived.Test.YtjplalkgabpinaaPureStereoChooses
import Derived.WalkKit
import Derived.ProofKit
import Derived.OpenShut
import Derived.ShutString
import Derived.ChangeOld
import Derived.Below
import Derived.SizedLaws
import Derived.Deep.Grids
import Derived.Lib.SmallJoins
import Derived.Test.YtjplalkgabpinaaWSized
namespace Go.Proofs.Ytjplalkgabpinaa.stereoChooses
open Go.ChangeShapes Go.WideShapes Go.ChangeAt Go.RowKit Go.Proofs.Ytjplalkgabpinaa.Hn Go.Proofs.YtjplalkgabpinaaW.PrintWords Go.Proofs.YtjplalkgabpinaaW.PrintLast Go.Proofs.YtjplalkgabpinaaW.PrintMore
set_option linter.unusedVariables false
set_option linter.unusedSimpArgs false
theorem own : ownKnob Try.prog.godebug = none := by kernel_rfl
theorem laidOut : laidOutB Try.prog = true := by kernel_rfl
/-- A slice of bools that comes in, as a list that is read. -/
theorem reads_bools {w : World} {a : Addr} {len cap : Nat} {B : Nat → Bool} (hl : len ≤ cap) (hm : cap ≤ maxLen) (h : ∀ i, i < cap → w.cell? (a.add i) = some (.bool (B i))) :
    Kd.C Kd.bool w (some a) len ((List.range len).map B) := by
  refine ⟨by simp, by unfold maxLen at hm; omega, fun _ => ⟨a, rfl, fun j p hj => ⟨[.bool p], rfl, rfl, fun i u hu => ?_⟩⟩⟩
  have hj' : j < len := by
    have := (List.getElem?_eq_some_iff.1 hj).1
    simpa using this
  have hp : B j = p := by simpa [List.getElem?_map, hj'] using hj
  cases i with
  | zero =>
    obtain rfl : Value.bool p = u := by simpa using hu
    rw [← hp]
    show w.cell? (a.add (j * 1 + 0)) = _
    rw [Nat.mul_one, Nat.add_zero]
    exact h j (by omega)
  | succ i => simp at hu
theorem reads_none {α : Type} (d : Kd α) (w : World) : Kd.C d w none 0 [] := ⟨rfl, by omega, fun h => absurd h (by omega)⟩
/-- A slice of whole numbers that comes in, as a list that is read. -/
theorem reads_ints {w : World} {a : Addr} {len cap : Nat} {zs : List Int} (hl : len ≤ cap) (hm : cap ≤ maxLen) (hz : zs.length = cap) (h : ∀ i, i < zs.length → w.cell? (a.add i) = some (.int .i64 (zs.getD i 0))) :
    Kd.C (Kd.int .i64) w (some a) len (zs.take len) := by
  refine ⟨by simp; omega, by unfold maxLen at hm; omega, fun _ => ⟨a, rfl, fun j p hj => ⟨[.int .i64 p], rfl, rfl, fun i u hu => ?_⟩⟩⟩
  have hj' := (List.getElem?_eq_some_iff.1 hj).1
  rw [List.length_take] at hj'
  have hp : zs.getD j 0 = p := by
    rw [List.getElem?_take, if_pos (by omega)] at hj
    simp [List.getD_eq_getElem?_getD, hj]
  cases i with
  | zero =>
    obtain rfl : Value.int .i64 p = u := by simpa using hu
    rw [← hp]
    show w.cell? (a.add (j * 1 + 0)) = _
    rw [Nat.mul_one, Nat.add_zero]
    exact h j (by omega)
  | succ i => simp at hu
def IsBools (w : World) (a : Option Addr) (len cap : Nat) (zs : List Bool) : Prop := zs.length = len ∧ len ≤ cap ∧ Kd.C Kd.bool w a len zs
def IsInts (w : World) (a : Option Addr) (len cap : Nat) (zs : List Int) : Prop := zs.length = len ∧ len ≤ cap ∧ Kd.C (Kd.int .i64) w a len zs
theorem ints_of {H : Type} {enc : TypeId × Value → H} {W : World} {fuel : Nat} {v : Value} {x : DataW H × List MemPlace} (h : DataW.trod enc Try.prog W 0 (fun _ => true) true fuel 22 [v] = some x) :
    ∃ (a : Option Addr) (len cap : Nat) (zs : List Int), v = .slice a len cap ∧ IsInts W a len cap zs := by
  rcases open_ints Try.underlying22 Try.underlying3 (by kernel_rfl) h with ⟨hcs, _⟩ | ⟨x, l, c, zs, hcs, _, hl, hm, hz, _, hcell, hwz⟩
  · simp only [List.cons.injEq, and_true] at hcs
    exact ⟨none, 0, 0, [], hcs, rfl, by omega, reads_none _ _⟩
  · simp only [List.cons.injEq, and_true] at hcs
    have hz' : zs.length = c := by simpa using hz
    exact ⟨some x, l, c, zs.take l, hcs, by simp; omega, hl, reads_ints hl hm hz' hcell⟩
set_option maxRecDepth 100000 in
set_option maxHeartbeats 2000000 in
theorem lifted (os : Os) (started : os.Started) (H : Type) (enc : TypeId × Value → H) :
    ReturnsInHanded {} Try.checked os 5 .any (Rows.stereoChoosesSpec.pre6 enc Try.prog Try.f5 Rows.stereoChoosesRow.domain false) (Rows.stereoChoosesSpec.post enc Try.prog Try.f5 false true false false) := by
  refine returnsInHanded_of_change_sized (C := Try.checked) own started (by kernel_rfl) Try.func5
    (ChangeSpec.witness6 (enc := enc) (C := Try.checked) false ⟨#[], #[.agg #[.slice none 0 0, .slice none 0 0], .slice none 0 0], []⟩ 8 (by kernel_rfl) (by kernel_rfl) (by kernel_rfl) (by kernel_rfl)) ?_
  intro W base args ds gs before hval0 hW hcnd hsz0 _
  have hval : ∀ (j : Nat) t v, Try.f5.params[j]? = some t → args[j]? = some v → Value.okWide Try.prog W .any base t v := hval0
  have hW' := hW
  obtain ⟨p, q, hA0, hV, rfl, hfz, hnd⟩ := hW
  have hA : DataW.TrodAll enc Try.prog W 0 (fun _ => true) true Try.f5.params.toList args.toList ds p := hA0
  rw [Try.params5] at hA hval
  obtain ⟨v0, vs0, d0, ds0, p0, q0, hargs, rfl, rfl, h0, r0⟩ := trodAll_cons hA
  obtain ⟨v1, vs1, d1, ds1, p1, q1, rfl, rfl, rfl, h1, r1⟩ := trodAll_cons r0
  obtain ⟨rfl, rfl, rfl⟩ := trodAll_nil r1
  obtain rfl : args = #[v0, v1] := by cases args; simp_all
  obtain ⟨rfl, rfl⟩ := trodVars_none hV
  have k0 := h0
  have lt0 : ∀ x ∈ p0, x.block < W.heap.size := by obtain ⟨m, hm⟩ := k0; exact DataW.trod_lt m _ _ _ hm
  have k1 := h1
  have lt1 : ∀ x ∈ p1, x.block < W.heap.size := by obtain ⟨m, hm⟩ := k1; exact DataW.trod_lt m _ _ _ hm
  obtain ⟨u0, u1, y0, y1, nf, rfl, _, _, g0, g1⟩ := Go.Joins.open_agg2 Try.underlying24 (by kernel_rfl) (by kernel_rfl) (hval 0 24 v0 rfl rfl) h0
  obtain ⟨a0, len0, cap0, z0, rfl, rfl, c0, e0⟩ := ints_of g0
  obtain ⟨a1, len1, cap1, z1, rfl, rfl, c1, e1⟩ := ints_of g1
  obtain ⟨a2, len2, cap2, rfl⟩ := okWide_slice Try.underlying22 (hval 1 22 v1 rfl rfl)
  obtain ⟨z2, w2⟩ : ∃ zs, IsInts W a2 len2 cap2 zs := by
    obtain ⟨fuel, hf⟩ := h1
    obtain ⟨a', l', c', zs, e, hi⟩ := ints_of (v := .slice a2 len2 cap2) hf
    cases e
    exact ⟨zs, hi⟩
  obtain ⟨rfl, c2, e2⟩ := w2
  clear hA0 hval0 hsz0
  obtain ⟨k, hk⟩ := Pure.StereoChooses z0 z1 z2
  refine (shawmlaw13_StereoChooses.calls k a0 cap0 z0 a1 cap1 z1 a2 cap2 z2 true W e0 c0 e1 c1 e2 c2 hk).mono fun e W' ⟨he, bel⟩ => ?_
  subst he
  exact ⟨_, rfl, _, _, _, [], _, [], hW', trodAll_mk1 (shut_bool Try.underlying4 _), (trodAll_cons_mk (Below.trod laidOut (by kernel_rfl) (of_decide_eq_true (by kernel_rfl)) k0 bel lt0) (trodAll_cons_mk (Below.trod laidOut (by kernel_rfl) (of_decide_eq_true (by kernel_rfl)) k1 bel lt1) trodAll_mk0)), rfl, bel.frame _, fun h => by cases h⟩
theorem over : Rows.stereoChoosesRow.holds Try.pinned (OpenSpec.ofChange Rows.stereoChoosesSpec) :=
  OpenClaim.holds_of_wide 5 Try.f5 rfl rfl rfl rfl rfl rfl rfl ⟨rfl, rfl, rfl, rfl, rfl⟩ rfl rfl rfl rfl rfl (by kernel_rfl) Try.func5 (by kernel_rfl)
    (of_decide_eq_true (by kernel_rfl)) (by unfold Func.isWrapper; first | (rw [if_pos (by decide +kernel)]; kernel_rfl) | (rw [if_neg (by decide +kernel)]; exact ⟨rfl, rfl⟩))
    (fun os started H enc _ => lifted os started H enc)
theorem proved : Rows.StereoChoosesSaid := over
#print axioms proved
end Go.Proofs.Ytjplalkgabpinaa.stereoChooses
namespace Go.Proofs.Ytjplalkgabpinaa
/-- The row, under a short name, for the claim. -/
theorem stereoChooses_holds : Rows.StereoChoosesSaid := stereoChooses.proved
end Go.Proofs.Ytjplalkgabpinaa
