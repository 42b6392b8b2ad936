/- Chapter 23: a slice of calls of a pool (Op) that comes in, call by call. Conditions: none beyond each theorem's own. -/
import Derived.Test.YtacoekniljimoaaDoorCN
import Derived.Deep.Slices
import Derived.SizedLaws
namespace Go.Proofs.YtacoekniljimoaaDoor
open Go.ChangeShapes Go.WideShapes Go.ChangeAt Go.RowKit Go.Deep Go.Proofs.YtacoekniljimoaaDoor.Res Go.Proofs.YtacoekniljimoaaDoorW.PrintWords
set_option linter.unusedVariables false
set_option linter.unusedSimpArgs false
theorem reads_bytes {w : World} {a : Addr} {len cap : Nat} {zs : List Int} (hl : len ≤ cap) (hm : cap ≤ maxLen) (hz : zs.length = cap) (h : ∀ i, i < zs.length → w.cell? (a.add i) = some (.int .u8 (zs.getD i 0))) :
    Kd.C (Kd.int .u8) w (some a) len (zs.take len) := by
  refine Kd.C_of_reads (enc := Value.int .u8) (h1 := fun _ => rfl) (d := (0 : Int)) ⟨by simp; omega, by unfold maxLen at hm; omega, fun _ => ⟨a, rfl, fun j hj => ?_⟩⟩
  rw [h j (by omega)]
  simp [List.getD_eq_getElem?_getD, List.getElem?_take, hj]
def IsBytes (w : World) (a : Option Addr) (len cap : Nat) (zs : List Int) : Prop := zs.length = len ∧ len ≤ cap ∧ cap ≤ maxLen ∧ Kd.C (Kd.int .u8) w a len zs
theorem bytes_of {H : Type} {enc : TypeId × Value → H} {W : World} {fuel : Nat} {v : Value} {x : DataW H × List MemPlace} (h : DataW.trod enc Tryd.prog W 0 (fun _ => true) true fuel 37 [v] = some x) :
    ∃ (a : Option Addr) (len cap : Nat) (zs : List Int), v = .slice a len cap ∧ IsBytes W a len cap zs ∧ ((∀ z ∈ x.1.weights Tryd.prog 37, z ≤ reachBytes) → len ≤ reachBytes) := by
  rcases open_ints Tryd.underlying37 Tryd.underlying5 (by kernel_rfl) h with ⟨hcs, _⟩ | ⟨x, l, c, zs, hcs, _, hl, hm, hz, rfl, hcell, hwz⟩
  · simp only [List.cons.injEq, and_true] at hcs
    exact ⟨none, 0, 0, [], hcs, ⟨rfl, by omega, by simp [maxLen], reads_none _ _⟩, fun _ => by omega⟩
  · simp only [List.cons.injEq, and_true] at hcs
    have hz' : zs.length = c := by simpa using hz
    refine ⟨some x, l, c, zs.take l, hcs, ⟨by simp; omega, hl, hm, reads_bytes hl hm hz' hcell⟩, fun hw => ?_⟩
    have b5 : Tryd.prog.bytesOf 5 = 1 := by kernel_rfl
    have := hw _ (by simp only [DataW.weights, Tryd.underlying37]; exact List.mem_cons_self)
    simp only [b5, lits, List.length_map, List.length_take, List.length_drop] at this
    omega
/-- A call of a pool, as it lies in memory. -/
structure OpIn (W : World) (b o : Nat) (kd bk : Int) (A : Option Addr) (n c : Nat) (bs : List Int) : Prop where
  c0 : W.cell? ⟨b, o, none⟩ = some (.int .u8 kd)
  c1 : W.cell? ⟨b, o + 1, none⟩ = some (.int .i64 bk)
  c2 : W.cell? ⟨b, o + 2, none⟩ = some (.slice A n c)
  k0 : 0 ≤ kd
  k1 : kd ≤ 255
  nc : n ≤ c
  nm : c ≤ maxLen
  nb : n ≤ 140737488351232
  row : Kd.C (Kd.int .u8) W A n bs
/-- The calls, all of them. -/
def OpsIn (W : World) (a : Option Addr) (len : Nat) : Prop := 0 < len → ∃ b o, a = some ⟨b, o, none⟩ ∧ ∀ i, i < len → ∃ kd bk A n c bs, OpIn W b (o + i * 3) kd bk A n c bs
theorem weightsAll_mem {H : Type} {P : Program} {e : TypeId} {d : DataW H} {z : Nat} : ∀ {ds : List (DataW H)}, d ∈ ds → z ∈ d.weights P e → z ∈ DataW.weightsAll P e ds
  | d0 :: ds, h, hz => by
    simp only [DataW.weightsAll, List.mem_append]
    rcases List.mem_cons.1 h with rfl | h
    · exact Or.inl hz
    · exact Or.inr (weightsAll_mem h hz)
theorem ops_of {H : Type} {enc : TypeId × Value → H} {W : World} {fuel : Nat} {a : Option Addr} {len cap : Nat} {x : DataW H × List MemPlace} (h : DataW.trod enc Tryd.prog W 0 (fun _ => true) true fuel 53 [.slice a len cap] = some x) (hw : ∀ z ∈ x.1.weights Tryd.prog 53, z ≤ reachBytes) :
    OpsIn W a len ∧ len ≤ maxLen := by
  rcases open_slice Tryd.underlying53 h with ⟨hcs, _⟩ | ⟨ad, l, c, m, n, D, Pl, hcs, _, hl, hm, hme, rfl, hel⟩
  · simp only [List.cons.injEq, and_true, Value.slice.injEq] at hcs
    obtain ⟨_, rfl, _⟩ := hcs
    exact ⟨fun h => by omega, by simp [maxLen]⟩
  · simp only [List.cons.injEq, and_true, Value.slice.injEq] at hcs
    obtain ⟨rfl, rfl, rfl⟩ := hcs
    have c55 : Tryd.prog.cellsOf 55 = 3 := by kernel_rfl
    have c5 : Tryd.prog.cellsOf 5 = 1 := by kernel_rfl
    have c3 : Tryd.prog.cellsOf 3 = 1 := by kernel_rfl
    have c37 : Tryd.prog.cellsOf 37 = 1 := by kernel_rfl
    refine ⟨fun hp => ?_, by omega⟩
    have one : ∀ i, i < len → ∃ cs', W.cells? 0 (ad.add (i * 3)) 3 = some cs' ∧ DataW.trod enc Tryd.prog W 0 (fun _ => true) true n 55 cs' = some (D i, Pl i) := fun i hi => by
      obtain ⟨cs', h1, h2⟩ := hel i (by rw [hme]; simp; omega)
      rw [c55] at h1
      exact ⟨cs', h1, h2⟩
    obtain ⟨b, o, spot⟩ := ad
    obtain ⟨cs0, h0, _⟩ := one 0 hp
    obtain ⟨_, hlen0, hcell0⟩ := World.cells?_some h0
    have hs0 := hcell0 0 (by omega)
    rw [List.getElem?_eq_getElem (by omega)] at hs0
    have hspot : spot = none := by simpa [Addr.add] using World.cell?_spot hs0
    subst hspot
    refine ⟨b, o, rfl, fun i hi => ?_⟩
    obtain ⟨cs', h1, h2⟩ := one i hi
    obtain ⟨_, hlen, hcell⟩ := World.cells?_some h1
    rw [Addr.add_lit] at hcell
    match cs', hlen with
    | [x0, x1, x2], _ =>
      have e0 := hcell 0 (by omega)
      have e1 := hcell 1 (by omega)
      have e2 := hcell 2 (by omega)
      simp only [Addr.add_lit, Nat.add_zero, List.getElem?_cons_zero, List.getElem?_cons_succ] at e0 e1 e2
      obtain ⟨ys, m', _, hdy, _, hyl, hf⟩ := DataW.trod_struct Tryd.underlying55 h2
      have f0 := hf 0 { name := "Kind", type := 5, offset := 0, embedded := false, tag := "", pkgPath := "", byteOffset := 0 } rfl
      have f1 := hf 1 { name := "Back", type := 3, offset := 1, embedded := false, tag := "", pkgPath := "", byteOffset := 8 } rfl
      have f2 := hf 2 { name := "Body", type := 37, offset := 2, embedded := false, tag := "", pkgPath := "", byteOffset := 16 } rfl
      simp only [c5, c3, c37, List.drop_zero, List.drop_succ_cons, List.take_succ_cons, List.take_zero] at f0 f1 f2
      have hy : ys.length = 3 := hyl
      match ys, hy with
      | [y0, y1, y2], _ =>
        simp only [List.getElem?_cons_zero, List.getElem?_cons_succ] at f0 f1 f2
        obtain ⟨kd, g0, _, hwf⟩ := DataW.trod_int Tryd.underlying5 f0
        obtain ⟨bk, g1, _, _⟩ := DataW.trod_int Tryd.underlying3 f1
        obtain ⟨A, n', c', bs, g2, ⟨hn, hc, hm', hr⟩, hbig⟩ := bytes_of f2
        simp only [List.cons.injEq, and_true] at g0 g1
        subst g0 g1 g2
        have b0 : 0 ≤ kd ∧ kd ≤ 255 := by
          have hmin : IntKind.u8.min = 0 := rfl
          have hmax : IntKind.u8.max = 255 := rfl
          simp only [Lit.wf, Bool.and_eq_true, decide_eq_true_eq] at hwf
          omega
        have hwi : ∀ z ∈ (D i).weights Tryd.prog 55, z ≤ reachBytes := fun z hz => hw z (by
          simp only [DataW.weights, Tryd.underlying53]
          exact List.mem_cons_of_mem _ (List.mem_append_left _ (weightsAll_mem (List.mem_map_of_mem (List.mem_range.2 hi)) hz)))
        have hw2 : ∀ z ∈ y2.1.weights Tryd.prog 37, z ≤ reachBytes := fun z hz => hwi z (by
          rw [(Prod.mk.inj hdy).1]
          simp only [DataW.weights, Tryd.underlying55]
          exact DataW.weights_mem_each (j := 2) (t := 37) (d := y2.1) rfl rfl z hz)
        exact ⟨kd, bk, A, n', c', bs, e0, e1, e2, b0.1, b0.2, hc, hm', hbig hw2, hr⟩
end Go.Proofs.YtacoekniljimoaaDoor
