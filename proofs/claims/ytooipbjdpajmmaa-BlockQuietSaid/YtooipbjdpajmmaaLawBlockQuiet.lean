/- The row BlockQuiet of the seat Ytooipbjdpajmmaa: the machine's side (printed texts) and the plain law, joined. Conditions: those of the given statement, no others. -/
import Derived.Test.YtooipbjdpajmmaaRows
import Derived.Test.YtooipbjdpajmmaaHnx10
import Derived.Test.YtooipbjdpajmmaaHnx9
import Derived.Test.YtooipbjdpajmmaaHnx2
import Derived.Test.YtooipbjdpajmmaaHnx6
import Derived.Test.YtooipbjdpajmmaaPureBlockQuiet
import Derived.WalkKit
import Derived.ProofKit
import Derived.OpenShut
import Derived.ShutString
import Derived.ChangeOld
import Derived.Below
import Derived.SizedLaws
import Derived.Outline
import Derived.Laws.CopyOwn
import Derived.StillTailTactics
import Derived.Test.YtooipbjdpajmmaaWSized
namespace Go.Proofs.Ytooipbjdpajmmaa.blockQuiet
open Go.ChangeShapes Go.WideShapes Go.ChangeAt Go.RowKit Go.Proofs.Ytooipbjdpajmmaa.Hn Go.Proofs.YtooipbjdpajmmaaW.PrintWords Go.Proofs.YtooipbjdpajmmaaW.PrintLast Go.Proofs.YtooipbjdpajmmaaW.PrintMore
set_option linter.unusedVariables false
set_option linter.unusedSimpArgs false
theorem own : ownKnob Try.prog.godebug = none := by kernel_rfl
theorem laidOut : laidOutB Try.prog = true := by kernel_rfl
/-! ### a row of numbers, known whole -/
def rowV (l : List Int) : Array Value := (l.map (Value.int .i64)).toArray
theorem rowV_set (l : List Int) (i : Nat) (v : Int) : (rowV l).setIfInBounds i (.int .i64 v) = rowV (l.set i v) := by
  unfold rowV; rw [List.setIfInBounds_toArray, List.map_set]
theorem rowV_size (l : List Int) : (rowV l).size = l.length := by simp [rowV]
theorem rowV_get (l : List Int) (i : Nat) : (rowV l)[i]? = (l[i]?).map (Value.int .i64) := by simp [rowV]
theorem whole_below {W W' : World} {B : Nat} {t : TypeId} {vs : Array Value} (h : Whole W B t vs) (hb : Below W.heap.size W W') : Whole W' B t vs := (hb.block B (Array.getElem?_eq_some_iff.1 h).1).trans h
theorem whole_reads {w : World} {g : Nat} {l : List Int} (h : Whole w g 3 (rowV l)) (hl : l.length ≤ 8192) : Kd.C (Kd.int .i64) w (some ⟨g, 0, none⟩) l.length l := by
  refine ⟨rfl, by omega, fun _ => ⟨_, rfl, fun j p hj => ⟨[.int .i64 p], rfl, rfl, fun i u hu => ?_⟩⟩⟩
  cases i with
  | zero =>
    obtain rfl : Value.int .i64 p = u := by simpa using hu
    have e : (⟨g, 0, none⟩ : Addr).add (j * 1 + 0) = ⟨g, j, none⟩ := by rw [Nat.mul_one, Nat.add_zero, Addr.add_lit, Nat.zero_add]
    show w.cell? ((⟨g, 0, none⟩ : Addr).add (j * 1 + 0)) = _
    rw [e, h.cell, rowV_get, hj]
    rfl
  | succ i => simp at hu
theorem make_at (n : Nat) (hn : n ≤ 8192) : ∀ w : World, (Instr.makeSlice 22 (.int .i64 (n : Int)) (.int .i64 (n : Int))).run Try.prog w = .ok (.slice (some ⟨w.heap.size, 0, none⟩) n n) (w.alloc (.cells (rowV (List.replicate n 0)) 3)) := by
  intro w
  obtain ⟨i0, hi, hz⟩ : ∃ i0, Try.prog.info? 3 = some i0 ∧ (i0.zero, i0.size, i0.bytes) = (some (.int .i64 0), 1, 8) := by
    obtain ⟨i0, hi, hz⟩ := Option.map_eq_some_iff.1 info3
    exact ⟨i0, hi, hz⟩
  simp only [Prod.mk.injEq] at hz
  obtain ⟨hz0, hz1, hz2⟩ := hz
  have hr := run_make (P := Try.prog) w 22 3 i0 (.int .i64 0) Try.underlying22 hi hz0 .i64 .i64 (n : Int) (n : Int) (by omega) (by omega) (by rw [hz2]; omega) (by omega)
  rw [hr, hz1]
  congr 3
  simp only [madeCells, rowV, Value.cells, Nat.mod_one, List.map_replicate, Int.toNat_natCast, Nat.mul_one]
  refine Array.ext (by simp) (fun i h1 h2 => by simp [Nat.mod_one])
def fillL (v : Int) (n i : Nat) : List Int := List.replicate i v ++ List.replicate (n - i) 0
theorem fillL_length (v : Int) (n i : Nat) (h : i ≤ n) : (fillL v n i).length = n := by unfold fillL; simp; omega
theorem fillL_zero (v : Int) (n : Nat) : fillL v n 0 = List.replicate n 0 := by simp [fillL]
theorem fillL_all (v : Int) (n : Nat) : fillL v n n = List.replicate n v := by simp [fillL]
theorem fillL_set (v : Int) (n i : Nat) (h : i < n) : (fillL v n i).set i v = fillL v n (i + 1) := by
  unfold fillL
  rw [List.set_append_right _ _ (by simp), List.length_replicate, Nat.sub_self]
  obtain ⟨m, hm⟩ : ∃ m, n - i = m + 1 := ⟨n - i - 1, by omega⟩
  have hm' : n - (i + 1) = m := by omega
  rw [hm, hm', List.replicate_succ, List.set_cons_zero, List.replicate_succ', List.append_assoc]
  rfl
theorem mix_copy (l : List Int) (v : Int) (n c : Nat) (hl : l.length = n) (hc : c ≤ n) :
    ((rowV (List.replicate n v)).toList.take 0 ++ (((l.take c).map (Value.int .i64)) ++ (rowV (List.replicate n v)).toList.drop (0 + ((l.take c).map (Value.int .i64)).length))).toArray = rowV (Pure.mixL l v c) := by
  subst hl
  have e : (rowV (List.replicate l.length v)).toList = (List.replicate l.length v).map (Value.int .i64) := by simp [rowV]
  have h2 : ((l.take c).map (Value.int .i64)).length = c := by rw [List.length_map, List.length_take]; omega
  rw [e, h2, ← List.map_drop, List.drop_replicate]
  unfold Pure.mixL rowV
  rw [List.map_append]
  simp
theorem len_copy (l : List Int) (n c : Nat) (hl : l.length = n) : ((l.take c).map (Value.int .i64)).length = Nat.min c n := by rw [List.length_map, List.length_take, hl]
theorem fit_copy (l : List Int) (v : Int) (n c : Nat) (hl : l.length = n) : 0 + ((l.take c).map (Value.int .i64)).length ≤ (rowV (List.replicate n v)).size := by rw [len_copy l n c hl, rowV_size, List.length_replicate, Nat.zero_add]; exact Nat.min_le_right _ _
theorem one_copy (l : List Int) : ∀ v ∈ l.map (Value.int .i64), v.oneCell' = true := by
  intro v hv
  obtain ⟨x, _, rfl⟩ := List.mem_map.1 hv
  rfl
theorem src_cells {w : World} {A : Option Addr} {n : Nat} {l : List Int} (h : Kd.C (Kd.int .i64) w A n l) (hl : l.length = n) (hn : 0 < n) (c : Nat) : ∃ ad, A = some ad ∧ ∀ (j : Nat) (v : Value), ((l.take c).map (Value.int .i64))[j]? = some v → w.cell? (ad.add j) = some v := by
  obtain ⟨ad, e, _⟩ := Kd.at_int h 0 (by omega) (by omega)
  refine ⟨ad, e, fun j v hv => ?_⟩
  rw [List.getElem?_map] at hv
  obtain ⟨x, hx, rfl⟩ := Option.map_eq_some_iff.1 hv
  obtain ⟨hj, hx'⟩ := List.getElem?_eq_some_iff.1 hx
  rw [List.length_take] at hj
  rw [List.getElem_take] at hx'
  obtain ⟨ad2, e2, hc⟩ := Kd.at_int h (j : Int) (by omega) (by omega)
  rw [e] at e2
  cases e2
  rw [Int.toNat_natCast, Pure.rd_lt l j (by omega), hx'] at hc
  exact hc
theorem setRow_whole {W : World} {g : Nat} {t : TypeId} {vs cs : Array Value} (h : Whole W g t vs) : Whole (W.setRow g cs) g t cs := setRow_heap W g _ _ t _ h
/-! ### calls at a length that has a name -/
theorem within_at {w : World} {A : Option Addr} {n c : Nat} {l : List Int} (k : Nat) (hl : l.length = n) (hr : Kd.C (Kd.int .i64) w A n l) (hc : n ≤ c) (r : Bool) (h : shawmref06_Within.f k 65536 l = some r) :
    Calls Try.prog 23 #[.int .i64 65536, .slice A n c] w fun e w' => e = .returned (.bool r) ∧ Drawn0 w w' := by
  subst hl; exact shawmref06_Within.calls k 65536 A c l r w hr hc h
theorem attacks_at {w : World} {A : Option Addr} {n c : Nat} {l r : List Int} (k m : Nat) (hl : l.length = n) (hr : Kd.C (Kd.int .i64) w A n l) (hc : n ≤ c) (hm : r.length = m) (h : block_Attacks.f k l = some (r, 0)) :
    Calls Try.prog 18 #[.slice A n c] w fun e w' => ∃ (A' : Option Addr) (c' : Nat), e = .returned (.tuple #[.slice A' m c', .int .i64 0]) ∧ m ≤ c' ∧ Kd.C (Kd.int .i64) w' A' m r ∧ Below w.heap.size w w' := by
  subst hl hm
  refine (block_Attacks.calls k A c l r 0 w hr hc h).mono ?_
  rintro e w' ⟨v, rfl, ho, hb⟩
  obtain ⟨A', c', rfl, h1, h2⟩ := Kd.R_reads ho
  exact ⟨A', c', rfl, h1, h2, hb⟩
theorem take_reads {w : World} {A : Option Addr} {l : List Int} (m : Nat) (h : Kd.C (Kd.int .i64) w A l.length l) (hm : m ≤ l.length) : Kd.C (Kd.int .i64) w A m (l.take m) := by
  obtain ⟨h1, h2, h3⟩ := h
  refine ⟨by rw [List.length_take]; omega, by omega, fun hp => ?_⟩
  obtain ⟨ad, e, hc⟩ := h3 (by omega)
  refine ⟨ad, e, fun j p hj => hc j p ?_⟩
  rw [List.getElem?_take] at hj
  split at hj
  · exact hj
  · cases hj
theorem ints_at {w : World} {A A' : Option Addr} {n c m c' : Nat} {l l' : List Int} {r : Bool} (k : Nat) (hl : l.length = n) (hr : Kd.C (Kd.int .i64) w A n l) (hc : n ≤ c) (hl' : l'.length = m) (hr' : Kd.C (Kd.int .i64) w A' m l') (hc' : m ≤ c') (h : shawmref02_Ints.f k l l' = some r) :
    Calls Try.prog 15 #[.slice A n c, .slice A' m c'] w fun e w' => e = .returned (.bool r) ∧ Drawn0 w w' := by
  subst hl hl'; exact shawmref02_Ints.calls k A c l A' c' l' r w hr hc hr' hc' h
set_option maxRecDepth 100000 in
set_option maxHeartbeats 8000000 in
theorem walked (k : Nat) (A0 : Option Addr) (c0 n : Nat) (l0 : List Int) (v : Int) (cut p part : Nat) (A B C : List Int) (n0 nb nc : Nat) (w : World) (hln : l0.length = n) (hr0 : Kd.C (Kd.int .i64) w A0 n l0) (hc0 : n ≤ c0)
    (hp0 : n = 16 * p) (h128 : n % 128 = 0) (hn1 : 0 < n) (hn2 : n ≤ 8192) (hv1 : -65536 ≤ v) (hv2 : v ≤ 65536) (hcut : cut ≤ 65535) (hpart : cut % p = part) (hpp : part < p)
    (hA : block_Attacks.f k (List.replicate n v) = some (A, 0)) (hA2 : A = [] ∨ A = [0]) (hBf : block_Attacks.f k l0 = some (B, 0)) (hCf : block_Attacks.f k (Pure.mixL l0 v (16 * part + 16)) = some (C, 0))
    (hlB : B.length = nb) (hlC : C.length = nc) (hnB : n0 ≤ nb) (hnC : n0 ≤ nc) (hB5 : nb ≤ 512) (hC5 : nc ≤ 512) (hBi : ∀ i : Nat, i < nb → (rd B (i : Int) ≤ (part : Int) ↔ i < n0)) (hCi : ∀ i : Nat, i < nc → (rd C (i : Int) ≤ (part : Int) ↔ i < n0))
    (hI : shawmref02_Ints.f k (B.take n0) (C.take n0) = some true) (hW : shawmref06_Within.f k 65536 l0 = some true) :
    Calls Try.prog 5 #[.slice A0 n c0, .int .i64 v, .int .u16 (cut : Int)] w fun e w' => e = .returned (.bool true) ∧ Below w.heap.size w w' := by
  have hd1 : decide ((n : Int) > 8192) = false := decide_eq_false (by omega)
  have hd1' : decide (8192 < n) = false := decide_eq_false (by omega)
  have hm1 : (n : Int) % 128 = 0 := by omega
  have hz1 : ((n : Int) == 0) = false := beq_eq_false_iff_ne.2 (by omega)
  have hz2 : (n == 0) = false := beq_eq_false_iff_ne.2 (by omega)
  have hv3 : decide (v < -65536) = false := decide_eq_false (by omega)
  have hv4 : decide (65536 < v) = false := decide_eq_false (by omega)
  have HLN := Aside0.mk hln
  have HR := Aside0.mk hr0
  have HC := Aside0.mk hc0
  have HA := Aside0.mk hA
  have HA2 := Aside0.mk hA2
  have HBF := Aside0.mk hBf
  have HCF := Aside0.mk hCf
  have HNB := Aside0.mk hnB
  have HNC := Aside0.mk hnC
  have HB5 := Aside0.mk hB5
  have HC5 := Aside0.mk hC5
  have HLB := Aside0.mk hlB
  have HLC := Aside0.mk hlC
  have HBI := Aside0.mk hBi
  have HCI := Aside0.mk hCi
  have HI := Aside0.mk hI
  have HW := Aside0.mk hW
  have HP0 := Aside0.mk hp0
  have HPART := Aside0.mk hpart
  have HPP := Aside0.mk hpp
  have HN1 := Aside0.mk hn1
  have HN2 := Aside0.mk hn2
  have HCUT := Aside0.mk hcut
  have MK := make_at n hn2
  clear hln hr0 hc0 hA hA2 hBf hCf hlB hlC hnB hnC hB5 hC5 hBi hCi hI hW hp0 hpart hpp hn1 hn2 hcut h128
  go_enter Try.func5, Try.ntmps5
  go_upto_if 48 with (go_at_call 23; refine (within_at k HLN.out HR.out HC.out true HW.out).mono ?_; rintro e w' ⟨rfl, ⟨n1, rfl⟩⟩)
  go_upto_block 0 with (fail)
  clear hd1 hd1' hm1 hz1 hz2 hv3 hv4
  have HG0 := Aside0.mk (show Whole ((w.drewN n1).alloc (.cells (rowV (List.replicate n 0)) 3)) w.heap.size 3 (rowV (fillL v n 0)) from by rw [fillL_zero]; exact World.alloc_heap_new _ _)
  have HB0 := Aside0.mk (show Below w.heap.size w ((w.drewN n1).alloc (.cells (rowV (List.replicate n 0)) 3)) from (pw_below_drewN (Below.refl _ w) n1).alloc (Nat.le_refl _) _)
  go_wp2
  go_loopw [55] (fun i wr => ∃ q : Nat, i = .int .i64 (q : Int) ∧ Aside0 (q ≤ n) ∧ Aside0 (Whole wr w.heap.size 3 (rowV (fillL v n q))) ∧ Aside0 (Below w.heap.size w wr)) (fun i _ => n - (intOf i).toNat)
  case atStart => exact ⟨0, rfl, ⟨by omega⟩, HG0, HB0⟩
  case round =>
    obtain ⟨q, rfl, HQ, HG, HB⟩ := hrel
    by_cases hq : q < n
    · have hq1 : (q : Int) < (n : Int) := by omega
      have hn8 : (n : Int) ≤ 8192 := by have := HN2.out; omega
      have hcell := HG.out.cell q
      have hfr := HG.out.frozen q
      have hgc : (rowV (fillL v n q))[q]? = some (.int .i64 0) := by rw [rowV_get]; unfold fillL; rw [List.getElem?_append_right (by simp), List.length_replicate, Nat.sub_self, List.getElem?_replicate, if_pos (by omega)]; rfl
      rw [hgc] at hcell
      have HG1 := Aside0.mk (show Whole (wr.setCell ⟨w.heap.size, q, none⟩ (.int .i64 v)) w.heap.size 3 (rowV (fillL v n (q + 1))) from by
        have := HG.out.set q (.int .i64 v)
        rw [rowV_set, fillL_set v n q hq] at this
        exact this)
      have HB1 := Aside0.mk (below_set (j := q) (v := .int .i64 v) HB.out (Nat.le_refl _))
      have HQT := Aside0.mk hq
      clear hgc hq
      go_wp2
      go_roundw
      case rel => exact ⟨q + 1, by go_num, ⟨HQT.out⟩, HG1, HB1⟩
      case measure => have := HQT.out; simp [intOf]; omega
    · have hqn : n = q := by have := HQ.out; omega
      subst hqn
      have HG2 := Aside0.mk (show Whole wr w.heap.size 3 (rowV (List.replicate n v)) from by have := HG.out; rw [fillL_all] at this; exact this)
      clear HG HG0 HB0 hq
      have HRS := Aside0.mk (show Kd.C (Kd.int .i64) wr (some ⟨w.heap.size, 0, none⟩) n (List.replicate n v) from by have := whole_reads HG2.out (by simpa using HN2.out); simpa using this)
      go_upto_region 9 with (fail)
      obtain ⟨adl, eA, _⟩ := src_cells HR.out HLN.out HN1.out 0
      subst eA
      rcases HA2.out with hA0 | hA0
      case' inl =>
        subst hA0
        go_upto_region 12 with (go_at_call 18; refine (attacks_at k 0 (List.length_replicate ..) HRS.out (Nat.le_refl _) rfl HA.out).mono ?_; rintro e w2 ⟨A', c', rfl, ha1, ha2, hb2⟩; have HG3 := Aside0.mk (whole_below HG2.out hb2); have HB3 := Aside0.mk (below_step HB.out hb2); clear ha1 ha2 hb2 HB HG2)
      case' inr =>
        subst hA0
        go_upto_region 12 with (go_at_call 18; refine (attacks_at k 1 (List.length_replicate ..) HRS.out (Nat.le_refl _) rfl HA.out).mono ?_; rintro e w2 ⟨A', c', rfl, ha1, ha2, hb2⟩; have HG3 := Aside0.mk (whole_below HG2.out hb2); have HB3 := Aside0.mk (below_step HB.out hb2); obtain ⟨ad, e1, hx⟩ := Kd.at_int ha2 0 (by omega) (by omega); cases e1; rw [show rd [0] 0 = 0 from rfl, show ad.add (0 : Int).toNat = ad from rfl] at hx; clear ha1 ha2 hb2 HB HG2)
        clear hx
      all_goals
        have tQ : wrap64 ((n : Int) / 16) = (p : Int) := by have := HP0.out; have := HN2.out; unfold wrap64; omega
        have tP : (p : Int) ≠ 0 := by have := HP0.out; have := HN1.out; omega
        have tC : wrap64 (cut : Int) = (cut : Int) := by have := HCUT.out; unfold wrap64; omega
        have tM : (cut : Int).tmod (p : Int) = (part : Int) := by rw [← HPART.out]; rfl
        go_upto_region 13 with (fail)
        clear tQ tP tC tM
        have hp511 : (part : Int) ≤ 511 := by have := HP0.out; have := HN2.out; have := HPP.out; omega
        have hc16 : 16 * part + 16 ≤ n := by have := HP0.out; have := HPP.out; omega
        have hc16i : 16 * (part : Int) + 16 ≤ (n : Int) := by omega
        have hnc0 : (n : Int) ≤ (c0 : Int) := by have := HC.out; omega
        have HCW := Kd.C_below HR.out HB3.out
        obtain ⟨ad2, eA2, hsrc⟩ := src_cells HCW HLN.out HN1.out (16 * part + 16)
        cases eA2
        have HSRC := Aside0.mk hsrc
        have HC16 := Aside0.mk hc16
        clear hsrc HCW
        obtain ⟨i3, hi3⟩ : ∃ i, Try.prog.info? 3 = some i := by obtain ⟨i, h, _⟩ := Option.map_eq_some_iff.1 info3; exact ⟨i, h⟩
        have hcut := cut_to (P := Try.prog) 22 3 .i64 Try.underlying22 hi3 (some adl) n c0 (16 * (part : Int) + 16) (by omega) hc16i (by omega)
        go_upto_region 14 with (refine wpList_copy_own rfl (.tmp 92) (.tmp 97) 22 22 rfl 3 Try.underlying22 (by kernel_rfl) w.heap.size 0 n n adl (16 * part + 16) c0 rfl rfl (rowV (List.replicate n v)) 3 HG3.out ((l0.take (16 * part + 16)).map (Value.int .i64)) (len_copy l0 n _ HLN.out) HSRC.out (fit_copy l0 v n _ HLN.out) (one_copy _) ?_; rw [mix_copy l0 v n (16 * part + 16) HLN.out HC16.out])
        obtain ⟨W3, hW3⟩ : ∃ W3, W3 = w2.setRow w.heap.size (rowV (Pure.mixL l0 v (16 * part + 16))) := ⟨_, rfl⟩
        have HG4 := Aside0.mk (show Whole W3 w.heap.size 3 (rowV (Pure.mixL l0 v (16 * part + 16))) from by rw [hW3]; exact setRow_whole HG3.out)
        have HB4 := Aside0.mk (show Below w.heap.size w W3 from by rw [hW3]; exact below_setRow HB3.out (Nat.le_refl _) _)
        have HML := Aside0.mk (show (Pure.mixL l0 v (16 * part + 16)).length = n from by rw [Pure.mixL_length _ _ _ (by rw [HLN.out]; exact HC16.out)]; exact HLN.out)
        rw [← hW3]
        clear hW3 HG3 HB3 HSRC hcut hp511 hc16i hnc0 hc16 HRS
        go_upto_region 15 with (go_at_call 18; refine (attacks_at k nb HLN.out (Kd.C_below HR.out HB4.out) HC.out HLB.out HBF.out).mono ?_; rintro e w5 ⟨B', cB, rfl, hb1, hbr, hb2⟩; have HCB := Aside0.mk hb1; have HRB := Aside0.mk hbr; have HG5 := Aside0.mk (whole_below HG4.out hb2); have HB5' := Aside0.mk (below_step HB4.out hb2); clear hb1 hbr hb2 HG4 HB4)
        have HRM := Aside0.mk (show Kd.C (Kd.int .i64) w5 (some ⟨w.heap.size, 0, none⟩) n (Pure.mixL l0 v (16 * part + 16)) from by have := whole_reads HG5.out (by rw [HML.out]; exact HN2.out); rw [HML.out] at this; exact this)
        go_upto_block 2 with (go_at_call 18; refine (attacks_at k nc HML.out HRM.out (Nat.le_refl _) HLC.out HCF.out).mono ?_; rintro e w6 ⟨C', cC, rfl, hb1, hbr, hb2⟩; have HCC := Aside0.mk hb1; have HRC := Aside0.mk hbr; have HRB2 := Aside0.mk (Kd.C_below HRB.out hb2); have HB6 := Aside0.mk (below_step HB5'.out hb2); clear hb1 hbr hb2 HG5 HB5' HRB)
        go_wp2
        go_loopw [16, 117] (fun m x wr => ∃ i j : Nat, x = .int .i64 (i : Int) ∧ m = .int .i64 (j : Int) ∧ Aside0 (i ≤ nb ∧ j = min i n0) ∧ wr = w6) (fun _ x _ => nb - (intOf x).toNat)
        case atStart => exact ⟨0, 0, rfl, rfl, ⟨by omega, by omega⟩, by first | rfl | trivial⟩
        case round =>
          obtain ⟨i, j, rfl, rfl, HIJ, rfl⟩ := hrel
          have hp511 : (part : Int) ≤ 511 := by have := HP0.out; have := HN2.out; have := HPP.out; omega
          by_cases hi : i < nb
          · have hi1 : (i : Int) < (nb : Int) := by omega
            have hi5 : (nb : Int) ≤ 512 := by have := HB5.out; omega
            have hj5 : (j : Int) ≤ 512 := by have := HIJ.out; omega
            obtain ⟨ad', e1, hx⟩ := Kd.at_int HRB2.out (i : Int) (by omega) (by omega)
            cases e1
            rw [Int.toNat_natCast] at hx
            have hiff := HBI.out i hi
            obtain ⟨b, hb⟩ : ∃ b, b = rd B (i : Int) := ⟨_, rfl⟩
            rw [← hb] at hx hiff
            have HI1 := Aside0.mk hi
            clear hb hi
            by_cases hlt : i < n0
            · have hle : decide (b ≤ (part : Int)) = true := decide_eq_true (hiff.2 hlt)
              have HL := Aside0.mk hlt
              clear hiff hlt
              go_wp2
              go_roundw
              case rel => exact ⟨i + 1, j + 1, by go_num, by go_num, ⟨HI1.out, by have := HIJ.out; have := HL.out; omega⟩, by first | rfl | trivial⟩
              case measure => have := HI1.out; simp [intOf]; omega
            · have hle : decide (b ≤ (part : Int)) = false := decide_eq_false (fun h => hlt (hiff.1 h))
              have HL := Aside0.mk hlt
              clear hiff hlt
              go_wp2
              go_roundw
              case rel => exact ⟨i + 1, j, by go_num, rfl, ⟨HI1.out, by have := HIJ.out; have := HL.out; omega⟩, by first | rfl | trivial⟩
              case measure => have := HI1.out; simp [intOf]; omega
          · have hin : nb = i := by have := HIJ.out; omega
            have hjn : n0 = j := by have := HIJ.out; have := HNB.out; omega
            subst hin
            subst hjn
            clear hi
            go_upto_block 4 with (fail)
            go_wp2
            go_loopw [17, 129] (fun m x wr' => ∃ i j : Nat, x = .int .i64 (i : Int) ∧ m = .int .i64 (j : Int) ∧ Aside0 (i ≤ nc ∧ j = min i n0) ∧ wr' = wr) (fun _ x _ => nc - (intOf x).toNat)
            case atStart => exact ⟨0, 0, rfl, rfl, ⟨by omega, by omega⟩, by first | rfl | trivial⟩
            case round =>
              obtain ⟨i, j, rfl, rfl, HIJ2, rfl⟩ := hrel
              by_cases hi : i < nc
              · have hi1 : (i : Int) < (nc : Int) := by omega
                have hi5 : (nc : Int) ≤ 512 := by have := HC5.out; omega
                have hj5 : (j : Int) ≤ 512 := by have := HIJ2.out; omega
                obtain ⟨ad', e1, hx⟩ := Kd.at_int HRC.out (i : Int) (by omega) (by omega)
                cases e1
                rw [Int.toNat_natCast] at hx
                have hiff := HCI.out i hi
                obtain ⟨b, hb⟩ : ∃ b, b = rd C (i : Int) := ⟨_, rfl⟩
                rw [← hb] at hx hiff
                have HI1 := Aside0.mk hi
                clear hb hi
                by_cases hlt : i < n0
                · have hle : decide (b ≤ (part : Int)) = true := decide_eq_true (hiff.2 hlt)
                  have HL := Aside0.mk hlt
                  clear hiff hlt
                  go_wp2
                  go_roundw
                  case rel => exact ⟨i + 1, j + 1, by go_num, by go_num, ⟨HI1.out, by have := HIJ2.out; have := HL.out; omega⟩, by first | rfl | trivial⟩
                  case measure => have := HI1.out; simp [intOf]; omega
                · have hle : decide (b ≤ (part : Int)) = false := decide_eq_false (fun h => hlt (hiff.1 h))
                  have HL := Aside0.mk hlt
                  clear hiff hlt
                  go_wp2
                  go_roundw
                  case rel => exact ⟨i + 1, j, by go_num, rfl, ⟨HI1.out, by have := HIJ2.out; have := HL.out; omega⟩, by first | rfl | trivial⟩
                  case measure => have := HI1.out; simp [intOf]; omega
              · have hin : nc = i := by have := HIJ2.out; omega
                have hjn : n0 = j := by have := HIJ2.out; have := HNC.out; omega
                subst hin
                subst hjn
                clear hi
                have hn0b : (n0 : Int) ≤ (nb : Int) := by have := HNB.out; omega
                have hn0c : (n0 : Int) ≤ (nc : Int) := by have := HNC.out; omega
                have hnb5 : (nb : Int) ≤ 512 := by have := HB5.out; omega
                have hnc5 : (nc : Int) ≤ 512 := by have := HC5.out; omega
                obtain ⟨i3, hi3⟩ : ∃ i, Try.prog.info? 3 = some i := by obtain ⟨i, h, _⟩ := Option.map_eq_some_iff.1 info3; exact ⟨i, h⟩
                have hcutB := cut_to (P := Try.prog) 22 3 .i64 Try.underlying22 hi3 B' nb cB (n0 : Int) (by omega) hn0b HCB.out
                have hcutC := cut_to (P := Try.prog) 22 3 .i64 Try.underlying22 hi3 C' nc cC (n0 : Int) (by omega) hn0c HCC.out
                rw [Int.toNat_natCast] at hcutB hcutC
                have HTB := Aside0.mk (show Kd.C (Kd.int .i64) wr B' n0 (B.take n0) from by have h := HRB2.out; have e := HLB.out; subst e; exact take_reads n0 h HNB.out)
                have HTC := Aside0.mk (show Kd.C (Kd.int .i64) wr C' n0 (C.take n0) from by have h := HRC.out; have e := HLC.out; subst e; exact take_reads n0 h HNC.out)
                have HLB2 := Aside0.mk (show (B.take n0).length = n0 from by rw [List.length_take, HLB.out]; have := HNB.out; omega)
                have HLC2 := Aside0.mk (show (C.take n0).length = n0 from by rw [List.length_take, HLC.out]; have := HNC.out; omega)
                have HCB2 := Aside0.mk (show n0 ≤ cB from Nat.le_trans HNB.out HCB.out)
                have HCC2 := Aside0.mk (show n0 ≤ cC from Nat.le_trans HNC.out HCC.out)
                have HB := HB6
                clear HB6
                have HTB3 := Aside0.mk (Kd.C_drew HTB.out)
                have HTC3 := Aside0.mk (Kd.C_drew HTC.out)
                have HB3' := Aside0.mk (below_drew HB.out)
                go_upto_region 31 with (fail)
                go_still_tail 10, (by kernel_rfl)
                change wpList _ _ _ _ _ wr.drew
                go_wp2_with (first | (go_at_call 15; refine (ints_at k HLB2.out HTB3.out HCB2.out HLC2.out HTC3.out HCC2.out HI.out).mono ?_; rintro e w7 ⟨rfl, ⟨nd, rfl⟩⟩) | (go_at_call 12; refine (shawmlaw09_awake.calls true _ rfl).mono ?_; rintro e w8 ⟨rfl, hb⟩))
                go_ret
                exact ⟨rfl, below_step (pw_below_drewN HB.out _) hb⟩
set_option maxHeartbeats 4000000 in
theorem walked_no (k : Nat) (A0 : Option Addr) (c0 n : Nat) (l0 : List Int) (v : Int) (cut : Nat) (w : World) (hln : l0.length = n) (hr0 : Kd.C (Kd.int .i64) w A0 n l0) (hc0 : n ≤ c0)
    (h : 8192 < n ∨ (n ≤ 8192 ∧ (n % 128 ≠ 0 ∨ (n % 128 = 0 ∧ (n = 0 ∨ (n ≠ 0 ∧ (shawmref06_Within.f k 65536 l0 = some false ∨ (shawmref06_Within.f k 65536 l0 = some true ∧ (v < -65536 ∨ (-65536 ≤ v ∧ 65536 < v)))))))))) :
    Calls Try.prog 5 #[.slice A0 n c0, .int .i64 v, .int .u16 (cut : Int)] w fun e w' => e = .returned (.bool true) ∧ Below w.heap.size w w' := by
  have HLN := Aside0.mk hln
  have HR := Aside0.mk hr0
  have HC := Aside0.mk hc0
  clear hln hr0 hc0
  rcases h with h | ⟨hd, h⟩
  · have hd1 : decide ((n : Int) > 8192) = true := decide_eq_true (by omega)
    have hd1' : decide (8192 < n) = true := decide_eq_true h
    clear h
    go_enter Try.func5, Try.ntmps5
    go_wp2_with (go_at_call 12; refine (shawmlaw09_awake.calls true _ rfl).mono ?_; rintro e w' ⟨rfl, hb⟩)
    go_ret
    exact ⟨rfl, hb⟩
  · have hd1 : decide ((n : Int) > 8192) = false := decide_eq_false (by omega)
    have hd1' : decide (8192 < n) = false := decide_eq_false (by omega)
    clear hd
    rcases h with h | ⟨h0, h⟩
    · have hm1 : decide ((n : Int) % 128 > 0) = true := decide_eq_true (by omega)
      have hm2 : decide (0 < n % 128) = true := decide_eq_true (by omega)
      clear h
      go_enter Try.func5, Try.ntmps5
      go_wp2_with (go_at_call 12; refine (shawmlaw09_awake.calls true _ rfl).mono ?_; rintro e w' ⟨rfl, hb⟩)
      go_ret
      exact ⟨rfl, hb⟩
    · have hm1 : (n : Int) % 128 = 0 := by omega
      clear h0
      rcases h with h | ⟨h0, h⟩
      · subst h
        go_enter Try.func5, Try.ntmps5
        go_wp2_with (go_at_call 12; refine (shawmlaw09_awake.calls true _ rfl).mono ?_; rintro e w' ⟨rfl, hb⟩)
        go_ret
        exact ⟨rfl, hb⟩
      · have hz1 : ((n : Int) == 0) = false := beq_eq_false_iff_ne.2 (by omega)
        have hz2 : (n == 0) = false := beq_eq_false_iff_ne.2 (by omega)
        clear h0
        rcases h with h | ⟨h0, h⟩
        · have HW := Aside0.mk h
          clear h
          go_enter Try.func5, Try.ntmps5
          go_wp2_with (first | (go_at_call 23; refine (within_at k HLN.out HR.out HC.out false HW.out).mono ?_; rintro e w' ⟨rfl, ⟨n1, rfl⟩⟩) | (go_at_call 12; refine (shawmlaw09_awake.calls true _ rfl).mono ?_; rintro e w' ⟨rfl, hb⟩))
          go_ret
          exact ⟨rfl, below_step (pw_below_drewN (Below.refl _ w) _) hb⟩
        · have HW := Aside0.mk h0
          clear h0
          rcases h with h | ⟨h0, h⟩
          · have hv3 : decide (v < -65536) = true := decide_eq_true h
            clear h
            go_enter Try.func5, Try.ntmps5
            go_wp2_with (first | (go_at_call 23; refine (within_at k HLN.out HR.out HC.out true HW.out).mono ?_; rintro e w' ⟨rfl, ⟨n1, rfl⟩⟩) | (go_at_call 12; refine (shawmlaw09_awake.calls true _ rfl).mono ?_; rintro e w' ⟨rfl, hb⟩))
            go_ret
            exact ⟨rfl, below_step (pw_below_drewN (Below.refl _ w) _) hb⟩
          · have hv3 : decide (v < -65536) = false := decide_eq_false (by omega)
            have hv4 : decide (65536 < v) = true := decide_eq_true h
            clear h h0
            go_enter Try.func5, Try.ntmps5
            go_wp2_with (first | (go_at_call 23; refine (within_at k HLN.out HR.out HC.out true HW.out).mono ?_; rintro e w' ⟨rfl, ⟨n1, rfl⟩⟩) | (go_at_call 12; refine (shawmlaw09_awake.calls true _ rfl).mono ?_; rintro e w' ⟨rfl, hb⟩))
            go_ret
            exact ⟨rfl, below_step (pw_below_drewN (Below.refl _ w) _) hb⟩
theorem reads_none {α : Type} (d : Kd α) (w : World) : Kd.C d w none 0 [] := ⟨rfl, by omega, fun h => absurd h (by omega)⟩
/-- A slice of whole numbers that comes in, as a list that is read. -/
theorem reads_ints {w : World} {a : Addr} {len cap : Nat} {zs : List Int} (hl : len ≤ cap) (hm : cap ≤ maxLen) (hz : zs.length = cap) (h : ∀ i, i < zs.length → w.cell? (a.add i) = some (.int .i64 (zs.getD i 0))) :
    Kd.C (Kd.int .i64) w (some a) len (zs.take len) := by
  refine ⟨by simp; omega, by unfold maxLen at hm; omega, fun _ => ⟨a, rfl, fun j p hj => ⟨[.int .i64 p], rfl, rfl, fun i u hu => ?_⟩⟩⟩
  have hj' := (List.getElem?_eq_some_iff.1 hj).1
  rw [List.length_take] at hj'
  have hp : zs.getD j 0 = p := by
    rw [List.getElem?_take, if_pos (by omega)] at hj
    simp [List.getD_eq_getElem?_getD, hj]
  cases i with
  | zero =>
    obtain rfl : Value.int .i64 p = u := by simpa using hu
    rw [← hp]
    show w.cell? (a.add (j * 1 + 0)) = _
    rw [Nat.mul_one, Nat.add_zero]
    exact h j (by omega)
  | succ i => simp at hu
def IsInts (w : World) (a : Option Addr) (len cap : Nat) (zs : List Int) : Prop := zs.length = len ∧ len ≤ cap ∧ Kd.C (Kd.int .i64) w a len zs
theorem ints_of {H : Type} {enc : TypeId × Value → H} {W : World} {fuel : Nat} {v : Value} {x : DataW H × List MemPlace} (h : DataW.trod enc Try.prog W 0 (fun _ => true) true fuel 22 [v] = some x) :
    ∃ (a : Option Addr) (len cap : Nat) (zs : List Int), v = .slice a len cap ∧ IsInts W a len cap zs := by
  rcases open_ints Try.underlying22 Try.underlying3 (by kernel_rfl) h with ⟨hcs, _⟩ | ⟨x, l, c, zs, hcs, _, hl, hm, hz, _, hcell, hwz⟩
  · simp only [List.cons.injEq, and_true] at hcs
    exact ⟨none, 0, 0, [], hcs, rfl, by omega, reads_none _ _⟩
  · simp only [List.cons.injEq, and_true] at hcs
    have hz' : zs.length = c := by simpa using hz
    exact ⟨some x, l, c, zs.take l, hcs, by simp; omega, hl, reads_ints hl hm hz' hcell⟩
set_option maxRecDepth 100000 in
set_option maxHeartbeats 2000000 in
theorem lifted (os : Os) (started : os.Started) (H : Type) (enc : TypeId × Value → H) :
    ReturnsInHanded {} Try.checked os 5 .any (Rows.blockQuietSpec.pre6 enc Try.prog Try.f5 Rows.blockQuietRow.domain false) (Rows.blockQuietSpec.post enc Try.prog Try.f5 false true false false) := by
  refine returnsInHanded_of_change_sized (C := Try.checked) own started (by kernel_rfl) Try.func5
    (ChangeSpec.witness6 (enc := enc) (C := Try.checked) false ⟨#[], #[.slice none 0 0, .int .i64 0, .int .u16 0], []⟩ 8 (by kernel_rfl) (by kernel_rfl) (by kernel_rfl) (by kernel_rfl)) ?_
  intro W base args ds gs before hval0 hW hcnd hsz0 _
  have hval : ∀ (j : Nat) t v, Try.f5.params[j]? = some t → args[j]? = some v → Value.okWide Try.prog W .any base t v := hval0
  have hW' := hW
  obtain ⟨p, q, hA0, hV, rfl, hfz, hnd⟩ := hW
  have hA : DataW.TrodAll enc Try.prog W 0 (fun _ => true) true Try.f5.params.toList args.toList ds p := hA0
  rw [Try.params5] at hA hval
  obtain ⟨v0, vs0, d0, ds0, p0, q0, hargs, rfl, rfl, h0, r0⟩ := trodAll_cons hA
  obtain ⟨v1, vs1, d1, ds1, p1, q1, rfl, rfl, rfl, h1, r1⟩ := trodAll_cons r0
  obtain ⟨v2, vs2, d2, ds2, p2, q2, rfl, rfl, rfl, h2, r2⟩ := trodAll_cons r1
  obtain ⟨rfl, rfl, rfl⟩ := trodAll_nil r2
  obtain rfl : args = #[v0, v1, v2] := by cases args; simp_all
  obtain ⟨rfl, rfl⟩ := trodVars_none hV
  have k0 := h0
  have lt0 : ∀ x ∈ p0, x.block < W.heap.size := by obtain ⟨m, hm⟩ := k0; exact DataW.trod_lt m _ _ _ hm
  obtain ⟨a0, len0, cap0, rfl⟩ := okWide_slice Try.underlying22 (hval 0 22 v0 rfl rfl)
  obtain ⟨z0, rfl, c0, e0⟩ : ∃ zs, IsInts W a0 len0 cap0 zs := by
    obtain ⟨fuel, hf⟩ := h0
    obtain ⟨a', l', c', zs, e, hi⟩ := ints_of (v := .slice a0 len0 cap0) hf
    cases e
    exact ⟨zs, hi⟩
  obtain ⟨a1, rfl, rfl, rfl, w1⟩ := open_int Try.underlying3 (hval 1 3 v1 rfl rfl) h1
  obtain ⟨a2, rfl, rfl, rfl, w2⟩ := open_int Try.underlying34 (hval 2 34 v2 rfl rfl) h2
  clear hA0 hval0 hsz0
  have b2 : 0 ≤ a2 ∧ a2 ≤ 65535 := by
    have hmin : IntKind.u16.min = 0 := rfl
    have hmax : IntKind.u16.max = 65535 := rfl
    have hw := w2
    simp only [Lit.wf, Bool.and_eq_true, decide_eq_true_eq] at hw
    omega
  have W5 : Calls Try.prog 5 #[.slice a0 z0.length cap0, .int .i64 a1, .int .u16 a2] W fun e w' => e = .returned (.bool true) ∧ Below W.heap.size W w' := by
    obtain ⟨cut, rfl⟩ := Int.eq_ofNat_of_zero_le b2.1
    by_cases hl : z0.length ≤ 8192
    · by_cases hm : z0.length % 128 = 0
      · by_cases hz : z0.length = 0
        · exact walked_no 0 a0 cap0 z0.length z0 a1 cut W rfl e0 c0 (.inr ⟨hl, .inr ⟨hm, .inl hz⟩⟩)
        · obtain ⟨kW, hW⟩ := Pure.within_ev z0 hl
          by_cases hs : Samples z0
          · rw [decide_eq_true hs] at hW
            by_cases h3 : -65536 ≤ a1
            · by_cases h4 : a1 ≤ 65536
              · obtain ⟨p, hp⟩ : ∃ p, z0.length = 16 * p := ⟨z0.length / 16, by omega⟩
                have hpart : cut % p < p := Nat.mod_lt _ (by omega)
                obtain ⟨k, A, B, C, n0, f1, f2, f3, f4, f5, f6, f7, f8, f9, f10, f11, f12⟩ := Pure.BlockQuiet z0 a1 p (cut % p) hp (by omega) hl hs h3 h4 hpart
                exact walked k a0 cap0 z0.length z0 a1 cut p (cut % p) A B C n0 B.length C.length W rfl e0 c0 hp hm (by omega) hl h3 h4 (by omega) rfl hpart f1 f2 f3 f4 rfl rfl f5 f6 f7 f8 f9 f10 f11 f12
              · exact walked_no kW a0 cap0 z0.length z0 a1 cut W rfl e0 c0 (.inr ⟨hl, .inr ⟨hm, .inr ⟨hz, .inr ⟨hW _ (Nat.le_refl _), .inr ⟨h3, by omega⟩⟩⟩⟩⟩)
            · exact walked_no kW a0 cap0 z0.length z0 a1 cut W rfl e0 c0 (.inr ⟨hl, .inr ⟨hm, .inr ⟨hz, .inr ⟨hW _ (Nat.le_refl _), .inl (by omega)⟩⟩⟩⟩)
          · rw [decide_eq_false hs] at hW
            exact walked_no kW a0 cap0 z0.length z0 a1 cut W rfl e0 c0 (.inr ⟨hl, .inr ⟨hm, .inr ⟨hz, .inl (hW _ (Nat.le_refl _))⟩⟩⟩)
      · exact walked_no 0 a0 cap0 z0.length z0 a1 cut W rfl e0 c0 (.inr ⟨hl, .inl hm⟩)
    · exact walked_no 0 a0 cap0 z0.length z0 a1 cut W rfl e0 c0 (.inl (by omega))
  refine W5.mono fun e W' ⟨he, bel⟩ => ?_
  subst he
  exact ⟨_, rfl, _, _, _, [], _, [], hW', trodAll_mk1 (shut_bool Try.underlying4 _), (trodAll_cons_mk (Below.trod laidOut (by kernel_rfl) (of_decide_eq_true (by kernel_rfl)) k0 bel lt0) (trodAll_cons_mk (shut_int Try.underlying3 w1) (trodAll_cons_mk (shut_int Try.underlying34 w2) trodAll_mk0))), rfl, bel.frame _, fun h => by cases h⟩
theorem over : Rows.blockQuietRow.holds Try.pinned (OpenSpec.ofChange Rows.blockQuietSpec) :=
  OpenClaim.holds_of_wide 5 Try.f5 rfl rfl rfl rfl rfl rfl rfl ⟨rfl, rfl, rfl, rfl, rfl⟩ rfl rfl rfl rfl rfl (by kernel_rfl) Try.func5 (by kernel_rfl)
    (of_decide_eq_true (by kernel_rfl)) (by unfold Func.isWrapper; first | (rw [if_pos (by decide +kernel)]; kernel_rfl) | (rw [if_neg (by decide +kernel)]; exact ⟨rfl, rfl⟩))
    (fun os started H enc _ => lifted os started H enc)
theorem proved : Rows.BlockQuietSaid := over
#print axioms proved
end Go.Proofs.Ytooipbjdpajmmaa.blockQuiet
namespace Go.Proofs.Ytooipbjdpajmmaa
/-- The row, under a short name, for the claim. -/
theorem blockQuiet_holds : Rows.BlockQuietSaid := blockQuiet.proved
end Go.Proofs.Ytooipbjdpajmmaa
