/- Closed facts, reckoned by Lean's kernel: the factors of both laps and of both transforms' sizes. No conditions. -/
import Derived.Test.YtooipbjdpajmmaaT
import Derived.Test.YtooipbjdpajmmaaHlx13
namespace Go.Proofs.Ytooipbjdpajmmaa.Laps
open Go.RowKit Go.Proofs.Ytooipbjdpajmmaa.Hl Go.Proofs.YtooipbjdpajmmaaW.PrintWords Go.Proofs.YtooipbjdpajmmaaW.PrintLast

/-- A lap's factors: m of them, each with few quarters. -/
def lapsOk (o : Option (List S70)) (m : Nat) : Bool := match o with
  | some ts => ts.length == m && (List.range m).all (fun i => decide ((rd_T70 ts (i : Int)).f0 ≤ 100))
  | none => false
abbrev PlanT := List S70 × Int × List S70 × Int × Int × Int
/-- The plan of a size 4 h: the factors are there, each with few quarters. -/
def planOk (o : Option PlanT) (h : Nat) : Bool := match o with
  | some p => p.1.length == 2 * h && (List.range (2 * h)).all (fun i => decide ((rd_T70 p.1 (i : Int)).f0 ≤ 100)) && decide (p.2.1 = ((2 * h : Nat) : Int)) && p.2.2.1.length == h && (List.range h).all (fun i => decide ((rd_T70 p.2.2.1 (i : Int)).f0 ≤ 100)) && decide (p.2.2.2.1 ≤ 100)
  | none => false
theorem laps_of {o : Option (List S70)} {m : Nat} (h : lapsOk o m = true) : ∃ ts, o = some ts ∧ Turns ts m := by
  cases o with
  | none => cases h
  | some ts =>
    unfold lapsOk at h
    simp only [Bool.and_eq_true, beq_iff_eq, List.all_eq_true, decide_eq_true_eq, List.mem_range] at h
    exact ⟨ts, rfl, h.1, fun i hi => h.2 i (by omega)⟩
/-- What is known of a plan of size 4 h. -/
structure Plan (p : PlanT) (h : Nat) : Prop where
  ends : Turns p.1 (2 * h)
  m : p.2.1 = ((2 * h : Nat) : Int)
  parts : Turns p.2.2.1 h
  eight : p.2.2.2.1 ≤ 100
theorem plan_of {o : Option PlanT} {h : Nat} (hp : planOk o h = true) : ∃ p, o = some p ∧ Plan p h := by
  cases o with
  | none => cases hp
  | some p =>
    unfold planOk at hp
    simp only [Bool.and_eq_true, beq_iff_eq, List.all_eq_true, decide_eq_true_eq, List.mem_range] at hp
    obtain ⟨⟨⟨⟨⟨h1, h2⟩, h3⟩, h4⟩, h5⟩, h6⟩ := hp
    exact ⟨p, rfl, ⟨h1, fun i hi => h2 i (by omega)⟩, h3, ⟨h4, fun i hi => h5 i (by omega)⟩, h6⟩
theorem laps16 : lapsOk (shawmref08_laps.f 300 16) 8 = true := by decide +kernel
theorem laps128 : lapsOk (shawmref08_laps.f 300 128) 64 = true := by decide +kernel
theorem plan16 : planOk (shawmref07_Of.f 300 16) 4 = true := by decide +kernel
theorem plan128 : planOk (shawmref07_Of.f 300 128) 32 = true := by decide +kernel
theorem lap16 : ∃ ts, shawmref08_laps.f 300 16 = some ts ∧ Turns ts 8 := laps_of laps16
theorem lap128 : ∃ ts, shawmref08_laps.f 300 128 = some ts ∧ Turns ts 64 := laps_of laps128
theorem of16 : ∃ p, shawmref07_Of.f 300 16 = some p ∧ Plan p 4 := plan_of plan16
theorem of128 : ∃ p, shawmref07_Of.f 300 128 = some p ∧ Plan p 32 := plan_of plan128
end Go.Proofs.Ytooipbjdpajmmaa.Laps
