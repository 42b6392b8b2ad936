/- Chapter 23: Add of a pool, whatever it is handed; rows that may be written. Conditions: none beyond each theorem's own. -/
import Derived.Test.YtacoekniljimoaaDoorPQ
namespace Go.Proofs.YtacoekniljimoaaDoor.Res
open Go.RowKit Go.Proofs.YtacoekniljimoaaDoorW.PrintWords Go.Proofs.YtacoekniljimoaaDoorW.PrintLast Go.Proofs.YtacoekniljimoaaDoorW.PrintMore
set_option linter.unusedVariables false
set_option linter.unusedSimpArgs false
set_option maxRecDepth 100000
/-- Bytes that may be written. -/
def Wr (w : World) (g n : Nat) : Prop := ∀ j, j < n → (∃ x, w.cell? ⟨g, j, none⟩ = some (.int .u8 x)) ∧ w.frozen? ⟨g, j, none⟩ = false
theorem Wr.set {w : World} {g n : Nat} (h : Wr w g n) (i : Nat) (v : Int) : Wr (w.setCell ⟨g, i, none⟩ (.int .u8 v)) g n := fun j hj => by
  obtain ⟨⟨x, hx⟩, hf⟩ := h j hj
  refine ⟨?_, by rw [World.frozen?_setCell]; exact hf⟩
  by_cases e : i = j
  · subst e
    exact ⟨v, World.cell?_setCell_same _ _ _ hx⟩
  · exact ⟨x, (World.cell?_setCell_other _ _ _ _ (fun h => e (by injection h))).trans hx⟩
theorem Wr.of_block {w w' : World} {g n : Nat} (h : Wr w g n) (hb : w'.heap[g]? = w.heap[g]?) : Wr w' g n := fun j hj => by
  obtain ⟨⟨x, hx⟩, hf⟩ := h j hj
  exact ⟨⟨x, (World.cell?_of_block (w := w) hb).trans hx⟩, (World.frozen?_of_block (w := w) hb).trans hf⟩
theorem Wr.of_R {w : World} {B g n c : Nat} {ok : Nat → Prop} {xs : List Int} (h : Kd.R (Kd.int .u8) 5 w B ok (.slice (some ⟨g, 0, none⟩) n c) xs) : Wr w g n := fun j hj => by
  obtain ⟨h1, h2⟩ := Kd.R_celln (0 : Int) h (j : Int) (by omega) (by omega)
  rw [Int.toNat_natCast] at h1 h2
  exact ⟨⟨_, h1⟩, h2⟩
/-- A row of one's own, from block B on. -/
def OwnR (w : World) (B : Nat) (A : Option Addr) (n : Nat) : Prop := 0 < n → ∃ g, A = some ⟨g, 0, none⟩ ∧ B ≤ g ∧ g < w.heap.size ∧ Wr w g n
theorem own_of_R {w : World} {B n c : Nat} {A : Option Addr} {ok : Nat → Prop} {xs : List Int} (h : Kd.R (Kd.int .u8) 5 w B ok (.slice A n c) xs) (hn : xs.length = n) : OwnR w B A n := fun hp => by
  obtain ⟨g, cap, ev, h1, h2, _⟩ := Kd.R_form h (by omega)
  injection ev with e1 e2 e3
  subst e1
  exact ⟨g, rfl, h1, h2, Wr.of_R h⟩
theorem OwnR.upd {w w' : World} {B n p : Nat} {A : Option Addr} (h : OwnR w B A n) (u : Upd p w w') (hp : p < B) : OwnR w' B A n := fun hn => by
  obtain ⟨g, e, h1, h2, h3⟩ := h hn
  exact ⟨g, e, h1, by have := u.size; omega, h3.of_block (u.block g h2 (by omega))⟩
theorem OwnR.below {w w' : World} {B n : Nat} {A : Option Addr} (h : OwnR w B A n) (u : Below w.heap.size w w') : OwnR w' B A n := fun hn => by
  obtain ⟨g, e, h1, h2, h3⟩ := h hn
  exact ⟨g, e, h1, by have := u.size; omega, h3.of_block (u.block g h2)⟩
/-- What an Add answers. -/
def Out (l bs : List Int) (bk : Int) (L D : List Int) (cd : Int) : Prop :=
  ((¬ (0 ≤ bk ∧ bk ≤ 511) ∨ 2047 < bs.length) ∧ L = l ∧ D = [] ∧ cd = 6) ∨
  ((0 ≤ bk ∧ bk ≤ 511) ∧ bs.length ≤ 2047 ∧ L = keepL l bs ∧ (((l.length : Int) < bk ∧ D = [] ∧ cd = 5) ∨ (bk ≤ (l.length : Int) ∧ D = (l ++ bs).drop (l.length - bk.toNat) ∧ cd = 0)))
theorem out_ex (l bs : List Int) (bk : Int) : ∃ L D cd, Out l bs bk L D cd ∧ D.length ≤ l.length + bs.length := by
  by_cases h : ¬ (0 ≤ bk ∧ bk ≤ 511) ∨ 2047 < bs.length
  · exact ⟨_, _, _, .inl ⟨h, rfl, rfl, rfl⟩, by simp⟩
  · have h1 : 0 ≤ bk ∧ bk ≤ 511 := by omega
    have h2 : bs.length ≤ 2047 := by omega
    by_cases h3 : (l.length : Int) < bk
    · exact ⟨_, _, _, .inr ⟨h1, h2, rfl, .inl ⟨h3, rfl, rfl⟩⟩, by simp⟩
    · exact ⟨_, _, _, .inr ⟨h1, h2, rfl, .inr ⟨by omega, rfl, rfl⟩⟩, by simp only [List.length_drop, List.length_append]; omega⟩
/-- What an Add does. -/
structure Gen (w w' : World) (q : Nat) (A : Option Addr) (l L D : List Int) (A' : Option Addr) (c' : Nat) (Av : Option Addr) (cv : Nat) : Prop where
  pool : Pool w' q A' c' L
  upd : Upd q w w'
  new : ∀ ad, A' = some ad → 0 < L.length → (w.heap.size ≤ ad.block ∧ ad.block ≠ q) ∨ (A' = A ∧ L = l)
  cap : D.length ≤ cv
  row : Kd.C (Kd.int .u8) w' Av D.length D
  own : OwnR w' w.heap.size Av D.length
  off : ∀ ad ad', A' = some ad → 0 < L.length → Av = some ad' → 0 < D.length → ad.block ≠ ad'.block
theorem gen_bad {w w' : World} {q c : Nat} {A : Option Addr} {l : List Int} (h : Pool w q A c l) (hb : Below w.heap.size w w') : Gen w w' q A l l [] A c none 0 :=
  { pool := h.below hb, upd := Upd.of_below hb, new := fun _ _ _ => Or.inr ⟨rfl, rfl⟩, cap := Nat.le_refl 0, row := C_empty w' none, own := fun h => absurd h (Nat.lt_irrefl 0), off := fun _ _ _ _ e => by cases e }
theorem gen_post {w w' : World} {q : Nat} {A : Option Addr} {l bs L D : List Int} {bk cd : Int} {e : Ending} (ho : Out l bs bk L D cd) (hbk : 0 ≤ bk ∧ bk ≤ 511) (hbs : bs.length ≤ 2047) (h : AddPost w q l bs bk e w') :
    ∃ A' c' Av cv, e = .returned (.tuple #[.slice Av D.length cv, .int .i64 cd]) ∧ Gen w w' q A l L D A' c' Av cv := by
  obtain ⟨A', c', ha, h⟩ := h
  rcases ho with ⟨h1, h2⟩ | ⟨h3, h4, h5, h1⟩
  · omega
  subst h5
  rcases h with ⟨hlt, rfl⟩ | ⟨hle, v, rfl, hd⟩
  · rcases h1 with ⟨_, rfl, rfl⟩ | ⟨_, _, _⟩
    · exact ⟨A', c', none, 0, rfl, ⟨ha.pool, ha.upd, fun ad e hn => .inl (ha.new ad e hn), Nat.le_refl 0, C_empty w' none, fun h => absurd h (Nat.lt_irrefl 0), fun _ _ _ _ e => by cases e⟩⟩
    · omega
  · rcases h1 with ⟨_, _, _⟩ | ⟨_, rfl, rfl⟩
    · omega
    · obtain ⟨Av, cv, rfl, h1, h2⟩ := hd.rd
      refine ⟨A', c', Av, cv, rfl, ⟨ha.pool, ha.upd, fun ad e hn => .inl (ha.new ad e hn), h1, h2, fun hp => ?_, fun ad ad' e hn e' hp => ?_⟩⟩
      · obtain ⟨B, hB, _, hR⟩ := hd.own hp
        obtain ⟨g, e, g1, g2, g3⟩ := own_of_R hR rfl hp
        exact ⟨g, e, Nat.le_trans hB g1, g2, g3⟩
      · obtain ⟨B, hB, hlt, hR⟩ := hd.own hp
        obtain ⟨g, eg, g1, _, _⟩ := own_of_R hR rfl hp
        have := hlt ad e hn
        rw [e'] at eg
        cases eg
        show ad.block ≠ g
        omega
section
variable {back : Int} {A Ab : Option Addr} {nb cb q c : Nat} {l bs L D : List Int} {cd : Int} {w : World}
theorem add_gen (hL : Lim w) (hP : Pool w q A c l) (hbs : Kd.C (Kd.int .u8) w Ab nb bs) (ho : Out l bs back L D cd) :
    Calls Tryd.prog 21 #[.pointer (some ⟨q, 0, none⟩), .int .i64 back, .slice Ab nb cb] w fun e w' => ∃ A' c' Av cv, e = .returned (.tuple #[.slice Av D.length cv, .int .i64 cd]) ∧ Gen w w' q A l L D A' c' Av cv := by
  have hlen : bs.length = nb := hbs.1
  by_cases h : ¬ (0 ≤ back ∧ back ≤ 511) ∨ 2047 < nb
  · refine (add_bad hL h).mono ?_
    rintro e w' ⟨rfl, hb⟩
    rcases ho with ⟨_, rfl, rfl, rfl⟩ | ⟨h3, h4, h5⟩
    · exact ⟨A, c, none, 0, rfl, gen_bad hP hb⟩
    · omega
  · exact (add_ok hL hP (by omega) hbs (by omega)).mono fun e w' hp => gen_post ho (by omega) (by omega) hp
theorem radd_gen (hP : Pool w q A c l) (hbs : Kd.C (Kd.int .u8) w Ab nb bs) (ho : Out l bs back L D cd) :
    Calls Tryd.prog 34 #[.pointer (some ⟨q, 0, none⟩), .int .i64 back, .slice Ab nb cb] w fun e w' => ∃ A' c' Av cv, e = .returned (.tuple #[.slice Av D.length cv, .int .i64 cd]) ∧ Gen w w' q A l L D A' c' Av cv := by
  have hlen : bs.length = nb := hbs.1
  by_cases h : ¬ (0 ≤ back ∧ back ≤ 511) ∨ 2047 < nb
  · refine (radd_bad h).mono ?_
    rintro e w' ⟨rfl, hb⟩
    rcases ho with ⟨_, rfl, rfl, rfl⟩ | ⟨h3, h4, h5⟩
    · exact ⟨A, c, none, 0, rfl, gen_bad hP (by first | exact hb | (subst hb; exact Below.refl _ _))⟩
    · omega
  · exact (radd_ok hP (by omega) hbs (by omega)).mono fun e w' hp => gen_post ho (by omega) (by omega) hp
end
/-- Two pools, behind an Add of each. -/
theorem PP.added {w wr w1 w2 : World} {p q c1 c2 c1' c2' cv1 cv2 : Nat} {A1 A2 A1' A2' Av1 Av2 : Option Addr} {l L D D' : List Int} (h : PP w wr p q A1 A2 c1 c2 l) (hw : 0 < w.heap.size) (g1 : Gen wr w1 p A1 l L D A1' c1' Av1 cv1) (g2 : Gen w1 w2 q A2 l L D' A2' c2' Av2 cv2) : PP w w2 p q A1' A2' c1' c2' L := by
  have hq := h.P2.lt
  have hp := h.P1.lt
  have hs := g1.upd.size
  have hb := h.bel.size
  have e1 : ∀ ad, A1' = some ad → 0 < L.length → w.heap.size ≤ ad.block ∧ ad.block ≠ q := fun ad e hn => by
    rcases g1.new ad e hn with h1 | ⟨rfl, rfl⟩
    · omega
    · exact h.n1 ad e hn
  have e2 : ∀ ad, A2' = some ad → 0 < L.length → w.heap.size ≤ ad.block ∧ ad.block ≠ p := fun ad e hn => by
    rcases g2.new ad e hn with h1 | ⟨rfl, rfl⟩
    · omega
    · exact h.n2 ad e hn
  exact ⟨g1.pool.other g2.upd h.ne (fun ad e hn => (e1 ad e hn).2), g2.pool, h.ne, h.wp, h.wq, e1, e2,
    Upd.below (Upd.below h.bel h.wp (Nat.le_refl _) g1.upd) h.wq (Nat.le_refl _) g2.upd, g2.upd.lim (h.pos hw).2 (g1.upd.lim (h.pos hw).1 h.lim)⟩
/-- A third pool, emptied, does not touch the two. -/
theorem PP.lost {w wr w1 : World} {p q r c1 c2 : Nat} {A1 A2 : Option Addr} {l : List Int} (h : PP w wr p q A1 A2 c1 c2 l) (hw : 0 < w.heap.size) (u : Upd r wr w1) (hr : w.heap.size ≤ r) (rp : p ≠ r) (rq : q ≠ r) (r1 : ∀ ad, A1 = some ad → 0 < l.length → ad.block ≠ r) (r2 : ∀ ad, A2 = some ad → 0 < l.length → ad.block ≠ r) : PP w w1 p q A1 A2 c1 c2 l :=
  h.spare (S := fun k => k = r) ⟨u.os, u.tape, u.output, u.size, u.block⟩ (fun k e => by subst e; exact hr) hw rp rq r1 r2
/-- Copies of the two. -/
theorem PP.copies {w wr w1 w2 : World} {p q p' q' c1 c2 c1' c2' : Nat} {A1 A2 A1' A2' : Option Addr} {l : List Int} (h : PP w wr p q A1 A2 c1 c2 l) (hp : wr.heap.size ≤ p') (P1 : Pool w1 p' A1' c1' l) (N1 : NewRow wr.heap.size p' A1' l.length) (b1 : Below wr.heap.size wr w1)
    (hq : w1.heap.size ≤ q') (P2 : Pool w2 q' A2' c2' l) (N2 : NewRow w1.heap.size q' A2' l.length) (b2 : Below w1.heap.size w1 w2) : PP w w2 p' q' A1' A2' c1' c2' l := by
  have hs := b1.size
  have hb := h.bel.size
  have hl := P1.lt
  exact ⟨P1.below b2, P2, by omega, by omega, by omega, fun ad e hn => by have := (N1 ad e hn).1; have := P1.rlt e hn; omega, fun ad e hn => by have := (N2 ad e hn).1; omega, below_step (below_step h.bel b1) b2, (h.lim.below' b1).below' b2⟩
theorem own_pick {w1 w5 : World} {B B' n : Nat} {A : Option Addr} (h : OwnR w1 B A n) (h' : OwnR w5 B' A n) : ∃ g, Aside0 (0 < n → A = some ⟨g, 0, none⟩ ∧ B ≤ g ∧ g < w1.heap.size ∧ Wr w5 g n) := by
  by_cases hp : 0 < n
  · obtain ⟨g, e, a1, a2, _⟩ := h hp
    obtain ⟨g', e', _, _, a3⟩ := h' hp
    rw [e] at e'
    cases e'
    exact ⟨g, ⟨fun _ => ⟨e, a1, a2, a3⟩⟩⟩
  · exact ⟨0, ⟨fun h => absurd h hp⟩⟩
/-- Of a world nothing but the bytes of two rows has turned. -/
structure Stored (w wt : World) (n g m g' : Nat) : Prop where
  upd : UpdS (fun k => (0 < n ∧ k = g) ∨ (0 < m ∧ k = g')) w wt
  one : 0 < n → Wr wt g n
  two : 0 < m → Wr wt g' m
theorem Stored.refl {w : World} {n g m g' : Nat} (h1 : 0 < n → Wr w g n) (h2 : 0 < m → Wr w g' m) : Stored w w n g m g' := ⟨UpdS.refl _ _, h1, h2⟩
theorem Wr.set' {w : World} {g n : Nat} (h : Wr w g n) (g' i : Nat) (v : Int) : Wr (w.setCell ⟨g', i, none⟩ (.int .u8 v)) g n := by
  by_cases e : g' = g
  · subst e
    exact h.set i v
  · exact h.of_block (Below.heap_setCell _ _ _ _ (fun h => e h.symm))
theorem Stored.set1 {w wt : World} {n g m g' : Nat} (h : Stored w wt n g m g') (hn : 0 < n) (i : Nat) (v : Int) : Stored w (wt.setCell ⟨g, i, none⟩ (.int .u8 v)) n g m g' :=
  ⟨h.upd.set (.inl ⟨hn, rfl⟩), fun h1 => (h.one h1).set' _ _ _, fun h1 => (h.two h1).set' _ _ _⟩
theorem Stored.set2 {w wt : World} {n g m g' : Nat} (h : Stored w wt n g m g') (hn : 0 < m) (i : Nat) (v : Int) : Stored w (wt.setCell ⟨g', i, none⟩ (.int .u8 v)) n g m g' :=
  ⟨h.upd.set (.inr ⟨hn, rfl⟩), fun h1 => (h.one h1).set' _ _ _, fun h1 => (h.two h1).set' _ _ _⟩
/-- A body, copied. -/
structure Cop (wr w1 : World) (A3 : Option Addr) (n : Nat) (bs : List Int) : Prop where
  row : Kd.C (Kd.int .u8) w1 A3 n bs
  own : OwnR w1 (wr.heap.size + 2) A3 n
  bel : Below wr.heap.size wr w1
  size : wr.heap.size + 2 ≤ w1.heap.size
theorem app_copy {w w1 : World} {o1 o2 : Obj} {A0 : Option Addr} {n : Nat} {l : List Int} {v : Value} (h : App ((w.alloc o1).alloc o2) w1 A0 0 n [] l v) : ∃ A1 c1, v = .slice A1 n c1 ∧ Cop w w1 A1 n l ∧ w1.heap[w.heap.size]? = (w.alloc o1).heap[w.heap.size]? := by
  obtain ⟨A1, c1, rfl, hc, hr, hz, hf⟩ := h.rd
  rw [Nat.zero_add, List.nil_append] at hr
  refine ⟨A1, c1, by rw [Nat.zero_add], ⟨hr, fun hp => ?_, below_step (below_alloc (below_alloc (Below.refl _ _) _) _) h.below, by have := h.below.size; simpa using this⟩, ?_⟩
  · have hR := h.own hp
    rw [List.nil_append] at hR
    have hl : l.length = n := hr.1
    rw [Nat.zero_add] at hR
    have := own_of_R hR hl hp
    simpa using this
  · rw [h.below.block w.heap.size (by simp; omega)]
    exact (below_alloc (Below.refl (w.alloc o1).heap.size (w.alloc o1)) o2).block _ (by simp)
theorem OwnR.row_upd {w w' : World} {B n p : Nat} {A : Option Addr} {xs : List Int} (h : OwnR w B A n) (hC : Kd.C (Kd.int .u8) w A n xs) (u : Upd p w w') (hp : p < B) : Kd.C (Kd.int .u8) w' A n xs := by
  refine C_block hC (fun ad e hn => ?_)
  obtain ⟨g, e', h1, h2, _⟩ := h hn
  rw [e] at e'
  cases e'
  exact u.block g h2 (by omega)
theorem cell_upd {w w' : World} {k p i : Nat} {v : Value} (u : Upd p w w') (hk : k < w.heap.size) (hp : k ≠ p) (h : w.cell? ⟨k, i, none⟩ = some v) : w'.cell? ⟨k, i, none⟩ = some v := (World.cell?_of_block (w := w) (u.block k hk hp)).trans h
/-- The stores do not reach the pools. -/
theorem stored_pools {w wr w1 w2 w3 w5 wt : World} {p q c1 c2 c1' c2' cv1 cv2 n g3 gD : Nat} {A1 A2 A1' A2' Av1 Av2 A3 : Option Addr} {l L D bs : List Int} (hw : 0 < w.heap.size) (hPQ : PP w wr p q A1 A2 c1 c2 l) (hc : Cop wr w1 A3 n bs)
    (hG1 : Gen w1 w2 p A1 l L D A1' c1' Av1 cv1) (hG2 : Gen w2 w3 q A2 l L D A2' c2' Av2 cv2) (h : PP w w5 p q A1' A2' c1' c2' L)
    (ha : 0 < n → A3 = some ⟨g3, 0, none⟩ ∧ wr.heap.size + 2 ≤ g3 ∧ g3 < w1.heap.size ∧ Wr w5 g3 n)
    (hd : 0 < D.length → Av1 = some ⟨gD, 0, none⟩ ∧ w1.heap.size ≤ gD ∧ gD < w2.heap.size ∧ Wr w5 gD D.length) (hs : Stored w5 wt n g3 D.length gD) : PP w wt p q A1' A2' c1' c2' L := by
  have hp := hPQ.P1.lt
  have hq := hPQ.P2.lt
  have hb := hPQ.bel.size
  have hz := hc.size
  have hz2 := hG1.upd.size
  have e3 : 0 < n → wr.heap.size + 2 ≤ g3 ∧ g3 < w1.heap.size := fun h => ⟨(ha h).2.1, (ha h).2.2.1⟩
  have eD : 0 < D.length → w1.heap.size ≤ gD ∧ gD < w2.heap.size := fun h => ⟨(hd h).2.1, (hd h).2.2.1⟩
  refine h.spare hs.upd ?_ hw ?_ ?_ ?_ ?_
  · rintro k (⟨hn, rfl⟩ | ⟨hn, rfl⟩)
    · have := e3 hn; omega
    · have := eD hn; omega
  · rintro (⟨hn, e⟩ | ⟨hn, e⟩)
    · have := e3 hn; omega
    · have := eD hn; omega
  · rintro (⟨hn, e⟩ | ⟨hn, e⟩)
    · have := e3 hn; omega
    · have := eD hn; omega
  · intro ad ead hL
    have h1 : w1.heap.size ≤ ad.block ∨ ad.block < wr.heap.size := by
      rcases hG1.new ad ead hL with h1 | ⟨rfl, rfl⟩
      · exact .inl h1.1
      · exact .inr (hPQ.P1.rlt ead hL)
    rintro (⟨hn, e⟩ | ⟨hn, e⟩)
    · have := e3 hn; omega
    · exact hG1.off ad ⟨gD, 0, none⟩ ead hL (hd hn).1 hn e
  · intro ad ead hL
    have h1 : w2.heap.size ≤ ad.block ∨ ad.block < wr.heap.size := by
      rcases hG2.new ad ead hL with h1 | ⟨rfl, rfl⟩
      · exact .inl h1.1
      · exact .inr (hPQ.P2.rlt ead hL)
    rintro (⟨hn, e⟩ | ⟨hn, e⟩)
    · have := e3 hn; omega
    · have := eD hn; omega
end Go.Proofs.YtacoekniljimoaaDoor.Res
