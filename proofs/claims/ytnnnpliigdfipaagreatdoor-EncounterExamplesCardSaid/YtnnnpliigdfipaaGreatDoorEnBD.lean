/- encounter: the steps of Parse in plain words, and the worlds of its rounds. -/
import Derived.Test.YtnnnpliigdfipaaGreatDoorEnBA
import Derived.Test.YtnnnpliigdfipaaGreatDoorEnBB
import Derived.Test.YtnnnpliigdfipaaGreatDoorRB
import Derived.Test.YtnnnpliigdfipaaGreatDoorEnAA
import Derived.RangeFuncNested
import Derived.OwnWalkIn
import Derived.Maps.OwnIn
namespace Go.Proofs.YtnnnpliigdfipaaGreatDoor
open Go.RowKit Go.Shelf
theorem splitC_bd (c : UInt8) : ∀ l : List UInt8, (splitC c l).length ≤ l.length + 1 ∧ ∀ y ∈ splitC c l, y.length ≤ l.length
  | [] => by simp [splitC]
  | x :: l => by
    have ih := splitC_bd c l
    unfold splitC
    split
    · refine ⟨by simp; omega, fun y hy => ?_⟩
      rcases List.mem_cons.1 hy with rfl | hy
      · simp
      · have := ih.2 y hy; simp; omega
    · split
      · simp
      · rename_i h r e
        rw [e] at ih
        refine ⟨by have := ih.1; simp at this ⊢; omega, fun y hy => ?_⟩
        rcases List.mem_cons.1 hy with rfl | hy
        · have := ih.2 h (by simp); simp; omega
        · have := ih.2 y (by simp [hy]); simp; omega
theorem wds_bd (t : Tx) : (wdsT t).length ≤ t.length + 1 ∧ ∀ y ∈ wdsT t, y.length ≤ t.length := by
  by_cases ht : t = []
  · subst ht
    exact ⟨by decide, by decide⟩
  unfold wdsT
  have hc := (cut_len ht).1
  split
  · have := splitC_bd 32 (Lib.cut t [10]).1
    exact ⟨by omega, fun y hy => Nat.le_trans (this.2 y hy) hc⟩
  · exact ⟨by simp, fun y hy => by simp at hy⟩
theorem rd2_nil (p : Tx) : rd2 p [] = none := rfl
theorem crO_nil : crO [] = none := rfl
theorem goL_step {x : En} {k : Nat} {t : Tx} (ht : t ≠ []) : goL x k (splitC 10 t) = match stepE x (k == 1) (wdsT t) with | some y => goL y (k + 1) (splitC 10 (rstT t)) | none => .inl k := by
  unfold wdsT rstT
  rcases find_c 10 t with h | ⟨a, m, rfl, h⟩
  · rw [cut_none h, splitC_none h]
    have e : stepE x (k == 1) [] = none := by cases (k == 1) <;> simp [stepE, rd2_nil, crO_nil]
    simp only [Bool.false_eq_true, if_false, e, goL, if_neg ht]
  · rw [cut_at h, splitC_at h]
    obtain ⟨m', r, e⟩ : ∃ m' r, splitC 10 m = m' :: r := by
      cases hm : splitC 10 m with
      | nil => exact absurd hm (splitC_ne _ _)
      | cons m' r => exact ⟨m', r, rfl⟩
    simp only [if_true, e, goL]
    cases stepE x (k == 1) (splitC 32 a) <;> rfl
theorem step_first {x : En} {ws : List Tx} {a b : Int} (h : rd2 w_encounter ws = some (a, b)) : stepE x true ws = some { x with cy := a, gr := b } := by simp [stepE, h]
theorem step_first_no {x : En} {ws : List Tx} (h : rd2 w_encounter ws = none) : stepE x true ws = none := by simp [stepE, h]
theorem step_craft {x : En} {ws : List Tx} {c : Cr} (h : crO ws = some c) : stepE x false ws = some { x with cs := x.cs ++ [c] } := by simp [stepE, h]
theorem step_bare {x : En} {ws : List Tx} (h : crO ws = none) (h0 : x.cs = []) : stepE x false ws = none := by simp [stepE, h, h0]
theorem step_leg {x : En} {ws : List Tx} {l : Int × Int} (h : crO ws = none) (h0 : x.cs ≠ []) (hr : rd2 w_leg ws = some l) : stepE x false ws = some { x with cs := addL x.cs l } := by
  have : ¬ x.cs.length = 0 := fun e => h0 (List.length_eq_zero_iff.1 e)
  simp [stepE, h, h0, hr]
theorem step_leg_no {x : En} {ws : List Tx} (h : crO ws = none) (hr : rd2 w_leg ws = none) : stepE x false ws = none := by
  by_cases h0 : x.cs = [] <;> simp [stepE, h, h0, hr]
theorem pair69_ok (K : Nat) (A : Option Addr) (c : Nat) (ws : List Tx) (p : Tx) (w : World) (E : Env K w) (hK : K ≤ w.heap.size) (h : InT w w.heap.size A ws) (hc : ws.length ≤ c) (hl : ws.length ≤ 100000) (hw : ∀ x ∈ ws, x.length ≤ 100000) (a b : Int) (hr : rd2 p ws = some (a, b)) :
    Calls Tryz.prog 69 #[.slice A ws.length c, .string (S p)] w fun e w' => e = .returned (.tuple #[.int .i64 a, .int .i64 b, .bool true]) ∧ Below w.heap.size w w' := by
  refine (pair69 K A c ws p w E hK h hc hl hw).mono ?_
  rintro e w' ⟨⟨x, y, rfl, hxy⟩, hb⟩
  obtain ⟨rfl, rfl⟩ := hxy a b hr
  rw [hr]
  exact ⟨rfl, hb⟩
theorem pair69_no (K : Nat) (A : Option Addr) (c : Nat) (ws : List Tx) (p : Tx) (w : World) (E : Env K w) (hK : K ≤ w.heap.size) (h : InT w w.heap.size A ws) (hc : ws.length ≤ c) (hl : ws.length ≤ 100000) (hw : ∀ x ∈ ws, x.length ≤ 100000) (hr : rd2 p ws = none) :
    Calls Tryz.prog 69 #[.slice A ws.length c, .string (S p)] w fun e w' => (∃ a b : Int, e = .returned (.tuple #[.int .i64 a, .int .i64 b, .bool false])) ∧ Below w.heap.size w w' := by
  refine (pair69 K A c ws p w E hK h hc hl hw).mono ?_
  rintro e w' ⟨⟨x, y, rfl, -⟩, hb⟩
  rw [hr]
  exact ⟨⟨x, y, rfl⟩, hb⟩
def agC (d : Cr) : Value := .agg #[.int .i64 d.ad, .int .i64 d.p.x, .int .i64 d.p.y, .int .i64 d.p.z, .int .i64 d.v.x, .int .i64 d.v.y, .int .i64 d.v.z, .int .i64 d.pu, .slice none 0 0, .int .u8 d.mo, .int .i64 d.de, .int .i64 d.pp, .int .i64 d.mi]
theorem craft70_ok (K : Nat) (A : Option Addr) (c : Nat) (ws : List Tx) (w : World) (E : Env K w) (hK : K ≤ w.heap.size) (h : InT w w.heap.size A ws) (hc : ws.length ≤ c) (hl : ws.length ≤ 100000) (hw : ∀ x ∈ ws, x.length ≤ 100000) (d : Cr) (hr : crO ws = some d) :
    Calls Tryz.prog 70 #[.slice A ws.length c] w fun e w' => e = .returned (.tuple #[.agg #[.int .i64 d.ad, .int .i64 d.p.x, .int .i64 d.p.y, .int .i64 d.p.z, .int .i64 d.v.x, .int .i64 d.v.y, .int .i64 d.v.z, .int .i64 d.pu, .slice none 0 0, .int .u8 d.mo, .int .i64 d.de, .int .i64 d.pp, .int .i64 d.mi], .bool true]) ∧ Below w.heap.size w w' := by
  refine (craft70 K A c ws w E hK h hc hl hw).mono ?_
  rintro e w' ⟨⟨x, rfl, hx⟩, hb⟩
  obtain rfl := hx d hr
  rw [hr]
  exact ⟨rfl, hb⟩
theorem craft70_no (K : Nat) (A : Option Addr) (c : Nat) (ws : List Tx) (w : World) (E : Env K w) (hK : K ≤ w.heap.size) (h : InT w w.heap.size A ws) (hc : ws.length ≤ c) (hl : ws.length ≤ 100000) (hw : ∀ x ∈ ws, x.length ≤ 100000) (hr : crO ws = none) :
    Calls Tryz.prog 70 #[.slice A ws.length c] w fun e w' => (∃ d : Cr, e = .returned (.tuple #[.agg #[.int .i64 d.ad, .int .i64 d.p.x, .int .i64 d.p.y, .int .i64 d.p.z, .int .i64 d.v.x, .int .i64 d.v.y, .int .i64 d.v.z, .int .i64 d.pu, .slice none 0 0, .int .u8 d.mo, .int .i64 d.de, .int .i64 d.pp, .int .i64 d.mi], .bool false])) ∧ Below w.heap.size w w' := by
  refine (craft70 K A c ws w E hK h hc hl hw).mono ?_
  rintro e w' ⟨⟨x, rfl, -⟩, hb⟩
  rw [hr]
  exact ⟨⟨x, rfl⟩, hb⟩
/-- the boxes of Parse: three results, the encounter, the last line -/
structure PB (W : World) (g : Nat) (r1 r2 : Value) (cy gr : Int) (v : Value) (last : Int) : Prop where
  b0 : W.heap[g]? = some (.cells #[.int .i64 0, .int .i64 0, .slice none 0 0] 24 (0, 0))
  b1 : W.heap[g + 1]? = some (.cells #[r1] 3 (0, 0))
  b2 : W.heap[g + 1 + 1]? = some (.cells #[r2] 28 (0, 0))
  b3 : W.heap[g + 1 + 1 + 1]? = some (.cells #[.int .i64 cy, .int .i64 gr, v] 24 (0, 0))
  b4 : W.heap[g + 1 + 1 + 1 + 1]? = some (.cells #[.int .i64 last] 3 (0, 0))
theorem PB.grown {W W' : World} {g : Nat} {r1 r2 v : Value} {cy gr last : Int} {row : Option Nat} (h : PB W g r1 r2 cy gr v last) (hg : W.grownBy W' row) (hr : ∀ r, row = some r → r < g ∨ g + 5 ≤ r) : PB W' g r1 r2 cy gr v last where
  b0 := (hg.block _ (heap_lt h.b0) (fun e => by have := hr _ e.symm; omega)).trans h.b0
  b1 := (hg.block _ (heap_lt h.b1) (fun e => by have := hr _ e.symm; omega)).trans h.b1
  b2 := (hg.block _ (heap_lt h.b2) (fun e => by have := hr _ e.symm; omega)).trans h.b2
  b3 := (hg.block _ (heap_lt h.b3) (fun e => by have := hr _ e.symm; omega)).trans h.b3
  b4 := (hg.block _ (heap_lt h.b4) (fun e => by have := hr _ e.symm; omega)).trans h.b4
theorem PB.below {W W' : World} {g : Nat} {r1 r2 v : Value} {cy gr last : Int} (h : PB W g r1 r2 cy gr v last) (hb : Below W.heap.size W W') : PB W' g r1 r2 cy gr v last :=
  h.grown (row := none) ⟨hb.os, hb.tape, hb.output, hb.size, fun k hk _ => hb.block k hk⟩ (fun r e => by cases e)
theorem set_far (W : World) (b b' i : Nat) (u : Value) (h : b ≠ b') : (W.setCell ⟨b', i, none⟩ u).heap[b]? = W.heap[b]? := Below.heap_setCell _ _ _ _ (fun e => h (by simpa using e))
theorem PB.setX0 {W : World} {g : Nat} {r1 r2 v : Value} {cy gr last : Int} (h : PB W g r1 r2 cy gr v last) (a : Int) : PB (W.setCell ⟨g + 1 + 1 + 1, 0, none⟩ (.int .i64 a)) g r1 r2 a gr v last where
  b0 := (set_far _ _ _ _ _ (by omega)).trans h.b0
  b1 := (set_far _ _ _ _ _ (by omega)).trans h.b1
  b2 := (set_far _ _ _ _ _ (by omega)).trans h.b2
  b3 := setCell_heap _ _ _ _ _ _ _ h.b3
  b4 := (set_far _ _ _ _ _ (by omega)).trans h.b4
theorem PB.setX1 {W : World} {g : Nat} {r1 r2 v : Value} {cy gr last : Int} (h : PB W g r1 r2 cy gr v last) (a : Int) : PB (W.setCell ⟨g + 1 + 1 + 1, 1, none⟩ (.int .i64 a)) g r1 r2 cy a v last where
  b0 := (set_far _ _ _ _ _ (by omega)).trans h.b0
  b1 := (set_far _ _ _ _ _ (by omega)).trans h.b1
  b2 := (set_far _ _ _ _ _ (by omega)).trans h.b2
  b3 := setCell_heap _ _ _ _ _ _ _ h.b3
  b4 := (set_far _ _ _ _ _ (by omega)).trans h.b4
theorem PB.setX2 {W : World} {g : Nat} {r1 r2 v : Value} {cy gr last : Int} (h : PB W g r1 r2 cy gr v last) (a : Value) : PB (W.setCell ⟨g + 1 + 1 + 1, 2, none⟩ a) g r1 r2 cy gr a last where
  b0 := (set_far _ _ _ _ _ (by omega)).trans h.b0
  b1 := (set_far _ _ _ _ _ (by omega)).trans h.b1
  b2 := (set_far _ _ _ _ _ (by omega)).trans h.b2
  b3 := setCell_heap _ _ _ _ _ _ _ h.b3
  b4 := (set_far _ _ _ _ _ (by omega)).trans h.b4
theorem PB.setL {W : World} {g : Nat} {r1 r2 v : Value} {cy gr last : Int} (h : PB W g r1 r2 cy gr v last) (a : Int) : PB (W.setCell ⟨g + 1 + 1 + 1 + 1, 0, none⟩ (.int .i64 a)) g r1 r2 cy gr v a where
  b0 := (set_far _ _ _ _ _ (by omega)).trans h.b0
  b1 := (set_far _ _ _ _ _ (by omega)).trans h.b1
  b2 := (set_far _ _ _ _ _ (by omega)).trans h.b2
  b3 := (set_far _ _ _ _ _ (by omega)).trans h.b3
  b4 := setCell_heap _ _ _ _ _ _ _ h.b4
theorem PB.cells {W : World} {g : Nat} {r1 r2 v : Value} {cy gr last : Int} (h : PB W g r1 r2 cy gr v last) :
    (W.cell? ⟨g, 0, none⟩ = some (.int .i64 0) ∧ W.cell? ⟨g, 1, none⟩ = some (.int .i64 0) ∧ W.cell? ⟨g, 2, none⟩ = some (.slice none 0 0) ∧ W.cell? ⟨g + 1, 0, none⟩ = some r1 ∧ W.cell? ⟨g + 1 + 1, 0, none⟩ = some r2) ∧
    (W.cell? ⟨g + 1 + 1 + 1, 0, none⟩ = some (.int .i64 cy) ∧ W.cell? ⟨g + 1 + 1 + 1, 1, none⟩ = some (.int .i64 gr) ∧ W.cell? ⟨g + 1 + 1 + 1, 2, none⟩ = some v ∧ W.cell? ⟨g + 1 + 1 + 1 + 1, 0, none⟩ = some (.int .i64 last)) ∧
    (∀ i, W.frozen? ⟨g, i, none⟩ = false) ∧ (∀ i, W.frozen? ⟨g + 1, i, none⟩ = false) ∧ (∀ i, W.frozen? ⟨g + 1 + 1, i, none⟩ = false) ∧ (∀ i, W.frozen? ⟨g + 1 + 1 + 1, i, none⟩ = false) ∧ (∀ i, W.frozen? ⟨g + 1 + 1 + 1 + 1, i, none⟩ = false) := by
  refine ⟨⟨?_, ?_, ?_, ?_, ?_⟩, ⟨?_, ?_, ?_, ?_⟩, ?_, ?_, ?_, ?_, ?_⟩ <;> simp [World.cell?, World.frozen?, h.b0, h.b1, h.b2, h.b3, h.b4]
/-- from a round's beginning on: what lies ahead of g, the text's box, and whatever is no cells, are kept -/
structure Rel (g : Nat) (W W' : World) : Prop where
  below : Below g W W'
  size : W.heap.size ≤ W'.heap.size
  cell : W'.heap[g + 5]? = W.heap[g + 5]?
  same : ∀ (k : Nat) (o : Obj), g + 6 ≤ k → W.heap[k]? = some o → o.isCells = false → W'.heap[k]? = some o
theorem Rel.refl (g : Nat) (W : World) : Rel g W W := ⟨Below.refl _ _, Nat.le_refl _, rfl, fun _ _ _ h _ => h⟩
theorem Rel.trans {g : Nat} {X Y Z : World} (h : Rel g X Y) (k : Rel g Y Z) : Rel g X Z :=
  ⟨h.below.trans k.below, Nat.le_trans h.size k.size, k.cell.trans h.cell, fun i o hi ho hc => k.same i o hi (h.same i o hi ho hc) hc⟩
theorem Rel.of_grown {g : Nat} {W W' : World} {row : Option Nat} (hg : W.grownBy W' row) (hs : g + 6 ≤ W.heap.size) (hr : ∀ r, row = some r → g ≤ r ∧ r ≠ g + 5 ∧ (g + 6 ≤ r → ∃ cs e f, W.heap[r]? = some (.cells cs e f))) : Rel g W W' where
  below := ⟨hg.os, hg.tape, hg.output, hg.size, fun i hi => hg.block i (by omega) (fun e => by have := (hr i e.symm).1; omega)⟩
  size := hg.size
  cell := hg.block _ (by omega) (fun e => by have := (hr _ e.symm).2.1; omega)
  same := fun k o hk ho hc => (hg.block k (heap_lt ho) (fun e => by
    obtain ⟨cs, e', f, hh⟩ := (hr k e.symm).2.2 hk
    rw [hh] at ho
    cases ho
    cases hc)).trans ho
theorem Rel.of_below {g : Nat} {W W' : World} (hb : Below W.heap.size W W') (hs : g + 6 ≤ W.heap.size) : Rel g W W' :=
  Rel.of_grown (row := none) ⟨hb.os, hb.tape, hb.output, hb.size, fun k hk _ => hb.block k hk⟩ hs (fun r e => by cases e)
theorem Rel.alloc {g : Nat} {W W' : World} (h : Rel g W W') (hs : g + 6 ≤ W.heap.size) (o : Obj) : Rel g W (W'.alloc o) :=
  h.trans (Rel.of_grown (row := none) (World.grownBy_alloc _ _ _) (by have := h.size; omega) (fun r e => by cases e))
theorem Rel.set {g b i : Nat} {W W' : World} (h : Rel g W W') (hs : g + 6 ≤ W.heap.size) (u : Value) (hb : g ≤ b) (hb' : b < g + 5) : Rel g W (W'.setCell ⟨b, i, none⟩ u) :=
  h.trans (Rel.of_grown (grownBy_set _ _ _ _) (by have := h.size; omega) (fun r e => by cases e; exact ⟨hb, by omega, fun h => by omega⟩))
theorem PS.far {w : World} {n0 b i : Nat} {v u : Value} {cs : List Cr} {lvs : List Value} {Bl : Nat} {cur : Array Value} {e : TypeId} {f : Nat × Nat} (h : PS w n0 v cs lvs Bl) (hb : w.heap[b]? = some (.cells cur e f)) (h1 : e ≠ 63) (h2 : e ≠ 54) : PS (w.setCell ⟨b, i, none⟩ u) n0 v cs lvs Bl :=
  h.grown (grownBy_set _ _ _ _) (fun r hr cs' e' f' he => by
    cases hr
    rw [hb] at he
    cases he
    exact ⟨h1, h2⟩)
theorem Rel.keeps {g B : Nat} {W W' : World} (h : Rel g W W') (hB : B = g + 6) : KeepsFrom B W W' := ⟨h.size, fun k o hk => h.same k o (by omega)⟩
theorem PB.bad {W : World} {g : Nat} {r1 r2 v : Value} {cy gr last : Int} (h : PB W g r1 r2 cy gr v last) (n : Int) :
    PB (((((W.setCell ⟨g, 0, none⟩ (.int .i64 0)).setCell ⟨g, 1, none⟩ (.int .i64 0)).setCell ⟨g, 2, none⟩ (.slice none 0 0)).setCell ⟨g + 1, 0, none⟩ (.int .i64 n)).setCell ⟨g + 1 + 1, 0, none⟩ (.int .i64 2)) g (.int .i64 n) (.int .i64 2) cy gr v last where
  b0 := by
    rw [set_far _ _ _ _ _ (by omega), set_far _ _ _ _ _ (by omega)]
    exact setCell_heap _ _ _ _ _ _ _ (setCell_heap _ _ _ _ _ _ _ (setCell_heap _ _ _ _ _ _ _ h.b0))
  b1 := by
    rw [set_far _ _ _ _ _ (by omega)]
    refine setCell_heap _ _ _ #[r1] _ _ _ ?_
    rw [set_far _ _ _ _ _ (by omega), set_far _ _ _ _ _ (by omega), set_far _ _ _ _ _ (by omega)]
    exact h.b1
  b2 := by
    refine setCell_heap _ _ _ #[r2] _ _ _ ?_
    rw [set_far _ _ _ _ _ (by omega), set_far _ _ _ _ _ (by omega), set_far _ _ _ _ _ (by omega), set_far _ _ _ _ _ (by omega)]
    exact h.b2
  b3 := by
    rw [set_far _ _ _ _ _ (by omega), set_far _ _ _ _ _ (by omega), set_far _ _ _ _ _ (by omega), set_far _ _ _ _ _ (by omega), set_far _ _ _ _ _ (by omega)]
    exact h.b3
  b4 := by
    rw [set_far _ _ _ _ _ (by omega), set_far _ _ _ _ _ (by omega), set_far _ _ _ _ _ (by omega), set_far _ _ _ _ _ (by omega), set_far _ _ _ _ _ (by omega)]
    exact h.b4
theorem Rel.bad {g : Nat} {W W' : World} (h : Rel g W W') (hs : g + 6 ≤ W.heap.size) (n : Int) :
    Rel g W (((((W'.setCell ⟨g, 0, none⟩ (.int .i64 0)).setCell ⟨g, 1, none⟩ (.int .i64 0)).setCell ⟨g, 2, none⟩ (.slice none 0 0)).setCell ⟨g + 1, 0, none⟩ (.int .i64 n)).setCell ⟨g + 1 + 1, 0, none⟩ (.int .i64 2)) :=
  ((((h.set hs _ (by omega) (by omega)).set hs _ (by omega) (by omega)).set hs _ (by omega) (by omega)).set hs _ (by omega) (by omega)).set hs _ (by omega) (by omega)
theorem PS.last {w : World} {n0 : Nat} {A : Option Addr} {cap : Nat} {cs : List Cr} {lvs : List Value} {Bl : Nat} (h : PS w n0 (.slice A cs.length cap) cs lvs Bl) (h0 : 0 < cs.length) :
    ∃ (g : Nat) (init : List Cr) (cl : Cr) (linit : List Value) (LA : Option Addr) (lcap : Nat), A = some ⟨g, 0, none⟩ ∧ n0 ≤ g ∧ cs = init ++ [cl] ∧ lvs = linit ++ [.slice LA cl.lg.length lcap] ∧ w.cell? ⟨g, init.length * 13 + 8, none⟩ = some (.slice LA cl.lg.length lcap) ∧ (∀ i, w.frozen? ⟨g, i, none⟩ = false) ∧ w.ownsRow Bl 54 2 (.slice LA cl.lg.length lcap) cl.lg.length ((flat cl.lg).map (Value.int .i64)) := by
  obtain ⟨A', cap', e, -, hA⟩ := ownsRow_form h.row
  injection e with e1 e2 e3
  subst e1 e3
  obtain ⟨g, rfl, hg, -, ⟨cur, hcur⟩, hc⟩ := hA h0
  have hl0 : cs ≠ [] := fun e => by rw [e] at h0; simp at h0
  have hlen := h.len
  have hl1 : lvs ≠ [] := fun e => by rw [e] at hlen; simp at hlen; omega
  obtain ⟨init, cl, rfl⟩ : ∃ init cl, cs = init ++ [cl] := ⟨_, _, (List.dropLast_concat_getLast hl0).symm⟩
  obtain ⟨linit, lv, rfl⟩ : ∃ linit lv, lvs = linit ++ [lv] := ⟨_, _, (List.dropLast_concat_getLast hl1).symm⟩
  have hl2 : linit.length = init.length := by simpa using hlen
  obtain ⟨B, h1, h2, h3⟩ := h.legs init.length cl lv (by simp) (by rw [← hl2]; simp)
  obtain ⟨LA, lcap, rfl, -, -⟩ := ownsRow_form h2
  refine ⟨g, init, cl, linit, LA, lcap, rfl, hg, rfl, rfl, hc _ _ (crsV_at _ _ init.length cl _ 8 (by simp) (by rw [← hl2]; simp) (by omega)), fun i => by simp [World.frozen?, hcur], ?_⟩
  rw [← h3 (by simp)]
  exact h2
theorem ownsRow_own {w : World} {base : Nat} {e : TypeId} {size n : Nat} {v : Value} {xs : List Value} (h : w.ownsRow base e size v n xs) {r : Nat} (hk : v.ownBlock = some r) : base ≤ r ∧ r < w.heap.size ∧ ∃ cur, w.heap[r]? = some (.cells cur e (0, 0)) := by
  rcases h.2 with ⟨rfl, _⟩ | ⟨g, cap, cur, rfl, hb, hg, -⟩
  · cases hk
  · simp only [Value.ownBlock, Option.some.injEq] at hk
    subst hk
    exact ⟨hb, heap_lt hg, cur, hg⟩
theorem own_ne {w : World} {B B' s s' n n' : Nat} {e e' : TypeId} {v v' : Value} {xs xs' : List Value} (h : w.ownsRow B e s v n xs) (h' : w.ownsRow B' e' s' v' n' xs') (hne : e ≠ e') {k : Nat} (hk : v.ownBlock = some k) : some k ≠ v'.ownBlock := by
  intro e0
  obtain ⟨-, -, cur, h1⟩ := ownsRow_own h hk
  obtain ⟨-, -, cur', h2⟩ := ownsRow_own h' e0.symm
  rw [h1] at h2
  cases h2
  exact hne rfl
theorem Rel.of_row {g : Nat} {W W' : World} {e : TypeId} {base size n : Nat} {v : Value} {xs : List Value} (hg : W.grownBy W' v.ownBlock) (h : W.ownsRow base e size v n xs) (hb : g + 6 ≤ base) (hs : g + 6 ≤ W.heap.size) : Rel g W W' :=
  Rel.of_grown hg hs (fun r hr => by
    obtain ⟨h1, -, cur, h2⟩ := ownsRow_own h hr
    exact ⟨by omega, by omega, fun _ => ⟨_, _, _, h2⟩⟩)
theorem q1le {w : World} {n0 : Nat} {v : Value} {cs init : List Cr} {cl : Cr} {lvs linit : List Value} {lv : Value} {Bl : Nat} (h : PS w n0 v cs lvs Bl) (hc : cs = init ++ [cl]) (hl : lvs = linit ++ [lv]) : n0 ≤ Bl := by
  subst hc hl
  have hlen : linit.length = init.length := by have := h.len; simpa using this
  obtain ⟨B, h1, -, h3⟩ := h.legs init.length cl lv (by simp) (by rw [← hlen]; simp)
  rw [← h3 (by simp)]
  exact h1
/-- 'append' of one element onto a row of the call's own, inside a fence. -/
theorem wpListIn_appV {F : Fence} {m : Nat} {P : Program} {ops : Array Oper} {rest : List Oper} {o : Oper} {a : Act} {Q : Exit → Act → World → Prop} {w : World} (hgd : o.guard = none) (s x : Operand) (t : TypeId)
    (ho : o.op = .call { callee := .builtin .append, args := #[s, x], argTypes := #[t, t] })
    (base : Nat) (e : TypeId) (i : TypeInfo) (z : Value) (size bytes : Nat) (ht : P.underlying t = some (.slice e)) (hi : P.info? e = some i) (hz : i.zero = some z)
    (hsize : i.size = size) (hby : i.bytes = bytes) (hzs : z.cells.size = size) (hsz : 0 < size)
    (v : Value) (n : Nat) (vs news : List Value) (hs : a.eval s = v) (hown : w.ownsRow base e size v n vs)
    (ob : Obj) (hob : ob = .cells news.toArray e) (H : Nat) (hH : w.heap.size = H) (hx : a.eval x = .slice (some ⟨H, 0, none⟩) 1 1) (hl : news.length = size) (h1 : ∀ u ∈ news, u.oneCell' = true)
    (hn : n ≤ 1000000) (hb1 : bytes ≤ 1000) (hbase : base ≤ w.heap.size)
    (h : ∀ v' w', w'.ownsRow base e size v' (n + 1) (vs ++ news) → (w.alloc ob).grownBy w' v.ownBlock → wpListIn F m P ops Q rest (a.put o.dst v') w') : wpListIn F m P ops Q (o :: rest) a (w.alloc ob) := by
  subst hob
  subst hH
  have hbytes : (n + 1) * bytes ≤ 1000001 * 1000 := Nat.mul_le_mul (by omega) hb1
  refine wpListIn_append_own _ hgd s x t ho base e i z size bytes ht hi hz hsize hby hzs hsz v n _ hs (World.ownsRow.alloc hown _) ⟨w.heap.size, 0, none⟩ 1 1 news hx (by simp [hl]) (by
    have := World.news_of_block (w := w.alloc (.cells news.toArray e)) (B := w.heap.size) (cs := news.toArray) (t := e) (fr := (0, 0)) (heap_alloc_new _ _)
    simpa using this) h1 (by unfold maxLen; omega) (by omega) (by simp; omega) ?_
  intro v' w' hown' hg _
  exact h v' w' hown' hg
theorem Craft_info : (Tryz.prog.info? 63).map (fun i => (i.zero, i.size, i.bytes)) = some (some (.agg #[.int .i64 0, .int .i64 0, .int .i64 0, .int .i64 0, .int .i64 0, .int .i64 0, .int .i64 0, .int .i64 0, .slice none 0 0, .int .u8 0, .int .i64 0, .int .i64 0, .int .i64 0]), 13, 120) := by kernel_rfl
theorem Leg_info : (Tryz.prog.info? 54).map (fun i => (i.zero, i.size, i.bytes)) = some (some (.agg #[.int .i64 0, .int .i64 0]), 2, 16) := by kernel_rfl
end Go.Proofs.YtnnnpliigdfipaaGreatDoor
