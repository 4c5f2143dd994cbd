/- encounter: Parse. -/
import Derived.RangeFuncNested
import Derived.RangeFuncBound
import Derived.RangeFuncCalls
import Derived.RangeFuncLeaves
import Derived.RangeFuncBox
import Derived.Shelf.Abstract
import Derived.Shelf.RegionOpen
import Derived.OwnWalkIn
import Derived.TacticsInMore
import Derived.LoopNIn
import Derived.LoopIn
import Derived.WalkKit
import Derived.ProofKit
import Derived.Outline
import Derived.Lib.Hide
import Derived.Deep.RegionWith
import Derived.Deep.RegionHeld3
import Derived.Test.YtnnnpliigdfipaaGreatDoorEnBD
import Derived.Test.YtnnnpliigdfipaaGreatDoorRC
import Derived.Test.YtnnnpliigdfipaaGreatDoorEnJ
namespace Go.Proofs.YtnnnpliigdfipaaGreatDoor
open Go.RowKit Go.Shelf
attribute [local go_sem] Oper.semAt_some wide_fn
attribute [local go_sem] wrap_lit
theorem leave_plain {F : Fence} {n : Nat} {P : Program} {fn : Func} {R : Ending → World → Prop} {tmps : Array Value} {w : World} {v : Value} (hr : (results fn tmps).run P w = .ok v w) (hR : R (.returned v) w) : bodyPostM F n P fn R .ret { tmps := tmps, defers := [] } w := ⟨v, hr, hR⟩
theorem leave_mark {F : Fence} {n : Nat} {P : Program} {fn : Func} {R : Ending → World → Prop} {tmps : Array Value} {w : World} {D : Nat} {v : Value} (hK : w.heap[D]? = some (.deferred (some []))) (hr : (results fn tmps).run P (w.putObj D (.deferred none)) = .ok v (w.putObj D (.deferred none))) (hR : R (.returned v) (w.putObj D (.deferred none))) :
    bodyPostM F n P fn R .ret { tmps := tmps, defers := [{ target := .collected D, args := #[] }] } w := ⟨by simp, .inl ⟨_, _, rfl, run_takeDeferred hK, v, hr, hR⟩⟩
theorem six (w : World) (a0 a1 a2 a3 a4 a5 : Obj) : ((((((w.alloc a0).alloc a1).alloc a2).alloc a3).alloc a4).alloc a5).heap[w.heap.size]? = some a0 ∧ ((((((w.alloc a0).alloc a1).alloc a2).alloc a3).alloc a4).alloc a5).heap[w.heap.size + 1]? = some a1 ∧ ((((((w.alloc a0).alloc a1).alloc a2).alloc a3).alloc a4).alloc a5).heap[w.heap.size + 1 + 1]? = some a2 ∧ ((((((w.alloc a0).alloc a1).alloc a2).alloc a3).alloc a4).alloc a5).heap[w.heap.size + 1 + 1 + 1]? = some a3 ∧
    ((((((w.alloc a0).alloc a1).alloc a2).alloc a3).alloc a4).alloc a5).heap[w.heap.size + 1 + 1 + 1 + 1]? = some a4 ∧ ((((((w.alloc a0).alloc a1).alloc a2).alloc a3).alloc a4).alloc a5).heap[w.heap.size + 5]? = some a5 := by
  have e : ((((((w.alloc a0).alloc a1).alloc a2).alloc a3).alloc a4).alloc a5).heap = (((((w.heap.push a0).push a1).push a2).push a3).push a4).push a5 := rfl
  rw [e]
  refine ⟨?_, ?_, ?_, ?_, ?_, ?_⟩ <;> (simp only [Array.getElem?_push, Array.size_push]; (repeat (first | rw [if_pos (by first | omega | trivial)] | rw [if_neg (by omega)])))
/-- between two rounds -/
def PI (K g : Nat) (s : Tx) (w : World) (σ : Nat × Tx) (W : World) : Prop :=
  ∃ (x : En) (v : Value) (lvs : List Value) (Bl : Nat), PB W g (.int .i64 0) (.int .i64 0) x.cy x.gr v ((σ.1 : Int) - 1) ∧ PS W (g + 6) v x.cs lvs Bl ∧ goL x σ.1 (splitC 10 σ.2) = goL En.zero 1 (splitC 10 s) ∧ 1 ≤ σ.1 ∧ x.cs.length ≤ σ.1 ∧ (∀ c ∈ x.cs, c.lg.length ≤ σ.1) ∧ g + 6 ≤ W.heap.size ∧ Bl ≤ W.heap.size ∧ Below g w W ∧ K ≤ g
/-- a round has left -/
def PX (g : Nat) (s : Tx) (w : World) (c : Code) (W : World) : Prop :=
  c = .ret ∧ ∃ (m : Nat) (cy gr last : Int) (v : Value), goL En.zero 1 (splitC 10 s) = .inl m ∧ PB W g (.int .i64 m) (.int .i64 2) cy gr v last ∧ Below g w W
theorem PI.grown {K g : Nat} {s : Tx} {w W W' W0 : World} {σ : Nat × Tx} {row : Option Nat} (h : PI K g s w σ W) (hs : W0.heap.size = g + 6) (hg : W.grownBy W' row) (hr : Turns (g + 5) W0.heap.size W row) : PI K g s w σ W' := by
  obtain ⟨x, v, lvs, Bl, h1, h2, h3, h4, h5, h6, h7, h8, h9, h10⟩ := h
  have hr' : ∀ r, row = some r → r < g ∨ g + 5 ≤ r := fun r e => by rcases hr r e with h | ⟨h, -⟩ <;> omega
  refine ⟨x, v, lvs, Bl, h1.grown hg hr', h2.grown_own hg ?_, h3, h4, h5, h6, by have := hg.size; omega, by have := hg.size; omega, h9.grown hg (by omega) (fun k e => by rcases hr k e with h | ⟨h, -⟩ <;> omega), h10⟩
  intro r e
  rcases hr r e with h | ⟨-, o, ho, hc⟩
  · exact .inl (by omega)
  · exact .inr ⟨o, ho, hc⟩
theorem PX.grown {g : Nat} {s : Tx} {w W W' W0 : World} {c : Code} {row : Option Nat} (h : PX g s w c W) (hs : W0.heap.size = g + 6) (hgs : g ≤ W.heap.size) (hg : W.grownBy W' row) (hr : Turns (g + 5) W0.heap.size W row) : PX g s w c W' := by
  obtain ⟨h0, m, cy, gr, last, v, h1, h2, h3⟩ := h
  exact ⟨h0, m, cy, gr, last, v, h1, h2.grown hg (fun r e => by rcases hr r e with h | ⟨h, -⟩ <;> omega), h3.grown hg hgs (fun k e => by rcases hr k e with h | ⟨h, -⟩ <;> omega)⟩
theorem below_put {g D : Nat} {W Z : World} (h : Below g W Z) (hD : g ≤ D) (o : Obj) : Below g W (Z.putObj D o) := h.trans ⟨rfl, rfl, rfl, by simp, fun i hi => World.putObj_heap_other (by omega)⟩
theorem fin5 {W : World} {g D : Nat} {r1 r2 v : Value} {cy gr last : Int} (h : PB W g r1 r2 cy gr v last) (hD : g + 6 ≤ D) (hK : W.heap[D]? = some (.deferred (some []))) (a b : Int) (u : Value) (m e : Int) :
    ∃ Z, Z = ((((W.setCell ⟨g, 0, none⟩ (.int .i64 a)).setCell ⟨g, 1, none⟩ (.int .i64 b)).setCell ⟨g, 2, none⟩ u).setCell ⟨g + 1, 0, none⟩ (.int .i64 m)).setCell ⟨g + 1 + 1, 0, none⟩ (.int .i64 e) ∧ Z.heap[D]? = some (.deferred (some [])) ∧
      ((Z.putObj D (.deferred none)).cell? ⟨g, 0, none⟩ = some (.int .i64 a) ∧ (Z.putObj D (.deferred none)).cell? ⟨g, 1, none⟩ = some (.int .i64 b) ∧ (Z.putObj D (.deferred none)).cell? ⟨g, 2, none⟩ = some u ∧ (Z.putObj D (.deferred none)).cell? ⟨g + 1, 0, none⟩ = some (.int .i64 m) ∧ (Z.putObj D (.deferred none)).cell? ⟨g + 1 + 1, 0, none⟩ = some (.int .i64 e)) ∧
      Below g W (Z.putObj D (.deferred none)) ∧ ∀ (v' : Value) (cs : List Cr) (lvs : List Value) (Bl : Nat), PS W (g + 6) v' cs lvs Bl → PS (Z.putObj D (.deferred none)) (g + 6) v' cs lvs Bl := by
  have hk5 : (((((W.setCell ⟨g, 0, none⟩ (.int .i64 a)).setCell ⟨g, 1, none⟩ (.int .i64 b)).setCell ⟨g, 2, none⟩ u).setCell ⟨g + 1, 0, none⟩ (.int .i64 m)).setCell ⟨g + 1 + 1, 0, none⟩ (.int .i64 e)).heap[D]? = some (.deferred (some [])) := by
    rw [set_far _ _ _ _ _ (by omega), set_far _ _ _ _ _ (by omega), set_far _ _ _ _ _ (by omega), set_far _ _ _ _ _ (by omega), set_far _ _ _ _ _ (by omega)]
    exact hK
  refine ⟨_, rfl, hk5, ?_, ?_, ?_⟩
  · have e0 := setCell_heap _ g 2 _ _ _ u (setCell_heap _ g 1 _ _ _ (.int .i64 b) (setCell_heap W g 0 _ _ _ (.int .i64 a) h.b0))
    have e1 : ((((W.setCell ⟨g, 0, none⟩ (.int .i64 a)).setCell ⟨g, 1, none⟩ (.int .i64 b)).setCell ⟨g, 2, none⟩ u).setCell ⟨g + 1, 0, none⟩ (.int .i64 m)).heap[g + 1]? = some (.cells (#[r1].setIfInBounds 0 (.int .i64 m)) 3 (0, 0)) := setCell_heap _ _ _ _ _ _ _ (by rw [set_far _ _ _ _ _ (by omega), set_far _ _ _ _ _ (by omega), set_far _ _ _ _ _ (by omega)]; exact h.b1)
    have e2 : (((((W.setCell ⟨g, 0, none⟩ (.int .i64 a)).setCell ⟨g, 1, none⟩ (.int .i64 b)).setCell ⟨g, 2, none⟩ u).setCell ⟨g + 1, 0, none⟩ (.int .i64 m)).setCell ⟨g + 1 + 1, 0, none⟩ (.int .i64 e)).heap[g + 1 + 1]? = some (.cells (#[r2].setIfInBounds 0 (.int .i64 e)) 28 (0, 0)) := setCell_heap _ _ _ _ _ _ _ (by rw [set_far _ _ _ _ _ (by omega), set_far _ _ _ _ _ (by omega), set_far _ _ _ _ _ (by omega), set_far _ _ _ _ _ (by omega)]; exact h.b2)
    have f0 := (World.putObj_heap_other (w := ((((W.setCell ⟨g, 0, none⟩ (.int .i64 a)).setCell ⟨g, 1, none⟩ (.int .i64 b)).setCell ⟨g, 2, none⟩ u).setCell ⟨g + 1, 0, none⟩ (.int .i64 m)).setCell ⟨g + 1 + 1, 0, none⟩ (.int .i64 e)) (r := D) (k := g) (o := .deferred none) (by omega)).trans ((set_far _ _ _ _ _ (by omega)).trans ((set_far _ _ _ _ _ (by omega)).trans e0))
    have f1 := (World.putObj_heap_other (w := ((((W.setCell ⟨g, 0, none⟩ (.int .i64 a)).setCell ⟨g, 1, none⟩ (.int .i64 b)).setCell ⟨g, 2, none⟩ u).setCell ⟨g + 1, 0, none⟩ (.int .i64 m)).setCell ⟨g + 1 + 1, 0, none⟩ (.int .i64 e)) (r := D) (k := g + 1) (o := .deferred none) (by omega)).trans ((set_far _ _ _ _ _ (by omega)).trans e1)
    have f2 := (World.putObj_heap_other (w := ((((W.setCell ⟨g, 0, none⟩ (.int .i64 a)).setCell ⟨g, 1, none⟩ (.int .i64 b)).setCell ⟨g, 2, none⟩ u).setCell ⟨g + 1, 0, none⟩ (.int .i64 m)).setCell ⟨g + 1 + 1, 0, none⟩ (.int .i64 e)) (r := D) (k := g + 1 + 1) (o := .deferred none) (by omega)).trans e2
    refine ⟨?_, ?_, ?_, ?_, ?_⟩ <;> simp [World.cell?, f0, f1, f2]
  · refine below_put ?_ (by omega) _
    exact (((((Below.refl g W).setCell (p := ⟨g, 0, none⟩) (Nat.le_refl _) _).setCell (p := ⟨g, 1, none⟩) (Nat.le_refl _) _).setCell (p := ⟨g, 2, none⟩) (Nat.le_refl _) _).setCell (p := ⟨g + 1, 0, none⟩) (Nat.le_succ _) _).setCell (p := ⟨g + 1 + 1, 0, none⟩) (Nat.le_trans (Nat.le_succ _) (Nat.le_succ _)) _
  · intro v' cs lvs Bl hp
    refine (((((hp.grown_own (grownBy_set W g 0 _) ?_).grown_own (grownBy_set _ g 1 _) ?_).grown_own (grownBy_set _ g 2 _) ?_).grown_own (grownBy_set _ (g + 1) 0 _) ?_).grown_own (grownBy_set _ (g + 1 + 1) 0 _) ?_).grown_own (grownBy_putObj' _ D _) ?_
    · exact fun r e => by cases e; exact Or.inl (by omega)
    · exact fun r e => by cases e; exact Or.inl (by omega)
    · exact fun r e => by cases e; exact Or.inl (by omega)
    · exact fun r e => by cases e; exact Or.inl (by omega)
    · exact fun r e => by cases e; exact Or.inl (by omega)
    · exact fun r e => by cases e; exact Or.inr ⟨.deferred (some []), hk5, rfl⟩
theorem PB.drew {W : World} {g : Nat} {r1 r2 v : Value} {cy gr last : Int} (h : PB W g r1 r2 cy gr v last) : PB W.drew g r1 r2 cy gr v last := ⟨h.b0, h.b1, h.b2, h.b3, h.b4⟩
theorem fin_bad {K g B n : Nat} {s : Tx} {w W W' : World} {σ : Nat × Tx} {a : Act} {r1 r2 v : Value} {cy gr last : Int} (h : Rel g W W') (hs : g + 6 ≤ W.heap.size) (hB : B = g + 6) (hb : PB W' g r1 r2 cy gr v last) (hw : Below g w W) (hg : goL En.zero 1 (splitC 10 s) = .inl n) :
    vPost B K (g + 5) (PI K g s w) (PX g s w) σ W .ret a (((((W'.setCell ⟨g, 0, none⟩ (.int .i64 0)).setCell ⟨g, 1, none⟩ (.int .i64 0)).setCell ⟨g, 2, none⟩ (.slice none 0 0)).setCell ⟨g + 1, 0, none⟩ (.int .i64 n)).setCell ⟨g + 1 + 1, 0, none⟩ (.int .i64 2)) :=
  ⟨(h.bad hs n).keeps hB, rfl, n, cy, gr, last, v, hg, hb.bad n, hw.trans (h.bad hs n).below⟩
theorem fin_ok {K g B k : Nat} {s m : Tx} {w W W' : World} {a : Act} {v : Value} {lvs : List Value} {Bl : Nat} (x : En) (h : Rel g W W') (hs : g + 6 ≤ W.heap.size) (hB : B = g + 6) (hK : K ≤ g) (hb : PB W' g (.int .i64 0) (.int .i64 0) x.cy x.gr v k) (hp : PS W' (g + 6) v x.cs lvs Bl) (hw : Below g w W) (hg : goL x (k + 1) (splitC 10 m) = goL En.zero 1 (splitC 10 s)) (hc : x.cs.length ≤ k + 1) (hl : ∀ c ∈ x.cs, c.lg.length ≤ k + 1) (hbl : Bl ≤ W'.heap.size) :
    vPost B K (g + 5) (PI K g s w) (PX g s w) (k + 1, m) W .normal a W' :=
  ⟨h.keeps hB, ⟨h.below.mono hK, h.cell⟩, x, v, lvs, Bl, by rw [show (((k + 1, m) : Nat × Tx).1 : Int) - 1 = (k : Int) by simp only; omega]; exact hb, hp, hg, by simp only; omega, hc, hl, by have := h.size; omega, hbl, hw.trans h.below, hK⟩
set_option maxRecDepth 100000 in
set_option maxHeartbeats 4000000 in
theorem parse16_in (n : Nat) (hn : 3 ≤ n) (K : Nat) (s : Tx) (hs : s.length ≤ 80000) (w : World) (E : Env K w) (hK : K ≤ w.heap.size) :
    CallsIn Fence.wide n Tryz.prog 16 #[.string (S s)] w fun e w' => ∃ v lvs Bl, e = .returned (.tuple #[.agg #[.int .i64 (paE s).1.cy, .int .i64 (paE s).1.gr, v], .int .i64 (paE s).2.1, .int .i64 (paE s).2.2]) ∧ PS w' w.heap.size v (paE s).1.cs lvs Bl ∧ Below w.heap.size w w' := by
  have h1 : 1 ≤ n := by omega
  have HE := Lib.hid E
  clear E
  by_cases hlong : 4096 < s.length
  · refine callsIn_of_wp_marks Tryz.func16 rfl trivial ?_ rfl
    simp only [Tryz.ntmps16, List.size_toArray, List.length_cons, List.length_nil, Nat.reduceAdd, Nat.reduceSub, Array.replicate_succ, Array.replicate_zero, List.push_toArray, List.append_toArray, List.nil_append, List.cons_append]
    have hP : Hid (paE s = (En.zero, 0, 4)) := Lib.hid (by unfold paE; rw [if_pos hlong])
    have hl1 : (4096 : Int) < (s.length : Int) := by omega
    gi_wp2
    refine leave_plain (v := .tuple #[.agg #[.int .i64 0, .int .i64 0, .slice none 0 0], .int .i64 0, .int .i64 4]) ?res ?post
    case res => simp [results, Tryz.results16, go_sem]
    case post =>
      rw [hP.out]
      exact ⟨.slice none 0 0, [], 0, rfl, PS.nil _ _, ((((Below.refl _ _).alloc (Nat.le_refl _) _).alloc (by simp) _).alloc (by simp; omega) _)⟩
  · refine callsIn_of_wp_marks Tryz.func16 rfl trivial ?_ rfl
    simp only [Tryz.ntmps16, List.size_toArray, List.length_cons, List.length_nil, Nat.reduceAdd, Nat.reduceSub, Array.replicate_succ, Array.replicate_zero, List.push_toArray, List.append_toArray, List.nil_append, List.cons_append]
    have hl1 : ¬ (4096 : Int) < (s.length : Int) := by omega
    gi_wp2
    refine (callsIn_wide.2 (lines68 s _)).mono ?_
    rintro e w' ⟨rfl, hw'⟩
    rw [← hw']
    clear hw' w'
    gi_wp2
    obtain ⟨W0, hW0⟩ : ∃ W0, W0 = ((((((w.alloc (.cells #[.int .i64 0, .int .i64 0, .slice none 0 0] 24)).alloc (.cells #[.int .i64 0] 3)).alloc (.cells #[.int .i64 0] 28)).alloc (.cells #[.int .i64 0, .int .i64 0, .slice none 0 0] 24)).alloc (.cells #[.int .i64 0] 3)).alloc (.cells #[.string (S s)] 9)) := ⟨_, rfl⟩
    have hsz : W0.heap.size = w.heap.size + 6 := by rw [hW0]; simp
    have hBel : Below w.heap.size w W0 := by rw [hW0]; exact ((((((Below.refl _ _).alloc (Nat.le_refl _) _).alloc (by simp) _).alloc (by simp; omega) _).alloc (by simp; omega) _).alloc (by simp; omega) _).alloc (by simp; omega) _
    have hPB : PB W0 w.heap.size (.int .i64 0) (.int .i64 0) 0 0 (.slice none 0 0) 0 := by
      rw [hW0]
      obtain ⟨h0, h1, h2, h3, h4, -⟩ := six w (.cells #[.int .i64 0, .int .i64 0, .slice none 0 0] 24) (.cells #[.int .i64 0] 3) (.cells #[.int .i64 0] 28) (.cells #[.int .i64 0, .int .i64 0, .slice none 0 0] 24) (.cells #[.int .i64 0] 3) (.cells #[.string (S s)] 9)
      exact ⟨h0, h1, h2, h3, h4⟩
    have hSB : W0.heap[w.heap.size + 5]? = some (.cells #[.string (S s)] 9 (0, 0)) := by rw [hW0]; exact (six w _ _ _ _ _ _).2.2.2.2.2
    rw [← hW0]
    clear hW0
    have hI0 : PI K w.heap.size s w (1, s) W0 := ⟨En.zero, .slice none 0 0, [], 0, hPB, PS.nil _ _, rfl, Nat.le_refl _, Nat.zero_le _, fun c h => by simp [En.zero] at h, by omega, Nat.zero_le _, hBel, hK⟩
    refine range_v (a := { tmps := #[.string (S s), undef, .pointer (some ⟨w.heap.size, 0, none⟩), .pointer (some ⟨w.heap.size + 1, 0, none⟩), .pointer (some ⟨w.heap.size + 1 + 1, 0, none⟩), .pointer (some ⟨w.heap.size + 1 + 1 + 1, 0, none⟩), .pointer (some ⟨w.heap.size + 1 + 1 + 1 + 1, 0, none⟩), undef, undef, undef, undef, undef, undef, undef, undef, .string (S s), .int .i64 (s.length : Int), .bool false, undef, .string (S s), .func (.func 96) #[] #[.pointer (some ⟨w.heap.size + 1 + 1 + 1 + 1 + 1, 0, none⟩)], undef, undef, undef, undef, undef, undef, undef, undef, undef, undef, undef, undef, undef, undef, undef, undef, undef, undef, undef, undef, undef, undef, undef, undef, undef, undef, undef, undef, undef, undef, undef, undef, undef, undef, undef, undef, undef, undef, undef, undef, undef, undef, undef, undef, undef, undef, undef, undef, undef, undef, undef, undef, undef, undef, undef, undef, undef, undef, undef, undef, undef, undef, undef, undef, undef, undef, undef, undef, undef, undef], defers := [] }) h1 (gf := 96) (lb := #[.pointer (some ⟨w.heap.size + 1 + 1 + 1 + 1 + 1, 0, none⟩)]) rfl (enters_of Tryz.func96 (by kernel_rfl) rfl) (K := K) (Bs := w.heap.size + 5) (Y := YL K) (nxt := fun σ => (σ.1 + 1, rstT σ.2)) (fin := fun σ => σ.2 = []) (s0 := (1, s)) (by omega) (by omega)
      (fun W hb => lines_iter K (w.heap.size + 5) s (n - 1) (by omega) (by omega) W (HE.out.below (hBel.trans (hb.mono (by omega))|>.mono hK)) (by omega) ((hb.block _ (by omega)).trans hSB))
      (fun σ args W h => by obtain ⟨A, c, e, -⟩ := h.ex; rw [e]; rfl)
      (fun σ args W l ob ob' h h2 h3 h4 => h.put (by omega) h3 h4)
      (PI K w.heap.size s w) (PX w.heap.size s w)
      (fun σ W W' row h hg hr => h.grown hsz hg hr)
      (fun c W W' row h hg hr => h.grown hsz (by have := h.2; obtain ⟨_, _, _, _, _, _, hpb, _⟩ := this; have := heap_lt hpb.b0; omega) hg hr)
      hI0
      (fun args => { tmps := #[.string (S s), undef, .pointer (some ⟨w.heap.size, 0, none⟩), .pointer (some ⟨w.heap.size + 1, 0, none⟩), .pointer (some ⟨w.heap.size + 1 + 1, 0, none⟩), .pointer (some ⟨w.heap.size + 1 + 1 + 1, 0, none⟩), .pointer (some ⟨w.heap.size + 1 + 1 + 1 + 1, 0, none⟩), args.getD 0 undef, args.getD 1 undef, undef, undef, undef, undef, undef, undef, .string (S s), .int .i64 (s.length : Int), .bool false, undef, .string (S s), .func (.func 96) #[] #[.pointer (some ⟨w.heap.size + 1 + 1 + 1 + 1 + 1, 0, none⟩)], args.getD 0 undef, args.getD 1 undef, undef, undef, undef, undef, undef, undef, undef, undef, undef, undef, undef, undef, undef, undef, undef, undef, undef, undef, undef, undef, undef, undef, undef, undef, undef, undef, undef, undef, undef, undef, undef, undef, undef, undef, undef, undef, undef, undef, undef, undef, undef, undef, undef, undef, undef, undef, undef, undef, undef, undef, undef, undef, undef, undef, undef, undef, undef, undef, undef, undef, undef, undef, undef, undef, undef, undef, undef, undef], defers := [] })
      ?assign ?body ?done ?stop
    case assign =>
      rintro l ⟨k, t⟩ args W K' hY hK'
      obtain ⟨A, c, rfl, -, -⟩ := hY.ex
      gi_wp2
      exact hK'
    case body =>
      rintro l ⟨k, t⟩ args W ⟨x, v, lvs, Bl, hPBk, hPS, hgo, hk1, hcs, hlg, hgs, hBl, hb, -⟩ hY
      obtain ⟨A, c, rfl, hIn, hcc⟩ := hY.ex
      have hne := hY.ne
      have hlen := hY.len
      have hEn := hY.env
      simp only at hPBk hgo hk1 hcs hlg hne hlen hIn hcc
      show Code.wpIn _ _ _ _ _ { tmps := #[.string (S s), undef, .pointer (some ⟨w.heap.size, 0, none⟩), .pointer (some ⟨w.heap.size + 1, 0, none⟩), .pointer (some ⟨w.heap.size + 1 + 1, 0, none⟩), .pointer (some ⟨w.heap.size + 1 + 1 + 1, 0, none⟩), .pointer (some ⟨w.heap.size + 1 + 1 + 1 + 1, 0, none⟩), .int .i64 (k : Int), .slice A (wdsT t).length c, undef, undef, undef, undef, undef, undef, .string (S s), .int .i64 (s.length : Int), .bool false, undef, .string (S s), .func (.func 96) #[] #[.pointer (some ⟨w.heap.size + 1 + 1 + 1 + 1 + 1, 0, none⟩)], .int .i64 (k : Int), .slice A (wdsT t).length c, undef, undef, undef, undef, undef, undef, undef, undef, undef, undef, undef, undef, undef, undef, undef, undef, undef, undef, undef, undef, undef, undef, undef, undef, undef, undef, undef, undef, undef, undef, undef, undef, undef, undef, undef, undef, undef, undef, undef, undef, undef, undef, undef, undef, undef, undef, undef, undef, undef, undef, undef, undef, undef, undef, undef, undef, undef, undef, undef, undef, undef, undef, undef, undef, undef, undef, undef, undef], defers := [] } W
      have hwl := wds_bd t
      rw [goL_step hne] at hgo
      clear hY hne
      obtain ⟨ws, hws⟩ : ∃ ws, ws = wdsT t := ⟨_, rfl⟩
      obtain ⟨m, hm⟩ : ∃ m, m = rstT t := ⟨_, rfl⟩
      simp only [← hws, ← hm] at hIn hcc hwl hgo ⊢
      clear hws hm
      have hw1 : ws.length ≤ 100000 := by omega
      have hw2 : ∀ y ∈ ws, y.length ≤ 100000 := fun y hy => Nat.le_trans (hwl.2 y hy) (by omega)
      clear hwl
      obtain ⟨CA, ccap, rfl, hccap, -⟩ := ownsRow_form hPS.row
      have HPB := Lib.hid hPBk
      have HPS := Lib.hid hPS
      have HGO := Lib.hid hgo
      have HIN := Lib.hid hIn
      have HEN := Lib.hid hEn
      have HB := Lib.hid hb
      have HLG := Lib.hid hlg
      have HW2 := Lib.hid hw2
      have HSB := Lib.hid hBel
      clear hPBk hPS hgo hIn hEn hb hlg hw2 hBel hPB hI0 hSB
      have h11 : 1 ≤ n - 1 - 1 := by omega
      by_cases hk : k = 1
      · subst hk
        cases hr : rd2 w_encounter ws with
        | none =>
          have HG : Hid (goL En.zero 1 (splitC 10 s) = .inl 1) := Lib.hid (HGO.out.symm.trans (by rw [show ((1 : Nat) == 1) = true from rfl, step_first_no hr]))
          have P69 := Lib.hid (pair69_no K A c ws w_encounter W HEN.out (by omega) HIN.out hcc hw1 HW2.out hr)
          clear HGO hr
          gi_wp2
          refine (calls_round P69.out).mono ?_
          rintro e W1 ⟨⟨a, b, rfl⟩, hb1⟩
          have R1 := Lib.hid (Rel.of_below hb1 hgs)
          have B1 := Lib.hid (HPB.out.below hb1)
          obtain ⟨-, -, f0, f1, f2, f3, f4⟩ := B1.out.cells
          obtain ⟨⟨c0, c1, c2, c3, c4⟩, ⟨x0, x1, x2, x3⟩, -⟩ := B1.out.cells
          have hs1 := hb1.size
          clear hb1 P69
          gi_wp2
          exact fin_bad (n := 1) ((R1.out.set hgs _ (by omega) (by omega)).set hgs _ (by omega) (by omega)) hgs hsz ((B1.out.setX0 a).setX1 b) HB.out HG.out
        | some ab =>
          obtain ⟨a, b⟩ := ab
          have HG : Hid (goL { x with cy := a, gr := b } 2 (splitC 10 m) = goL En.zero 1 (splitC 10 s)) := Lib.hid (Eq.trans (by rw [show ((1 : Nat) == 1) = true from rfl, step_first hr]) HGO.out)
          have P69 := Lib.hid (pair69_ok K A c ws w_encounter W HEN.out (by omega) HIN.out hcc hw1 HW2.out a b hr)
          clear HGO hr
          gi_wp2
          refine (calls_round P69.out).mono ?_
          rintro e W1 ⟨rfl, hb1⟩
          have R1 := Lib.hid (Rel.of_below hb1 hgs)
          have B1 := Lib.hid (HPB.out.below hb1)
          have S1 := Lib.hid (HPS.out.below hb1)
          obtain ⟨-, -, f0, f1, f2, f3, f4⟩ := B1.out.cells
          obtain ⟨⟨c0, c1, c2, c3, c4⟩, ⟨x0, x1, x2, x3⟩, -⟩ := B1.out.cells
          have hs1 := hb1.size
          clear hb1 P69
          gi_wp2
          exact fin_ok (k := 1) { x with cy := a, gr := b } (((R1.out.set hgs _ (by omega) (by omega)).set hgs _ (by omega) (by omega)).set hgs _ (by omega) (by omega)) hgs hsz hK (((B1.out.setX0 a).setX1 b).setL 1) (((S1.out.far B1.out.b3 (by decide) (by decide)).far (B1.out.setX0 a).b3 (by decide) (by decide)).far ((B1.out.setX0 a).setX1 b).b4 (by decide) (by decide)) HB.out HG.out (by simp only; omega) (fun c hc => by have := HLG.out c hc; omega) (by simp; omega)
      · have hk2 : ¬ ((k : Int) = 1) := by omega
        have hkb : (k == 1) = false := by rw [beq_eq_false_iff_ne]; exact hk
        cases hr : crO ws with
        | some d =>
          have HG : Hid (goL { x with cs := x.cs ++ [d] } (k + 1) (splitC 10 m) = goL En.zero 1 (splitC 10 s)) := Lib.hid (Eq.trans (by rw [hkb, step_craft hr]) HGO.out)
          have HD := Lib.hid ((crO_iff _ _).1 hr).2.1
          have P70 := Lib.hid (craft70_ok K A c ws W HEN.out (by omega) HIN.out hcc hw1 HW2.out d hr)
          obtain ⟨i0, hi0, hz0, hz1, hz2⟩ := info_parts Craft_info
          clear HGO hr hkb
          gi_wp2
          refine (calls_round P70.out).mono ?_
          rintro e W1 ⟨rfl, hb1⟩
          have R1 := Lib.hid (Rel.of_below hb1 hgs)
          have B1 := Lib.hid (HPB.out.below hb1)
          have S1 := Lib.hid (HPS.out.below hb1)
          obtain ⟨-, -, f0, f1, f2, f3, f4⟩ := B1.out.cells
          obtain ⟨⟨c0, c1, c2, c3, c4⟩, ⟨x0, x1, x2, x3⟩, -⟩ := B1.out.cells
          have hs1 := hb1.size
          clear hb1 P70
          have y2 : ∀ ob, (W1.alloc ob).cell? ⟨w.heap.size + 1 + 1 + 1, 2, none⟩ = some (.slice CA x.cs.length ccap) := fun ob => (World.cell?_alloc_lt _ _ _ (by show w.heap.size + 1 + 1 + 1 < _; omega)).trans x2
          obtain ⟨X, hX⟩ : ∃ X, X = W1.alloc (.cells #[.int .i64 d.ad, .int .i64 d.p.x, .int .i64 d.p.y, .int .i64 d.p.z, .int .i64 d.v.x, .int .i64 d.v.y, .int .i64 d.v.z, .int .i64 d.pu, .slice none 0 0, .int .u8 d.mo, .int .i64 d.de, .int .i64 d.pp, .int .i64 d.mi] 63) := ⟨_, rfl⟩
          have B2 : Hid (PB X w.heap.size (.int .i64 0) (.int .i64 0) x.cy x.gr (.slice CA x.cs.length ccap) ((k : Int) - 1)) := Lib.hid (by rw [hX]; exact B1.out.grown (World.grownBy_alloc _ _ none) (fun r e => by cases e))
          have S2 : Hid (PS X (w.heap.size + 6) (.slice CA x.cs.length ccap) x.cs lvs Bl) := Lib.hid (by rw [hX]; exact S1.out.grown (World.grownBy_alloc _ _ none) (foreign_none _))
          have hXs : Hid (X.heap.size = W1.heap.size + 1) := Lib.hid (by rw [hX]; simp)
          have R2 : Hid (Rel w.heap.size W X) := Lib.hid (by rw [hX]; exact R1.out.alloc hgs _)
          have hs2 : W.heap.size ≤ X.heap.size := R2.out.size
          gi_wp2_with (gi_at_builtin; rw [← hX]; refine wpListIn_appV rfl _ _ 22 rfl (w.heap.size + 6) 63 i0 _ 13 120 Tryz.underlying22 hi0 hz0 hz1 hz2 rfl (by decide) _ _ _ [.int .i64 d.ad, .int .i64 d.p.x, .int .i64 d.p.y, .int .i64 d.p.z, .int .i64 d.v.x, .int .i64 d.v.y, .int .i64 d.v.z, .int .i64 d.pu, .slice none 0 0, .int .u8 d.mo, .int .i64 d.de, .int .i64 d.pp, .int .i64 d.mi] rfl S2.out.row _ rfl (W1.heap.size + 1) hXs.out rfl rfl (by simp [Value.oneCell']) (by omega) (by decide) (by omega) ?_; intro v' w2 hown' hgrow; obtain ⟨g', cap', rfl⟩ := ownsRow_succ hown'; have B3 := Lib.hid ((B2.out.grown (World.grownBy_alloc _ _ none) (fun r e => by cases e)).grown hgrow (fun r e => Or.inr (by have := (S2.out.row.lt r e).1; omega))); obtain ⟨-, ⟨w0, w1', w2', w3⟩, g0, g1, g2, g3, g4⟩ := B3.out.cells)
          have hAl : Rel w.heap.size X _ := Rel.of_row hgrow (S2.out.row.alloc _) (Nat.le_refl _) (by simp; omega) |> (((Rel.refl w.heap.size X).alloc (by omega) _).trans ·)
          have hS3 := PS.push (S2.out.grown (World.grownBy_alloc _ _ none) (foreign_none _)) (by simp; omega) HD.out hown' hgrow
          have hB3 := B3.out.setX2 (.slice (some ⟨g', 0, none⟩) (x.cs.length + 1) cap')
          exact fin_ok (k := k) { x with cs := x.cs ++ [d] } (((R2.out.trans hAl).set hgs _ (by omega) (by omega)).set hgs _ (by omega) (by omega)) hgs hsz hK (hB3.setL k) ((hS3.far B3.out.b3 (by decide) (by decide)).far hB3.b4 (by decide) (by decide)) HB.out HG.out (by simp; omega) (fun c hc => by
            rcases List.mem_append.1 hc with hc | hc
            · have := HLG.out c hc; omega
            · rw [List.mem_singleton.1 hc, HD.out]; simp) (by have := hgrow.size; simp at this ⊢; omega)
        | none =>
          have HD := Lib.hid hr
          have P70 := Lib.hid (craft70_no K A c ws W HEN.out (by omega) HIN.out hcc hw1 HW2.out hr)
          clear hr
          gi_wp2
          refine (calls_round P70.out).mono ?_
          rintro e W1 ⟨⟨d, rfl⟩, hb1⟩
          have R1 := Lib.hid (Rel.of_below hb1 hgs)
          have B1 := Lib.hid (HPB.out.below hb1)
          have S1 := Lib.hid (HPS.out.below hb1)
          have I1 := Lib.hid (HIN.out.below hb1)
          have E1 := Lib.hid (HEN.out.below (hb1.mono (by omega)))
          have hs1 := hb1.size
          clear hb1 P70
          have BA : ∀ ob, PB (W1.alloc ob) w.heap.size (.int .i64 0) (.int .i64 0) x.cy x.gr (.slice CA x.cs.length ccap) ((k : Int) - 1) := fun ob => B1.out.grown (World.grownBy_alloc _ _ none) (fun r e => by cases e)
          have a0 := fun ob => (BA ob).cells.1
          have a1 := fun ob => (BA ob).cells.2.1
          have a2 := fun ob => (BA ob).cells.2.2
          by_cases hc0 : x.cs.length = 0
          · have hl0 : ¬ (0 : Int) < (x.cs.length : Int) := by omega
            have HG : Hid (goL En.zero 1 (splitC 10 s) = .inl k) := Lib.hid (HGO.out.symm.trans (by rw [hkb, step_bare HD.out (List.length_eq_zero_iff.1 hc0)]))
            have RA := Lib.hid (fun ob => R1.out.alloc hgs ob)
            have BAh := Lib.hid BA
            clear BA HGO hkb hc0
            gi_wp2
            exact fin_bad (n := k) (RA.out _) hgs hsz (BAh.out _) HB.out HG.out
          · have hl0 : (0 : Int) < (x.cs.length : Int) := by omega
            have hP : ∀ W', Below W1.heap.size W1 W' → W1.heap.size ≤ W'.heap.size → Env K W' ∧ K ≤ W'.heap.size ∧ InT W' W'.heap.size A ws := fun W' h h' => ⟨E1.out.below (h.mono (by omega)), by omega, (I1.out.below (h.mono hs1)).mono (by omega)⟩
            have HP := Lib.hid hP
            clear hP
            cases hr2 : rd2 w_leg ws with
            | none =>
              have HG : Hid (goL En.zero 1 (splitC 10 s) = .inl k) := Lib.hid (HGO.out.symm.trans (by rw [hkb, step_leg_no HD.out hr2]))
              have HR2 := Lib.hid hr2
              have BAh := Lib.hid BA
              clear hr2 HGO hkb hc0 BA
              gi_wp2
              refine (calls_round (pair69_no K A c ws w_leg _ (HP.out _ (((Below.refl _ _).alloc (Nat.le_refl _) _).alloc (by simp) _) (by simp; omega)).1 (HP.out _ (((Below.refl _ _).alloc (Nat.le_refl _) _).alloc (by simp) _) (by simp; omega)).2.1 (HP.out _ (((Below.refl _ _).alloc (Nat.le_refl _) _).alloc (by simp) _) (by simp; omega)).2.2 hcc hw1 HW2.out HR2.out)).mono ?_
              rintro e W4 ⟨⟨a, b, rfl⟩, hb4⟩
              have hL4 : W4.heap[W1.heap.size + 1]? = some (.cells #[.int .i64 0, .int .i64 0] 54 (0, 0)) := (hb4.block _ (by simp)).trans (heap_alloc_at _ _ _ (by simp))
              have hBW4 : Below W1.heap.size W1 W4 := (((Below.refl _ _).alloc (Nat.le_refl _) _).alloc (by simp) _).trans (hb4.mono (by simp; omega))
              have l0 : W4.cell? ⟨W1.heap.size + 1, 0, none⟩ = some (.int .i64 0) := by simp [World.cell?, hL4]
              have l1 : W4.cell? ⟨W1.heap.size + 1, 1, none⟩ = some (.int .i64 0) := by simp [World.cell?, hL4]
              have l2 : ∀ i, W4.frozen? ⟨W1.heap.size + 1, i, none⟩ = false := fun i => by simp [World.frozen?, hL4]
              have HL4 := Lib.hid hL4
              have HBW4 := Lib.hid hBW4
              clear hb4 hL4 hBW4
              gi_wp2
              obtain ⟨X, hX⟩ : ∃ X, X = (W4.setCell ⟨W1.heap.size + 1, 0, none⟩ (.int .i64 a)).setCell ⟨W1.heap.size + 1, 1, none⟩ (.int .i64 b) := ⟨_, rfl⟩
              rw [← hX]
              have hBX : Below W1.heap.size W1 X := by rw [hX]; exact (HBW4.out.setCell (p := ⟨W1.heap.size + 1, 0, none⟩) (Nat.le_succ _) _).setCell (p := ⟨W1.heap.size + 1, 1, none⟩) (Nat.le_succ _) _
              have hL5 : X.heap[W1.heap.size + 1]? = some (.cells #[.int .i64 a, .int .i64 b] 54 (0, 0)) := by rw [hX]; exact setCell_heap _ _ _ _ _ _ _ (setCell_heap _ _ _ _ _ _ _ HL4.out)
              have B5 := Lib.hid (B1.out.below hBX)
              have hS5 := S1.out.below hBX
              have R5 := Lib.hid (R1.out.trans (Rel.of_below hBX (by omega)))
              have hX1 := hBX.size
              clear hBX hX l0 l1 l2 HL4 HBW4 a0 a1 a2
              obtain ⟨gc, init, cl, linit, LA, lcap, rfl, hgc, hcs', hlv', hc8, hfr, hrowL⟩ := hS5.last (by omega)
              have hgc1 : gc < W1.heap.size := (S1.out.row.lt gc rfl).2
              have HLB := Lib.hid (fun k' (hk' : (Value.slice LA cl.lg.length lcap).ownBlock = some k') => (S1.out.lt (j := linit.length) (by rw [hlv']; simp) hk').2)
              have HCS := Lib.hid hcs'
              have HLV := Lib.hid hlv'
              have HS5 := Lib.hid hS5
              have hp : (x.cs.length : Int) = (init.length : Int) + 1 := by rw [hcs']; simp
              have hlgl : cl.lg.length ≤ k := HLG.out cl (by rw [hcs']; simp)
              obtain ⟨p, hpp⟩ : ∃ p, p = init.length := ⟨_, rfl⟩
              have HP0 := Lib.hid hpp
              rw [← hpp] at hp hc8
              have hq1 : IntKind.i64.wrap ((x.cs.length : Int) - 1) = (p : Int) := by rw [hp, IntWalk.i64_in _ (by omega)]; omega
              have hq2 : (p : Int) < (x.cs.length : Int) := by omega
              have hq3 : p < x.cs.length := by omega
              have b3d : X.drew.heap[w.heap.size + 1 + 1 + 1]? = some (.cells #[.int .i64 x.cy, .int .i64 x.gr, .slice (some ⟨gc, 0, none⟩) x.cs.length ccap] 24 (0, 0)) := B5.out.b3
              have hc8d : X.drew.cell? ⟨gc, p * 13 + 8, none⟩ = some (.slice LA cl.lg.length lcap) := hc8
              have hc8a : ∀ ob, (X.drew.alloc ob).cell? ⟨gc, p * 13 + 8, none⟩ = some (.slice LA cl.lg.length lcap) := fun ob => (World.cell?_alloc_lt _ _ _ (by show gc < _; simp; omega)).trans hc8d
              have hc8b : ∀ ob, (X.alloc ob).drew.cell? ⟨gc, p * 13 + 8, none⟩ = some (.slice LA cl.lg.length lcap) := fun ob => hc8a ob
              have hc8c : ∀ ob, (X.alloc ob).cell? ⟨gc, p * 13 + 8, none⟩ = some (.slice LA cl.lg.length lcap) := fun ob => hc8a ob
              have gdr : ∀ ob, X.grownBy (X.drew.alloc ob) none := fun ob => ⟨rfl, rfl, rfl, (World.grownBy_alloc X.drew ob none).size, (World.grownBy_alloc X.drew ob none).block⟩
              have HRL : Hid (∀ ob, (X.drew.alloc ob).ownsRow Bl 54 2 (.slice LA cl.lg.length lcap) cl.lg.length ((flat cl.lg).map (Value.int .i64))) := Lib.hid (fun ob => World.ownsRow.alloc (w := X.drew) hrowL ob)
              have HP5 : Hid (∀ ob, PS (X.drew.alloc ob) (w.heap.size + 6) (.slice (some ⟨gc, 0, none⟩) (init.length + 1) ccap) (init ++ [cl]) (linit ++ [.slice LA cl.lg.length lcap]) Bl) := Lib.hid (fun ob => by
                have h := hS5.grown (gdr ob) (foreign_none _)
                rw [hlv', hcs'] at h
                simpa only [List.length_append, List.length_singleton] using h)
              have HHP := Lib.hid hp
              have hBlge := q1le hS5 hcs' hlv'
              have HRG := Lib.hid (fun (w1 : World) (ob : Obj) (hg : (X.drew.alloc ob).grownBy w1 (Value.slice LA cl.lg.length lcap).ownBlock) => R5.out.trans ((Rel.of_grown (gdr ob) (by omega) (fun r e => by cases e)).trans (Rel.of_row hg (HRL.out ob) (q1le hS5 hcs' hlv') (by simp; omega))))
              clear hcs' hlv' hS5 hrowL hp hpp gdr
              obtain ⟨i1, hi1, hj0, hj1, hj2⟩ := info_parts Leg_info
              refine region_held_round (S := fun w' => w'.heap[w.heap.size + 1 + 1 + 1]? = some (.cells #[.int .i64 x.cy, .int .i64 x.gr, .slice (some ⟨gc, 0, none⟩) x.cs.length ccap] 24 (0, 0)) ∧ w'.heap[W1.heap.size + 1]? = some (.cells #[.int .i64 a, .int .i64 b] 54 (0, 0))) (by kernel_rfl) (by kernel_rfl) ⟨b3d, hL5⟩ (fun hS => ?_) (fun _ _ h => h)
              refine wpAnyH_take (i := 0) (v := ?vB0) rfl (by kernel_rfl) (by kernel_rfl) (by kernel_rfl) (fun _ _ _ h => h) (Or.inl ⟨by rfl, ?hB0⟩) hS ?rB0
              case hB0 =>
                intro w1 hSw
                obtain ⟨hSa, hSb⟩ := hSw
                have z2 : w1.cell? ⟨w.heap.size + 1 + 1 + 1, 2, none⟩ = some (.slice (some ⟨gc, 0, none⟩) x.cs.length ccap) := by simp [World.cell?, hSa]
                have z3 : w1.cell? ⟨W1.heap.size + 1, 0, none⟩ = some (.int .i64 a) := by simp [World.cell?, hSb]
                have z4 : w1.cell? ⟨W1.heap.size + 1, 1, none⟩ = some (.int .i64 b) := by simp [World.cell?, hSb]
                clear hSa hSb
                go_simp
                try with_reducible rfl
              (try simp only [Act.put])
              refine wpAnyH_take (i := 1) (v := ?vB1) rfl (by kernel_rfl) (by kernel_rfl) (by kernel_rfl) (fun _ _ _ h => h) (Or.inl ⟨by rfl, ?hB1⟩) hS ?rB1
              case hB1 =>
                intro w1 hSw
                obtain ⟨hSa, hSb⟩ := hSw
                have z2 : w1.cell? ⟨w.heap.size + 1 + 1 + 1, 2, none⟩ = some (.slice (some ⟨gc, 0, none⟩) x.cs.length ccap) := by simp [World.cell?, hSa]
                have z3 : w1.cell? ⟨W1.heap.size + 1, 0, none⟩ = some (.int .i64 a) := by simp [World.cell?, hSb]
                have z4 : w1.cell? ⟨W1.heap.size + 1, 1, none⟩ = some (.int .i64 b) := by simp [World.cell?, hSb]
                clear hSa hSb
                go_simp
                try with_reducible rfl
              (try simp only [Act.put])
              refine wpAnyH_take (i := 2) (v := ?vB2) rfl (by kernel_rfl) (by kernel_rfl) (by kernel_rfl) (fun _ _ _ h => h) (Or.inl ⟨by rfl, ?hB2⟩) hS ?rB2
              case hB2 =>
                intro w1 hSw
                obtain ⟨hSa, hSb⟩ := hSw
                have z2 : w1.cell? ⟨w.heap.size + 1 + 1 + 1, 2, none⟩ = some (.slice (some ⟨gc, 0, none⟩) x.cs.length ccap) := by simp [World.cell?, hSa]
                have z3 : w1.cell? ⟨W1.heap.size + 1, 0, none⟩ = some (.int .i64 a) := by simp [World.cell?, hSb]
                have z4 : w1.cell? ⟨W1.heap.size + 1, 1, none⟩ = some (.int .i64 b) := by simp [World.cell?, hSb]
                clear hSa hSb
                go_simp
                try with_reducible rfl
              (try simp only [Act.put])
              refine wpAnyH_take (i := 3) (v := ?vB3) rfl (by kernel_rfl) (by kernel_rfl) (by kernel_rfl) (fun _ _ _ h => h) (Or.inl ⟨by rfl, ?hB3⟩) hS ?rB3
              case hB3 =>
                intro w1 hSw
                obtain ⟨hSa, hSb⟩ := hSw
                have z2 : w1.cell? ⟨w.heap.size + 1 + 1 + 1, 2, none⟩ = some (.slice (some ⟨gc, 0, none⟩) x.cs.length ccap) := by simp [World.cell?, hSa]
                have z3 : w1.cell? ⟨W1.heap.size + 1, 0, none⟩ = some (.int .i64 a) := by simp [World.cell?, hSb]
                have z4 : w1.cell? ⟨W1.heap.size + 1, 1, none⟩ = some (.int .i64 b) := by simp [World.cell?, hSb]
                clear hSa hSb
                go_simp
                try with_reducible rfl
              (try simp only [Act.put])
              refine wpAnyH_take (i := 4) (v := ?vB4) rfl (by kernel_rfl) (by kernel_rfl) (by kernel_rfl) (fun _ _ _ h => h) (Or.inl ⟨by rfl, ?hB4⟩) hS ?rB4
              case hB4 =>
                intro w1 hSw
                obtain ⟨hSa, hSb⟩ := hSw
                have z2 : w1.cell? ⟨w.heap.size + 1 + 1 + 1, 2, none⟩ = some (.slice (some ⟨gc, 0, none⟩) x.cs.length ccap) := by simp [World.cell?, hSa]
                have z3 : w1.cell? ⟨W1.heap.size + 1, 0, none⟩ = some (.int .i64 a) := by simp [World.cell?, hSb]
                have z4 : w1.cell? ⟨W1.heap.size + 1, 1, none⟩ = some (.int .i64 b) := by simp [World.cell?, hSb]
                clear hSa hSb
                go_simp
                try with_reducible rfl
              (try simp only [Act.put])
              refine wpAnyH_take (i := 5) (v := ?vB5) rfl (by kernel_rfl) (by kernel_rfl) (by kernel_rfl) (fun _ _ _ h => h) (Or.inl ⟨by rfl, ?hB5⟩) hS ?rB5
              case hB5 =>
                intro w1 hSw
                obtain ⟨hSa, hSb⟩ := hSw
                have z2 : w1.cell? ⟨w.heap.size + 1 + 1 + 1, 2, none⟩ = some (.slice (some ⟨gc, 0, none⟩) x.cs.length ccap) := by simp [World.cell?, hSa]
                have z3 : w1.cell? ⟨W1.heap.size + 1, 0, none⟩ = some (.int .i64 a) := by simp [World.cell?, hSb]
                have z4 : w1.cell? ⟨W1.heap.size + 1, 1, none⟩ = some (.int .i64 b) := by simp [World.cell?, hSb]
                clear hSa hSb
                go_simp
                try with_reducible rfl
              (try simp only [Act.put])
              refine wpAnyH_take (i := 6) (v := ?vB6) rfl (by kernel_rfl) (by kernel_rfl) (by kernel_rfl) (fun _ _ _ h => h) (Or.inl ⟨by rfl, ?hB6⟩) hS ?rB6
              case hB6 =>
                intro w1 hSw
                obtain ⟨hSa, hSb⟩ := hSw
                have z2 : w1.cell? ⟨w.heap.size + 1 + 1 + 1, 2, none⟩ = some (.slice (some ⟨gc, 0, none⟩) x.cs.length ccap) := by simp [World.cell?, hSa]
                have z3 : w1.cell? ⟨W1.heap.size + 1, 0, none⟩ = some (.int .i64 a) := by simp [World.cell?, hSb]
                have z4 : w1.cell? ⟨W1.heap.size + 1, 1, none⟩ = some (.int .i64 b) := by simp [World.cell?, hSb]
                clear hSa hSb
                go_simp
                try with_reducible rfl
              (try simp only [Act.put])
              refine wpAnyH_take (i := 7) (v := ?vB7) rfl (by kernel_rfl) (by kernel_rfl) (by kernel_rfl) (fun _ _ _ h => h) (Or.inl ⟨by rfl, ?hB7⟩) hS ?rB7
              case hB7 =>
                intro w1 hSw
                obtain ⟨hSa, hSb⟩ := hSw
                have z2 : w1.cell? ⟨w.heap.size + 1 + 1 + 1, 2, none⟩ = some (.slice (some ⟨gc, 0, none⟩) x.cs.length ccap) := by simp [World.cell?, hSa]
                have z3 : w1.cell? ⟨W1.heap.size + 1, 0, none⟩ = some (.int .i64 a) := by simp [World.cell?, hSb]
                have z4 : w1.cell? ⟨W1.heap.size + 1, 1, none⟩ = some (.int .i64 b) := by simp [World.cell?, hSb]
                clear hSa hSb
                go_simp
                try with_reducible rfl
              (try simp only [Act.put])
              refine wpAnyH_take (i := 8) (v := ?vB8) rfl (by kernel_rfl) (by kernel_rfl) (by kernel_rfl) (fun _ _ _ h => h) (Or.inl ⟨by rfl, ?hB8⟩) hS ?rB8
              case hB8 =>
                intro w1 hSw
                obtain ⟨hSa, hSb⟩ := hSw
                have z2 : w1.cell? ⟨w.heap.size + 1 + 1 + 1, 2, none⟩ = some (.slice (some ⟨gc, 0, none⟩) x.cs.length ccap) := by simp [World.cell?, hSa]
                have z3 : w1.cell? ⟨W1.heap.size + 1, 0, none⟩ = some (.int .i64 a) := by simp [World.cell?, hSb]
                have z4 : w1.cell? ⟨W1.heap.size + 1, 1, none⟩ = some (.int .i64 b) := by simp [World.cell?, hSb]
                clear hSa hSb
                go_simp
                try with_reducible rfl
              (try simp only [Act.put])
              refine wpAnyH_take (i := 9) (v := ?vB9) rfl (by kernel_rfl) (by kernel_rfl) (by kernel_rfl) (fun _ _ _ h => h) (Or.inl ⟨by rfl, ?hB9⟩) hS ?rB9
              case hB9 =>
                intro w1 hSw
                obtain ⟨hSa, hSb⟩ := hSw
                have z2 : w1.cell? ⟨w.heap.size + 1 + 1 + 1, 2, none⟩ = some (.slice (some ⟨gc, 0, none⟩) x.cs.length ccap) := by simp [World.cell?, hSa]
                have z3 : w1.cell? ⟨W1.heap.size + 1, 0, none⟩ = some (.int .i64 a) := by simp [World.cell?, hSb]
                have z4 : w1.cell? ⟨W1.heap.size + 1, 1, none⟩ = some (.int .i64 b) := by simp [World.cell?, hSb]
                clear hSa hSb
                go_simp
                try with_reducible rfl
              (try simp only [Act.put])
              refine wpAnyH_take (i := 11) (v := ?vB11) rfl (by kernel_rfl) (by kernel_rfl) (by kernel_rfl) (fun _ _ _ h => h) (Or.inl ⟨by rfl, ?hB11⟩) hS ?rB11
              case hB11 =>
                intro w1 hSw
                obtain ⟨hSa, hSb⟩ := hSw
                have z2 : w1.cell? ⟨w.heap.size + 1 + 1 + 1, 2, none⟩ = some (.slice (some ⟨gc, 0, none⟩) x.cs.length ccap) := by simp [World.cell?, hSa]
                have z3 : w1.cell? ⟨W1.heap.size + 1, 0, none⟩ = some (.int .i64 a) := by simp [World.cell?, hSb]
                have z4 : w1.cell? ⟨W1.heap.size + 1, 1, none⟩ = some (.int .i64 b) := by simp [World.cell?, hSb]
                clear hSa hSb
                go_simp
                try with_reducible rfl
              (try simp only [Act.put])
              refine wpAnyH_ready (rs := [10, 12]) (by kernel_rfl) (by simp) (AllReadyH.cons rfl (fun K hK => ?firstB) (AllReadyH.cons rfl (fun K hK => ?secondB) AllReadyH.nil))
              case firstB =>
                go_simp
                refine hK.out _ _ hS (fun _ => ?_)
                clear hK K
                refine wpAnyH_ready (rs := [12]) (by kernel_rfl) (by simp) (AllReadyH.cons rfl (fun K hK => ?_) AllReadyH.nil)
                go_simp
                refine hK.out _ _ ⟨(Below.heap_alloc _ _ _ (heap_lt b3d)).trans b3d, (Below.heap_alloc _ _ _ (heap_lt hL5)).trans hL5⟩ (fun hS => ?_)
                clear hK K
                refine wpAnyH_ready (rs := [13]) (by kernel_rfl) (by simp) (AllReadyH.cons rfl (fun K hK => ?_) AllReadyH.nil)
                rw [if_pos (by kernel_rfl)]
                refine wp_append_own _ _ _ 52 rfl Bl 54 i1 _ 2 16 Tryz.underlying52 hi1 hj0 hj1 hj2 rfl (by decide) (.slice LA cl.lg.length lcap) cl.lg.length _ rfl (HRL.out (.cells #[.int .i64 a, .int .i64 b] 54)) ⟨X.heap.size, 0, none⟩ 1 1 [.int .i64 a, .int .i64 b] rfl rfl (World.news_of_block (cs := #[.int .i64 a, .int .i64 b]) (heap_alloc_new X.drew _)) (by simp [Value.oneCell']) (by unfold maxLen; omega) (by omega) (by simp; omega) ?_
                intro v' w2 hown' hgrow _
                obtain ⟨g', cap', rfl⟩ := ownsRow_succ hown'
                have hne1 : ∀ k', (Value.slice LA cl.lg.length lcap).ownBlock = some k' → Bl ≤ k' ∧ k' < W1.heap.size := fun k' hk' => ⟨((HRL.out (.cells #[.int .i64 a, .int .i64 b] 54)).lt k' hk').1, HLB.out k' hk'⟩
                have hgcne : some gc ≠ (Value.slice LA cl.lg.length lcap).ownBlock := own_ne (HP5.out (.cells #[.int .i64 a, .int .i64 b] 54)).row (HRL.out (.cells #[.int .i64 a, .int .i64 b] 54)) (by decide) rfl
                have sa : w2.heap[w.heap.size + 1 + 1 + 1]? = _ := (hgrow.block _ (by simp; omega) (fun e => by have := (hne1 _ e.symm).1; omega)).trans ((Below.heap_alloc X.drew _ _ (heap_lt b3d)).trans b3d)
                have sb : w2.heap[W1.heap.size + 1]? = _ := (hgrow.block _ (by have := heap_lt hL5; simp; omega) (fun e => by have := (hne1 _ e.symm).2; omega)).trans ((Below.heap_alloc X.drew _ _ (heap_lt hL5)).trans hL5)
                have e_gc : w2.heap[gc]? = X.heap[gc]? := (hgrow.block _ (by simp; omega) hgcne).trans (Below.heap_alloc X.drew _ _ (by show gc < X.heap.size; omega))
                have y8 : w2.cell? ⟨gc, p * 13 + 8, none⟩ = some (.slice LA cl.lg.length lcap) := (World.cell?_of_block e_gc).trans hc8
                have yf : ∀ i, w2.frozen? ⟨gc, i, none⟩ = false := fun i => (World.frozen?_of_block e_gc).trans (hfr i)
                have B6 := Lib.hid ((B5.out.grown (W' := X.drew.alloc (.cells #[.int .i64 a, .int .i64 b] 54)) (row := none) ⟨rfl, rfl, rfl, (World.grownBy_alloc X.drew _ none).size, (World.grownBy_alloc X.drew _ none).block⟩ (fun r e => by cases e)).grown hgrow (fun r e => Or.inr (by have := (hne1 _ e).1; omega)))
                have B7 := Lib.hid (B6.out.grown (grownBy_set w2 gc (p * 13 + 8) (.slice (some ⟨g', 0, none⟩) (cl.lg.length + 1) cap')) (fun r e => by cases e; exact Or.inr (by omega)))
                have R7 := Lib.hid ((HRG.out w2 (.cells #[.int .i64 a, .int .i64 b] 54) hgrow).trans (Rel.of_grown (grownBy_set w2 gc (p * 13 + 8) (.slice (some ⟨g', 0, none⟩) (cl.lg.length + 1) cap')) (by have := (HRG.out w2 (.cells #[.int .i64 a, .int .i64 b] 54) hgrow).size; omega) (fun r e => by
                  cases e
                  obtain ⟨-, -, cur, hcur⟩ := ownsRow_own (HP5.out (.cells #[.int .i64 a, .int .i64 b] 54)).row (r := gc) rfl
                  exact ⟨by omega, by omega, fun _ => ⟨_, _, _, (hgrow.block _ (heap_lt hcur) hgcne).trans hcur⟩⟩)))
                have P7 : Hid (PS (w2.setCell ⟨gc, p * 13 + 8, none⟩ (.slice (some ⟨g', 0, none⟩) (cl.lg.length + 1) cap')) (w.heap.size + 6) (.slice (some ⟨gc, 0, none⟩) (init.length + 1) ccap) (init ++ [{ cl with lg := cl.lg ++ [(a, b)] }]) (linit ++ [.slice (some ⟨g', 0, none⟩) (cl.lg.length + 1) cap']) Bl) := by
                  obtain ⟨gq, eq, h⟩ := PS.leg (x := (a, b)) (HP5.out (.cells #[.int .i64 a, .int .i64 b] 54)) hown' hgrow
                  injection eq with eq
                  injection eq with eq
                  subst eq
                  rw [HP0.out]
                  exact Lib.hid h
                clear hown' hgrow hne1 e_gc
                refine hK.out _ _ ⟨sa, sb⟩ (fun hS => ?_)
                clear hK K
                refine wpAnyH_ready (rs := [14]) (by kernel_rfl) (by simp) (AllReadyH.cons rfl (fun K hK => ?_) AllReadyH.nil)
                go_simp
                refine hK.out _ _ hS (fun hS => ?_)
                clear hK K
                refine wpAnyH_ready (rs := [15]) (by kernel_rfl) (by simp) (AllReadyH.cons rfl (fun K hK => ?_) AllReadyH.nil)
                go_simp
                refine hK.out _ _ hS (fun hS => ?_)
                clear hK K
                refine wpAnyH_ready (rs := [16]) (by kernel_rfl) (by simp) (AllReadyH.cons rfl (fun K hK => ?_) AllReadyH.nil)
                go_simp
                refine hK.out _ _ ⟨(set_far _ _ _ _ _ (by omega)).trans sa, (set_far _ _ _ _ _ (by omega)).trans sb⟩ (fun _ => ?_)
                clear hK K
                refine wpAnyH_done (by kernel_rfl) ?_ _
                obtain ⟨Z, hZ⟩ : ∃ Z, Z = w2.setCell ⟨gc, p * 13 + 8, none⟩ (.slice (some ⟨g', 0, none⟩) (cl.lg.length + 1) cap') := ⟨_, rfl⟩
                rw [← hZ] at P7 B7 R7 ⊢
                clear hZ sa sb y8 yf B6
                dsimp only [Normal]
                obtain ⟨a1, a2, a3⟩ := B7.out.cells
                clear b3d hc8d hc8a hc8b hc8c hc8 hL5 hq1 hq2 hq3 hS hfr i1 hi1 hj0 hj1 hj2
                gi_wp2
                exact fin_bad (n := k) R7.out hgs hsz B7.out HB.out HG.out
              case secondB =>
                go_simp
                refine hK.out _ _ ⟨(Below.heap_alloc _ _ _ (heap_lt b3d)).trans b3d, (Below.heap_alloc _ _ _ (heap_lt hL5)).trans hL5⟩ (fun hS => ?_)
                clear hK K
                refine wpAnyH_ready (rs := [10]) (by kernel_rfl) (by simp) (AllReadyH.cons rfl (fun K hK => ?_) AllReadyH.nil)
                go_simp
                refine hK.out _ _ hS (fun hS => ?_)
                clear hK K
                refine wpAnyH_ready (rs := [13]) (by kernel_rfl) (by simp) (AllReadyH.cons rfl (fun K hK => ?_) AllReadyH.nil)
                rw [if_pos (by kernel_rfl)]
                refine wp_append_own _ _ _ 52 rfl Bl 54 i1 _ 2 16 Tryz.underlying52 hi1 hj0 hj1 hj2 rfl (by decide) (.slice LA cl.lg.length lcap) cl.lg.length _ rfl (HRL.out (.cells #[.int .i64 a, .int .i64 b] 54)) ⟨X.heap.size, 0, none⟩ 1 1 [.int .i64 a, .int .i64 b] rfl rfl (World.news_of_block (cs := #[.int .i64 a, .int .i64 b]) (heap_alloc_new X.drew _)) (by simp [Value.oneCell']) (by unfold maxLen; omega) (by omega) (by simp; omega) ?_
                intro v' w2 hown' hgrow _
                obtain ⟨g', cap', rfl⟩ := ownsRow_succ hown'
                have hne1 : ∀ k', (Value.slice LA cl.lg.length lcap).ownBlock = some k' → Bl ≤ k' ∧ k' < W1.heap.size := fun k' hk' => ⟨((HRL.out (.cells #[.int .i64 a, .int .i64 b] 54)).lt k' hk').1, HLB.out k' hk'⟩
                have hgcne : some gc ≠ (Value.slice LA cl.lg.length lcap).ownBlock := own_ne (HP5.out (.cells #[.int .i64 a, .int .i64 b] 54)).row (HRL.out (.cells #[.int .i64 a, .int .i64 b] 54)) (by decide) rfl
                have sa : w2.heap[w.heap.size + 1 + 1 + 1]? = _ := (hgrow.block _ (by simp; omega) (fun e => by have := (hne1 _ e.symm).1; omega)).trans ((Below.heap_alloc X.drew _ _ (heap_lt b3d)).trans b3d)
                have sb : w2.heap[W1.heap.size + 1]? = _ := (hgrow.block _ (by have := heap_lt hL5; simp; omega) (fun e => by have := (hne1 _ e.symm).2; omega)).trans ((Below.heap_alloc X.drew _ _ (heap_lt hL5)).trans hL5)
                have e_gc : w2.heap[gc]? = X.heap[gc]? := (hgrow.block _ (by simp; omega) hgcne).trans (Below.heap_alloc X.drew _ _ (by show gc < X.heap.size; omega))
                have y8 : w2.cell? ⟨gc, p * 13 + 8, none⟩ = some (.slice LA cl.lg.length lcap) := (World.cell?_of_block e_gc).trans hc8
                have yf : ∀ i, w2.frozen? ⟨gc, i, none⟩ = false := fun i => (World.frozen?_of_block e_gc).trans (hfr i)
                have B6 := Lib.hid ((B5.out.grown (W' := X.drew.alloc (.cells #[.int .i64 a, .int .i64 b] 54)) (row := none) ⟨rfl, rfl, rfl, (World.grownBy_alloc X.drew _ none).size, (World.grownBy_alloc X.drew _ none).block⟩ (fun r e => by cases e)).grown hgrow (fun r e => Or.inr (by have := (hne1 _ e).1; omega)))
                have B7 := Lib.hid (B6.out.grown (grownBy_set w2 gc (p * 13 + 8) (.slice (some ⟨g', 0, none⟩) (cl.lg.length + 1) cap')) (fun r e => by cases e; exact Or.inr (by omega)))
                have R7 := Lib.hid ((HRG.out w2 (.cells #[.int .i64 a, .int .i64 b] 54) hgrow).trans (Rel.of_grown (grownBy_set w2 gc (p * 13 + 8) (.slice (some ⟨g', 0, none⟩) (cl.lg.length + 1) cap')) (by have := (HRG.out w2 (.cells #[.int .i64 a, .int .i64 b] 54) hgrow).size; omega) (fun r e => by
                  cases e
                  obtain ⟨-, -, cur, hcur⟩ := ownsRow_own (HP5.out (.cells #[.int .i64 a, .int .i64 b] 54)).row (r := gc) rfl
                  exact ⟨by omega, by omega, fun _ => ⟨_, _, _, (hgrow.block _ (heap_lt hcur) hgcne).trans hcur⟩⟩)))
                have P7 : Hid (PS (w2.setCell ⟨gc, p * 13 + 8, none⟩ (.slice (some ⟨g', 0, none⟩) (cl.lg.length + 1) cap')) (w.heap.size + 6) (.slice (some ⟨gc, 0, none⟩) (init.length + 1) ccap) (init ++ [{ cl with lg := cl.lg ++ [(a, b)] }]) (linit ++ [.slice (some ⟨g', 0, none⟩) (cl.lg.length + 1) cap']) Bl) := by
                  obtain ⟨gq, eq, h⟩ := PS.leg (x := (a, b)) (HP5.out (.cells #[.int .i64 a, .int .i64 b] 54)) hown' hgrow
                  injection eq with eq
                  injection eq with eq
                  subst eq
                  rw [HP0.out]
                  exact Lib.hid h
                clear hown' hgrow hne1 e_gc
                refine hK.out _ _ ⟨sa, sb⟩ (fun hS => ?_)
                clear hK K
                refine wpAnyH_ready (rs := [14]) (by kernel_rfl) (by simp) (AllReadyH.cons rfl (fun K hK => ?_) AllReadyH.nil)
                go_simp
                refine hK.out _ _ hS (fun hS => ?_)
                clear hK K
                refine wpAnyH_ready (rs := [15]) (by kernel_rfl) (by simp) (AllReadyH.cons rfl (fun K hK => ?_) AllReadyH.nil)
                go_simp
                refine hK.out _ _ hS (fun hS => ?_)
                clear hK K
                refine wpAnyH_ready (rs := [16]) (by kernel_rfl) (by simp) (AllReadyH.cons rfl (fun K hK => ?_) AllReadyH.nil)
                go_simp
                refine hK.out _ _ ⟨(set_far _ _ _ _ _ (by omega)).trans sa, (set_far _ _ _ _ _ (by omega)).trans sb⟩ (fun _ => ?_)
                clear hK K
                refine wpAnyH_done (by kernel_rfl) ?_ _
                obtain ⟨Z, hZ⟩ : ∃ Z, Z = w2.setCell ⟨gc, p * 13 + 8, none⟩ (.slice (some ⟨g', 0, none⟩) (cl.lg.length + 1) cap') := ⟨_, rfl⟩
                rw [← hZ] at P7 B7 R7 ⊢
                clear hZ sa sb y8 yf B6
                dsimp only [Normal]
                obtain ⟨a1, a2, a3⟩ := B7.out.cells
                clear b3d hc8d hc8a hc8b hc8c hc8 hL5 hq1 hq2 hq3 hS hfr i1 hi1 hj0 hj1 hj2
                gi_wp2
                exact fin_bad (n := k) R7.out hgs hsz B7.out HB.out HG.out
            | some ab =>
              obtain ⟨a, b⟩ := ab
              have HG : Hid (goL { x with cs := addL x.cs (a, b) } (k + 1) (splitC 10 m) = goL En.zero 1 (splitC 10 s)) := Lib.hid (Eq.trans (by rw [hkb, step_leg HD.out (fun e => hc0 (by rw [e]; rfl)) hr2]) HGO.out)
              have HR2 := Lib.hid hr2
              have BAh := Lib.hid BA
              clear hr2 HGO hkb hc0 BA
              gi_wp2
              refine (calls_round (pair69_ok K A c ws w_leg _ (HP.out _ (((Below.refl _ _).alloc (Nat.le_refl _) _).alloc (by simp) _) (by simp; omega)).1 (HP.out _ (((Below.refl _ _).alloc (Nat.le_refl _) _).alloc (by simp) _) (by simp; omega)).2.1 (HP.out _ (((Below.refl _ _).alloc (Nat.le_refl _) _).alloc (by simp) _) (by simp; omega)).2.2 hcc hw1 HW2.out a b HR2.out)).mono ?_
              rintro e W4 ⟨rfl, hb4⟩
              have hL4 : W4.heap[W1.heap.size + 1]? = some (.cells #[.int .i64 0, .int .i64 0] 54 (0, 0)) := (hb4.block _ (by simp)).trans (heap_alloc_at _ _ _ (by simp))
              have hBW4 : Below W1.heap.size W1 W4 := (((Below.refl _ _).alloc (Nat.le_refl _) _).alloc (by simp) _).trans (hb4.mono (by simp; omega))
              have l0 : W4.cell? ⟨W1.heap.size + 1, 0, none⟩ = some (.int .i64 0) := by simp [World.cell?, hL4]
              have l1 : W4.cell? ⟨W1.heap.size + 1, 1, none⟩ = some (.int .i64 0) := by simp [World.cell?, hL4]
              have l2 : ∀ i, W4.frozen? ⟨W1.heap.size + 1, i, none⟩ = false := fun i => by simp [World.frozen?, hL4]
              have HL4 := Lib.hid hL4
              have HBW4 := Lib.hid hBW4
              clear hb4 hL4 hBW4
              gi_wp2
              obtain ⟨X, hX⟩ : ∃ X, X = (W4.setCell ⟨W1.heap.size + 1, 0, none⟩ (.int .i64 a)).setCell ⟨W1.heap.size + 1, 1, none⟩ (.int .i64 b) := ⟨_, rfl⟩
              rw [← hX]
              have hBX : Below W1.heap.size W1 X := by rw [hX]; exact (HBW4.out.setCell (p := ⟨W1.heap.size + 1, 0, none⟩) (Nat.le_succ _) _).setCell (p := ⟨W1.heap.size + 1, 1, none⟩) (Nat.le_succ _) _
              have hL5 : X.heap[W1.heap.size + 1]? = some (.cells #[.int .i64 a, .int .i64 b] 54 (0, 0)) := by rw [hX]; exact setCell_heap _ _ _ _ _ _ _ (setCell_heap _ _ _ _ _ _ _ HL4.out)
              have B5 := Lib.hid (B1.out.below hBX)
              have hS5 := S1.out.below hBX
              have R5 := Lib.hid (R1.out.trans (Rel.of_below hBX (by omega)))
              have hX1 := hBX.size
              clear hBX hX l0 l1 l2 HL4 HBW4 a0 a1 a2
              obtain ⟨gc, init, cl, linit, LA, lcap, rfl, hgc, hcs', hlv', hc8, hfr, hrowL⟩ := hS5.last (by omega)
              have hgc1 : gc < W1.heap.size := (S1.out.row.lt gc rfl).2
              have HLB := Lib.hid (fun k' (hk' : (Value.slice LA cl.lg.length lcap).ownBlock = some k') => (S1.out.lt (j := linit.length) (by rw [hlv']; simp) hk').2)
              have HCS := Lib.hid hcs'
              have HLV := Lib.hid hlv'
              have HS5 := Lib.hid hS5
              have hp : (x.cs.length : Int) = (init.length : Int) + 1 := by rw [hcs']; simp
              have hlgl : cl.lg.length ≤ k := HLG.out cl (by rw [hcs']; simp)
              obtain ⟨p, hpp⟩ : ∃ p, p = init.length := ⟨_, rfl⟩
              have HP0 := Lib.hid hpp
              rw [← hpp] at hp hc8
              have hq1 : IntKind.i64.wrap ((x.cs.length : Int) - 1) = (p : Int) := by rw [hp, IntWalk.i64_in _ (by omega)]; omega
              have hq2 : (p : Int) < (x.cs.length : Int) := by omega
              have hq3 : p < x.cs.length := by omega
              have b3d : X.drew.heap[w.heap.size + 1 + 1 + 1]? = some (.cells #[.int .i64 x.cy, .int .i64 x.gr, .slice (some ⟨gc, 0, none⟩) x.cs.length ccap] 24 (0, 0)) := B5.out.b3
              have hc8d : X.drew.cell? ⟨gc, p * 13 + 8, none⟩ = some (.slice LA cl.lg.length lcap) := hc8
              have hc8a : ∀ ob, (X.drew.alloc ob).cell? ⟨gc, p * 13 + 8, none⟩ = some (.slice LA cl.lg.length lcap) := fun ob => (World.cell?_alloc_lt _ _ _ (by show gc < _; simp; omega)).trans hc8d
              have hc8b : ∀ ob, (X.alloc ob).drew.cell? ⟨gc, p * 13 + 8, none⟩ = some (.slice LA cl.lg.length lcap) := fun ob => hc8a ob
              have hc8c : ∀ ob, (X.alloc ob).cell? ⟨gc, p * 13 + 8, none⟩ = some (.slice LA cl.lg.length lcap) := fun ob => hc8a ob
              have gdr : ∀ ob, X.grownBy (X.drew.alloc ob) none := fun ob => ⟨rfl, rfl, rfl, (World.grownBy_alloc X.drew ob none).size, (World.grownBy_alloc X.drew ob none).block⟩
              have HRL : Hid (∀ ob, (X.drew.alloc ob).ownsRow Bl 54 2 (.slice LA cl.lg.length lcap) cl.lg.length ((flat cl.lg).map (Value.int .i64))) := Lib.hid (fun ob => World.ownsRow.alloc (w := X.drew) hrowL ob)
              have HP5 : Hid (∀ ob, PS (X.drew.alloc ob) (w.heap.size + 6) (.slice (some ⟨gc, 0, none⟩) (init.length + 1) ccap) (init ++ [cl]) (linit ++ [.slice LA cl.lg.length lcap]) Bl) := Lib.hid (fun ob => by
                have h := hS5.grown (gdr ob) (foreign_none _)
                rw [hlv', hcs'] at h
                simpa only [List.length_append, List.length_singleton] using h)
              have HHP := Lib.hid hp
              have hBlge := q1le hS5 hcs' hlv'
              have HRG := Lib.hid (fun (w1 : World) (ob : Obj) (hg : (X.drew.alloc ob).grownBy w1 (Value.slice LA cl.lg.length lcap).ownBlock) => R5.out.trans ((Rel.of_grown (gdr ob) (by omega) (fun r e => by cases e)).trans (Rel.of_row hg (HRL.out ob) (q1le hS5 hcs' hlv') (by simp; omega))))
              clear hcs' hlv' hS5 hrowL hp hpp gdr
              obtain ⟨i1, hi1, hj0, hj1, hj2⟩ := info_parts Leg_info
              refine region_held_round (S := fun w' => w'.heap[w.heap.size + 1 + 1 + 1]? = some (.cells #[.int .i64 x.cy, .int .i64 x.gr, .slice (some ⟨gc, 0, none⟩) x.cs.length ccap] 24 (0, 0)) ∧ w'.heap[W1.heap.size + 1]? = some (.cells #[.int .i64 a, .int .i64 b] 54 (0, 0))) (by kernel_rfl) (by kernel_rfl) ⟨b3d, hL5⟩ (fun hS => ?_) (fun _ _ h => h)
              refine wpAnyH_take (i := 0) (v := ?vA0) rfl (by kernel_rfl) (by kernel_rfl) (by kernel_rfl) (fun _ _ _ h => h) (Or.inl ⟨by rfl, ?hA0⟩) hS ?rA0
              case hA0 =>
                intro w1 hSw
                obtain ⟨hSa, hSb⟩ := hSw
                have z2 : w1.cell? ⟨w.heap.size + 1 + 1 + 1, 2, none⟩ = some (.slice (some ⟨gc, 0, none⟩) x.cs.length ccap) := by simp [World.cell?, hSa]
                have z3 : w1.cell? ⟨W1.heap.size + 1, 0, none⟩ = some (.int .i64 a) := by simp [World.cell?, hSb]
                have z4 : w1.cell? ⟨W1.heap.size + 1, 1, none⟩ = some (.int .i64 b) := by simp [World.cell?, hSb]
                clear hSa hSb
                go_simp
                try with_reducible rfl
              (try simp only [Act.put])
              refine wpAnyH_take (i := 1) (v := ?vA1) rfl (by kernel_rfl) (by kernel_rfl) (by kernel_rfl) (fun _ _ _ h => h) (Or.inl ⟨by rfl, ?hA1⟩) hS ?rA1
              case hA1 =>
                intro w1 hSw
                obtain ⟨hSa, hSb⟩ := hSw
                have z2 : w1.cell? ⟨w.heap.size + 1 + 1 + 1, 2, none⟩ = some (.slice (some ⟨gc, 0, none⟩) x.cs.length ccap) := by simp [World.cell?, hSa]
                have z3 : w1.cell? ⟨W1.heap.size + 1, 0, none⟩ = some (.int .i64 a) := by simp [World.cell?, hSb]
                have z4 : w1.cell? ⟨W1.heap.size + 1, 1, none⟩ = some (.int .i64 b) := by simp [World.cell?, hSb]
                clear hSa hSb
                go_simp
                try with_reducible rfl
              (try simp only [Act.put])
              refine wpAnyH_take (i := 2) (v := ?vA2) rfl (by kernel_rfl) (by kernel_rfl) (by kernel_rfl) (fun _ _ _ h => h) (Or.inl ⟨by rfl, ?hA2⟩) hS ?rA2
              case hA2 =>
                intro w1 hSw
                obtain ⟨hSa, hSb⟩ := hSw
                have z2 : w1.cell? ⟨w.heap.size + 1 + 1 + 1, 2, none⟩ = some (.slice (some ⟨gc, 0, none⟩) x.cs.length ccap) := by simp [World.cell?, hSa]
                have z3 : w1.cell? ⟨W1.heap.size + 1, 0, none⟩ = some (.int .i64 a) := by simp [World.cell?, hSb]
                have z4 : w1.cell? ⟨W1.heap.size + 1, 1, none⟩ = some (.int .i64 b) := by simp [World.cell?, hSb]
                clear hSa hSb
                go_simp
                try with_reducible rfl
              (try simp only [Act.put])
              refine wpAnyH_take (i := 3) (v := ?vA3) rfl (by kernel_rfl) (by kernel_rfl) (by kernel_rfl) (fun _ _ _ h => h) (Or.inl ⟨by rfl, ?hA3⟩) hS ?rA3
              case hA3 =>
                intro w1 hSw
                obtain ⟨hSa, hSb⟩ := hSw
                have z2 : w1.cell? ⟨w.heap.size + 1 + 1 + 1, 2, none⟩ = some (.slice (some ⟨gc, 0, none⟩) x.cs.length ccap) := by simp [World.cell?, hSa]
                have z3 : w1.cell? ⟨W1.heap.size + 1, 0, none⟩ = some (.int .i64 a) := by simp [World.cell?, hSb]
                have z4 : w1.cell? ⟨W1.heap.size + 1, 1, none⟩ = some (.int .i64 b) := by simp [World.cell?, hSb]
                clear hSa hSb
                go_simp
                try with_reducible rfl
              (try simp only [Act.put])
              refine wpAnyH_take (i := 4) (v := ?vA4) rfl (by kernel_rfl) (by kernel_rfl) (by kernel_rfl) (fun _ _ _ h => h) (Or.inl ⟨by rfl, ?hA4⟩) hS ?rA4
              case hA4 =>
                intro w1 hSw
                obtain ⟨hSa, hSb⟩ := hSw
                have z2 : w1.cell? ⟨w.heap.size + 1 + 1 + 1, 2, none⟩ = some (.slice (some ⟨gc, 0, none⟩) x.cs.length ccap) := by simp [World.cell?, hSa]
                have z3 : w1.cell? ⟨W1.heap.size + 1, 0, none⟩ = some (.int .i64 a) := by simp [World.cell?, hSb]
                have z4 : w1.cell? ⟨W1.heap.size + 1, 1, none⟩ = some (.int .i64 b) := by simp [World.cell?, hSb]
                clear hSa hSb
                go_simp
                try with_reducible rfl
              (try simp only [Act.put])
              refine wpAnyH_take (i := 5) (v := ?vA5) rfl (by kernel_rfl) (by kernel_rfl) (by kernel_rfl) (fun _ _ _ h => h) (Or.inl ⟨by rfl, ?hA5⟩) hS ?rA5
              case hA5 =>
                intro w1 hSw
                obtain ⟨hSa, hSb⟩ := hSw
                have z2 : w1.cell? ⟨w.heap.size + 1 + 1 + 1, 2, none⟩ = some (.slice (some ⟨gc, 0, none⟩) x.cs.length ccap) := by simp [World.cell?, hSa]
                have z3 : w1.cell? ⟨W1.heap.size + 1, 0, none⟩ = some (.int .i64 a) := by simp [World.cell?, hSb]
                have z4 : w1.cell? ⟨W1.heap.size + 1, 1, none⟩ = some (.int .i64 b) := by simp [World.cell?, hSb]
                clear hSa hSb
                go_simp
                try with_reducible rfl
              (try simp only [Act.put])
              refine wpAnyH_take (i := 6) (v := ?vA6) rfl (by kernel_rfl) (by kernel_rfl) (by kernel_rfl) (fun _ _ _ h => h) (Or.inl ⟨by rfl, ?hA6⟩) hS ?rA6
              case hA6 =>
                intro w1 hSw
                obtain ⟨hSa, hSb⟩ := hSw
                have z2 : w1.cell? ⟨w.heap.size + 1 + 1 + 1, 2, none⟩ = some (.slice (some ⟨gc, 0, none⟩) x.cs.length ccap) := by simp [World.cell?, hSa]
                have z3 : w1.cell? ⟨W1.heap.size + 1, 0, none⟩ = some (.int .i64 a) := by simp [World.cell?, hSb]
                have z4 : w1.cell? ⟨W1.heap.size + 1, 1, none⟩ = some (.int .i64 b) := by simp [World.cell?, hSb]
                clear hSa hSb
                go_simp
                try with_reducible rfl
              (try simp only [Act.put])
              refine wpAnyH_take (i := 7) (v := ?vA7) rfl (by kernel_rfl) (by kernel_rfl) (by kernel_rfl) (fun _ _ _ h => h) (Or.inl ⟨by rfl, ?hA7⟩) hS ?rA7
              case hA7 =>
                intro w1 hSw
                obtain ⟨hSa, hSb⟩ := hSw
                have z2 : w1.cell? ⟨w.heap.size + 1 + 1 + 1, 2, none⟩ = some (.slice (some ⟨gc, 0, none⟩) x.cs.length ccap) := by simp [World.cell?, hSa]
                have z3 : w1.cell? ⟨W1.heap.size + 1, 0, none⟩ = some (.int .i64 a) := by simp [World.cell?, hSb]
                have z4 : w1.cell? ⟨W1.heap.size + 1, 1, none⟩ = some (.int .i64 b) := by simp [World.cell?, hSb]
                clear hSa hSb
                go_simp
                try with_reducible rfl
              (try simp only [Act.put])
              refine wpAnyH_take (i := 8) (v := ?vA8) rfl (by kernel_rfl) (by kernel_rfl) (by kernel_rfl) (fun _ _ _ h => h) (Or.inl ⟨by rfl, ?hA8⟩) hS ?rA8
              case hA8 =>
                intro w1 hSw
                obtain ⟨hSa, hSb⟩ := hSw
                have z2 : w1.cell? ⟨w.heap.size + 1 + 1 + 1, 2, none⟩ = some (.slice (some ⟨gc, 0, none⟩) x.cs.length ccap) := by simp [World.cell?, hSa]
                have z3 : w1.cell? ⟨W1.heap.size + 1, 0, none⟩ = some (.int .i64 a) := by simp [World.cell?, hSb]
                have z4 : w1.cell? ⟨W1.heap.size + 1, 1, none⟩ = some (.int .i64 b) := by simp [World.cell?, hSb]
                clear hSa hSb
                go_simp
                try with_reducible rfl
              (try simp only [Act.put])
              refine wpAnyH_take (i := 9) (v := ?vA9) rfl (by kernel_rfl) (by kernel_rfl) (by kernel_rfl) (fun _ _ _ h => h) (Or.inl ⟨by rfl, ?hA9⟩) hS ?rA9
              case hA9 =>
                intro w1 hSw
                obtain ⟨hSa, hSb⟩ := hSw
                have z2 : w1.cell? ⟨w.heap.size + 1 + 1 + 1, 2, none⟩ = some (.slice (some ⟨gc, 0, none⟩) x.cs.length ccap) := by simp [World.cell?, hSa]
                have z3 : w1.cell? ⟨W1.heap.size + 1, 0, none⟩ = some (.int .i64 a) := by simp [World.cell?, hSb]
                have z4 : w1.cell? ⟨W1.heap.size + 1, 1, none⟩ = some (.int .i64 b) := by simp [World.cell?, hSb]
                clear hSa hSb
                go_simp
                try with_reducible rfl
              (try simp only [Act.put])
              refine wpAnyH_take (i := 11) (v := ?vA11) rfl (by kernel_rfl) (by kernel_rfl) (by kernel_rfl) (fun _ _ _ h => h) (Or.inl ⟨by rfl, ?hA11⟩) hS ?rA11
              case hA11 =>
                intro w1 hSw
                obtain ⟨hSa, hSb⟩ := hSw
                have z2 : w1.cell? ⟨w.heap.size + 1 + 1 + 1, 2, none⟩ = some (.slice (some ⟨gc, 0, none⟩) x.cs.length ccap) := by simp [World.cell?, hSa]
                have z3 : w1.cell? ⟨W1.heap.size + 1, 0, none⟩ = some (.int .i64 a) := by simp [World.cell?, hSb]
                have z4 : w1.cell? ⟨W1.heap.size + 1, 1, none⟩ = some (.int .i64 b) := by simp [World.cell?, hSb]
                clear hSa hSb
                go_simp
                try with_reducible rfl
              (try simp only [Act.put])
              refine wpAnyH_ready (rs := [10, 12]) (by kernel_rfl) (by simp) (AllReadyH.cons rfl (fun K hK => ?firstA) (AllReadyH.cons rfl (fun K hK => ?secondA) AllReadyH.nil))
              case firstA =>
                go_simp
                refine hK.out _ _ hS (fun _ => ?_)
                clear hK K
                refine wpAnyH_ready (rs := [12]) (by kernel_rfl) (by simp) (AllReadyH.cons rfl (fun K hK => ?_) AllReadyH.nil)
                go_simp
                refine hK.out _ _ ⟨(Below.heap_alloc _ _ _ (heap_lt b3d)).trans b3d, (Below.heap_alloc _ _ _ (heap_lt hL5)).trans hL5⟩ (fun hS => ?_)
                clear hK K
                refine wpAnyH_ready (rs := [13]) (by kernel_rfl) (by simp) (AllReadyH.cons rfl (fun K hK => ?_) AllReadyH.nil)
                rw [if_pos (by kernel_rfl)]
                refine wp_append_own _ _ _ 52 rfl Bl 54 i1 _ 2 16 Tryz.underlying52 hi1 hj0 hj1 hj2 rfl (by decide) (.slice LA cl.lg.length lcap) cl.lg.length _ rfl (HRL.out (.cells #[.int .i64 a, .int .i64 b] 54)) ⟨X.heap.size, 0, none⟩ 1 1 [.int .i64 a, .int .i64 b] rfl rfl (World.news_of_block (cs := #[.int .i64 a, .int .i64 b]) (heap_alloc_new X.drew _)) (by simp [Value.oneCell']) (by unfold maxLen; omega) (by omega) (by simp; omega) ?_
                intro v' w2 hown' hgrow _
                obtain ⟨g', cap', rfl⟩ := ownsRow_succ hown'
                have hne1 : ∀ k', (Value.slice LA cl.lg.length lcap).ownBlock = some k' → Bl ≤ k' ∧ k' < W1.heap.size := fun k' hk' => ⟨((HRL.out (.cells #[.int .i64 a, .int .i64 b] 54)).lt k' hk').1, HLB.out k' hk'⟩
                have hgcne : some gc ≠ (Value.slice LA cl.lg.length lcap).ownBlock := own_ne (HP5.out (.cells #[.int .i64 a, .int .i64 b] 54)).row (HRL.out (.cells #[.int .i64 a, .int .i64 b] 54)) (by decide) rfl
                have sa : w2.heap[w.heap.size + 1 + 1 + 1]? = _ := (hgrow.block _ (by simp; omega) (fun e => by have := (hne1 _ e.symm).1; omega)).trans ((Below.heap_alloc X.drew _ _ (heap_lt b3d)).trans b3d)
                have sb : w2.heap[W1.heap.size + 1]? = _ := (hgrow.block _ (by have := heap_lt hL5; simp; omega) (fun e => by have := (hne1 _ e.symm).2; omega)).trans ((Below.heap_alloc X.drew _ _ (heap_lt hL5)).trans hL5)
                have e_gc : w2.heap[gc]? = X.heap[gc]? := (hgrow.block _ (by simp; omega) hgcne).trans (Below.heap_alloc X.drew _ _ (by show gc < X.heap.size; omega))
                have y8 : w2.cell? ⟨gc, p * 13 + 8, none⟩ = some (.slice LA cl.lg.length lcap) := (World.cell?_of_block e_gc).trans hc8
                have yf : ∀ i, w2.frozen? ⟨gc, i, none⟩ = false := fun i => (World.frozen?_of_block e_gc).trans (hfr i)
                have B6 := Lib.hid ((B5.out.grown (W' := X.drew.alloc (.cells #[.int .i64 a, .int .i64 b] 54)) (row := none) ⟨rfl, rfl, rfl, (World.grownBy_alloc X.drew _ none).size, (World.grownBy_alloc X.drew _ none).block⟩ (fun r e => by cases e)).grown hgrow (fun r e => Or.inr (by have := (hne1 _ e).1; omega)))
                have B7 := Lib.hid (B6.out.grown (grownBy_set w2 gc (p * 13 + 8) (.slice (some ⟨g', 0, none⟩) (cl.lg.length + 1) cap')) (fun r e => by cases e; exact Or.inr (by omega)))
                have R7 := Lib.hid ((HRG.out w2 (.cells #[.int .i64 a, .int .i64 b] 54) hgrow).trans (Rel.of_grown (grownBy_set w2 gc (p * 13 + 8) (.slice (some ⟨g', 0, none⟩) (cl.lg.length + 1) cap')) (by have := (HRG.out w2 (.cells #[.int .i64 a, .int .i64 b] 54) hgrow).size; omega) (fun r e => by
                  cases e
                  obtain ⟨-, -, cur, hcur⟩ := ownsRow_own (HP5.out (.cells #[.int .i64 a, .int .i64 b] 54)).row (r := gc) rfl
                  exact ⟨by omega, by omega, fun _ => ⟨_, _, _, (hgrow.block _ (heap_lt hcur) hgcne).trans hcur⟩⟩)))
                have P7 : Hid (PS (w2.setCell ⟨gc, p * 13 + 8, none⟩ (.slice (some ⟨g', 0, none⟩) (cl.lg.length + 1) cap')) (w.heap.size + 6) (.slice (some ⟨gc, 0, none⟩) (init.length + 1) ccap) (init ++ [{ cl with lg := cl.lg ++ [(a, b)] }]) (linit ++ [.slice (some ⟨g', 0, none⟩) (cl.lg.length + 1) cap']) Bl) := by
                  obtain ⟨gq, eq, h⟩ := PS.leg (x := (a, b)) (HP5.out (.cells #[.int .i64 a, .int .i64 b] 54)) hown' hgrow
                  injection eq with eq
                  injection eq with eq
                  subst eq
                  rw [HP0.out]
                  exact Lib.hid h
                clear hown' hgrow hne1 e_gc
                refine hK.out _ _ ⟨sa, sb⟩ (fun hS => ?_)
                clear hK K
                refine wpAnyH_ready (rs := [14]) (by kernel_rfl) (by simp) (AllReadyH.cons rfl (fun K hK => ?_) AllReadyH.nil)
                go_simp
                refine hK.out _ _ hS (fun hS => ?_)
                clear hK K
                refine wpAnyH_ready (rs := [15]) (by kernel_rfl) (by simp) (AllReadyH.cons rfl (fun K hK => ?_) AllReadyH.nil)
                go_simp
                refine hK.out _ _ hS (fun hS => ?_)
                clear hK K
                refine wpAnyH_ready (rs := [16]) (by kernel_rfl) (by simp) (AllReadyH.cons rfl (fun K hK => ?_) AllReadyH.nil)
                go_simp
                refine hK.out _ _ ⟨(set_far _ _ _ _ _ (by omega)).trans sa, (set_far _ _ _ _ _ (by omega)).trans sb⟩ (fun _ => ?_)
                clear hK K
                refine wpAnyH_done (by kernel_rfl) ?_ _
                obtain ⟨Z, hZ⟩ : ∃ Z, Z = w2.setCell ⟨gc, p * 13 + 8, none⟩ (.slice (some ⟨g', 0, none⟩) (cl.lg.length + 1) cap') := ⟨_, rfl⟩
                rw [← hZ] at P7 B7 R7 ⊢
                clear hZ sa sb y8 yf B6
                dsimp only [Normal]
                obtain ⟨a1, a2, a3⟩ := B7.out.cells
                clear b3d hc8d hc8a hc8b hc8c hc8 hL5 hq1 hq2 hq3 hS hfr i1 hi1 hj0 hj1 hj2
                gi_wp2
                have e1 : addL x.cs (a, b) = init ++ [{ cl with lg := cl.lg ++ [(a, b)] }] := by rw [HCS.out]; exact addL_snoc _ _ _
                have e2 : x.cs.length = init.length + 1 := by rw [HCS.out]; simp
                have P8 := P7.out
                rw [← e2, ← e1] at P8
                exact fin_ok (k := k) { x with cs := addL x.cs (a, b) } (R7.out.set hgs _ (by omega) (by omega)) hgs hsz hK (B7.out.setL k) (P8.far B7.out.b4 (by decide) (by decide)) HB.out HG.out (by show (addL x.cs (a, b)).length ≤ _; rw [e1]; simp; omega) (fun c hc => by
                  have hc : c ∈ addL x.cs (a, b) := hc
                  rw [e1] at hc
                  rcases List.mem_append.1 hc with hc | hc
                  · have := HLG.out c (by rw [HCS.out]; simp [hc]); omega
                  · rw [List.mem_singleton.1 hc]; simp; omega) (by have := R7.out.size; simp; omega)
              case secondA =>
                go_simp
                refine hK.out _ _ ⟨(Below.heap_alloc _ _ _ (heap_lt b3d)).trans b3d, (Below.heap_alloc _ _ _ (heap_lt hL5)).trans hL5⟩ (fun hS => ?_)
                clear hK K
                refine wpAnyH_ready (rs := [10]) (by kernel_rfl) (by simp) (AllReadyH.cons rfl (fun K hK => ?_) AllReadyH.nil)
                go_simp
                refine hK.out _ _ hS (fun hS => ?_)
                clear hK K
                refine wpAnyH_ready (rs := [13]) (by kernel_rfl) (by simp) (AllReadyH.cons rfl (fun K hK => ?_) AllReadyH.nil)
                rw [if_pos (by kernel_rfl)]
                refine wp_append_own _ _ _ 52 rfl Bl 54 i1 _ 2 16 Tryz.underlying52 hi1 hj0 hj1 hj2 rfl (by decide) (.slice LA cl.lg.length lcap) cl.lg.length _ rfl (HRL.out (.cells #[.int .i64 a, .int .i64 b] 54)) ⟨X.heap.size, 0, none⟩ 1 1 [.int .i64 a, .int .i64 b] rfl rfl (World.news_of_block (cs := #[.int .i64 a, .int .i64 b]) (heap_alloc_new X.drew _)) (by simp [Value.oneCell']) (by unfold maxLen; omega) (by omega) (by simp; omega) ?_
                intro v' w2 hown' hgrow _
                obtain ⟨g', cap', rfl⟩ := ownsRow_succ hown'
                have hne1 : ∀ k', (Value.slice LA cl.lg.length lcap).ownBlock = some k' → Bl ≤ k' ∧ k' < W1.heap.size := fun k' hk' => ⟨((HRL.out (.cells #[.int .i64 a, .int .i64 b] 54)).lt k' hk').1, HLB.out k' hk'⟩
                have hgcne : some gc ≠ (Value.slice LA cl.lg.length lcap).ownBlock := own_ne (HP5.out (.cells #[.int .i64 a, .int .i64 b] 54)).row (HRL.out (.cells #[.int .i64 a, .int .i64 b] 54)) (by decide) rfl
                have sa : w2.heap[w.heap.size + 1 + 1 + 1]? = _ := (hgrow.block _ (by simp; omega) (fun e => by have := (hne1 _ e.symm).1; omega)).trans ((Below.heap_alloc X.drew _ _ (heap_lt b3d)).trans b3d)
                have sb : w2.heap[W1.heap.size + 1]? = _ := (hgrow.block _ (by have := heap_lt hL5; simp; omega) (fun e => by have := (hne1 _ e.symm).2; omega)).trans ((Below.heap_alloc X.drew _ _ (heap_lt hL5)).trans hL5)
                have e_gc : w2.heap[gc]? = X.heap[gc]? := (hgrow.block _ (by simp; omega) hgcne).trans (Below.heap_alloc X.drew _ _ (by show gc < X.heap.size; omega))
                have y8 : w2.cell? ⟨gc, p * 13 + 8, none⟩ = some (.slice LA cl.lg.length lcap) := (World.cell?_of_block e_gc).trans hc8
                have yf : ∀ i, w2.frozen? ⟨gc, i, none⟩ = false := fun i => (World.frozen?_of_block e_gc).trans (hfr i)
                have B6 := Lib.hid ((B5.out.grown (W' := X.drew.alloc (.cells #[.int .i64 a, .int .i64 b] 54)) (row := none) ⟨rfl, rfl, rfl, (World.grownBy_alloc X.drew _ none).size, (World.grownBy_alloc X.drew _ none).block⟩ (fun r e => by cases e)).grown hgrow (fun r e => Or.inr (by have := (hne1 _ e).1; omega)))
                have B7 := Lib.hid (B6.out.grown (grownBy_set w2 gc (p * 13 + 8) (.slice (some ⟨g', 0, none⟩) (cl.lg.length + 1) cap')) (fun r e => by cases e; exact Or.inr (by omega)))
                have R7 := Lib.hid ((HRG.out w2 (.cells #[.int .i64 a, .int .i64 b] 54) hgrow).trans (Rel.of_grown (grownBy_set w2 gc (p * 13 + 8) (.slice (some ⟨g', 0, none⟩) (cl.lg.length + 1) cap')) (by have := (HRG.out w2 (.cells #[.int .i64 a, .int .i64 b] 54) hgrow).size; omega) (fun r e => by
                  cases e
                  obtain ⟨-, -, cur, hcur⟩ := ownsRow_own (HP5.out (.cells #[.int .i64 a, .int .i64 b] 54)).row (r := gc) rfl
                  exact ⟨by omega, by omega, fun _ => ⟨_, _, _, (hgrow.block _ (heap_lt hcur) hgcne).trans hcur⟩⟩)))
                have P7 : Hid (PS (w2.setCell ⟨gc, p * 13 + 8, none⟩ (.slice (some ⟨g', 0, none⟩) (cl.lg.length + 1) cap')) (w.heap.size + 6) (.slice (some ⟨gc, 0, none⟩) (init.length + 1) ccap) (init ++ [{ cl with lg := cl.lg ++ [(a, b)] }]) (linit ++ [.slice (some ⟨g', 0, none⟩) (cl.lg.length + 1) cap']) Bl) := by
                  obtain ⟨gq, eq, h⟩ := PS.leg (x := (a, b)) (HP5.out (.cells #[.int .i64 a, .int .i64 b] 54)) hown' hgrow
                  injection eq with eq
                  injection eq with eq
                  subst eq
                  rw [HP0.out]
                  exact Lib.hid h
                clear hown' hgrow hne1 e_gc
                refine hK.out _ _ ⟨sa, sb⟩ (fun hS => ?_)
                clear hK K
                refine wpAnyH_ready (rs := [14]) (by kernel_rfl) (by simp) (AllReadyH.cons rfl (fun K hK => ?_) AllReadyH.nil)
                go_simp
                refine hK.out _ _ hS (fun hS => ?_)
                clear hK K
                refine wpAnyH_ready (rs := [15]) (by kernel_rfl) (by simp) (AllReadyH.cons rfl (fun K hK => ?_) AllReadyH.nil)
                go_simp
                refine hK.out _ _ hS (fun hS => ?_)
                clear hK K
                refine wpAnyH_ready (rs := [16]) (by kernel_rfl) (by simp) (AllReadyH.cons rfl (fun K hK => ?_) AllReadyH.nil)
                go_simp
                refine hK.out _ _ ⟨(set_far _ _ _ _ _ (by omega)).trans sa, (set_far _ _ _ _ _ (by omega)).trans sb⟩ (fun _ => ?_)
                clear hK K
                refine wpAnyH_done (by kernel_rfl) ?_ _
                obtain ⟨Z, hZ⟩ : ∃ Z, Z = w2.setCell ⟨gc, p * 13 + 8, none⟩ (.slice (some ⟨g', 0, none⟩) (cl.lg.length + 1) cap') := ⟨_, rfl⟩
                rw [← hZ] at P7 B7 R7 ⊢
                clear hZ sa sb y8 yf B6
                dsimp only [Normal]
                obtain ⟨a1, a2, a3⟩ := B7.out.cells
                clear b3d hc8d hc8a hc8b hc8c hc8 hL5 hq1 hq2 hq3 hS hfr i1 hi1 hj0 hj1 hj2
                gi_wp2
                have e1 : addL x.cs (a, b) = init ++ [{ cl with lg := cl.lg ++ [(a, b)] }] := by rw [HCS.out]; exact addL_snoc _ _ _
                have e2 : x.cs.length = init.length + 1 := by rw [HCS.out]; simp
                have P8 := P7.out
                rw [← e2, ← e1] at P8
                exact fin_ok (k := k) { x with cs := addL x.cs (a, b) } (R7.out.set hgs _ (by omega) (by omega)) hgs hsz hK (B7.out.setL k) (P8.far B7.out.b4 (by decide) (by decide)) HB.out HG.out (by show (addL x.cs (a, b)).length ≤ _; rw [e1]; simp; omega) (fun c hc => by
                  have hc : c ∈ addL x.cs (a, b) := hc
                  rw [e1] at hc
                  rcases List.mem_append.1 hc with hc | hc
                  · have := HLG.out c (by rw [HCS.out]; simp [hc]); omega
                  · rw [List.mem_singleton.1 hc]; simp; omega) (by have := R7.out.size; simp; omega)
    case done =>
      rintro D ⟨k, t⟩ W hD hfin ⟨x, v, lvs, Bl, hPBk, hPS, hgo, hk1, hcs, hlg, hgs, hBl, hb, -⟩ hKD
      simp only at hPBk hgo hk1 hcs hlg hfin
      subst hfin
      have hgo' : goL En.zero 1 (splitC 10 s) = .inr (x, k - 1) := hgo.symm
      have HGO := Lib.hid hgo'
      have HB := Lib.hid hb
      have HPB := Lib.hid hPBk
      have HPS := Lib.hid hPS
      have HKD := Lib.hid hKD
      have hDl := heap_lt hKD
      obtain ⟨CA, ccap, rfl, hccap, hIC⟩ := hPS.inCr
      have HIC := Lib.hid hIC
      obtain ⟨⟨c0, c1, c2, c3, c4⟩, ⟨x0, x1, x2, x3⟩, f0, f1, f2, f3, f4⟩ := hPBk.cells
      clear hgo hgo' hb hPBk hPS hKD hIC hPB hI0 hSB
      by_cases hl2 : (k : Int) - 1 < 2
      · gi_wp2
        gi_region
        gi_wp2
        obtain ⟨Z, hZ, hZK, ⟨z0, z1, z2, z3, z4⟩, hZB, -⟩ := fin5 HPB.out.drew (D := D) (by omega) HKD.out 0 0 (.slice none 0 0) k 2
        have hP : Hid (paE s = (En.zero, (k : Int), 2)) := Lib.hid (by
          unfold paE
          rw [if_neg hlong, HGO.out]
          simp only
          rw [if_pos (by omega)]
          have : ((k - 1 : Nat) : Int) + 1 = (k : Int) := by omega
          rw [this])
        have hBz := HB.out.drew.trans hZB
        have hq : (((((W.setCell ⟨w.heap.size, 0, none⟩ (.int .i64 0)).setCell ⟨w.heap.size, 1, none⟩ (.int .i64 0)).setCell ⟨w.heap.size, 2, none⟩ (.slice none 0 0)).setCell ⟨w.heap.size + 1, 0, none⟩ (.int .i64 k)).setCell ⟨w.heap.size + 1 + 1, 0, none⟩ (.int .i64 2)).drew = Z := hZ.symm
        rw [hq]
        clear hq hZ
        refine leave_mark (v := .tuple #[.agg #[.int .i64 0, .int .i64 0, .slice none 0 0], .int .i64 k, .int .i64 2]) (D := D) hZK ?res1 ?post1
        case res1 => simp [results, Tryz.results16, go_sem, z0, z1, z2, z3, z4]
        case post1 =>
          rw [hP.out]
          exact ⟨.slice none 0 0, [], 0, rfl, PS.nil _ _, hBz⟩
      · have CH := Lib.hid (check19 x CA ccap W HIC.out hccap)
        gi_wp2
        refine (callsIn_wide.2 CH.out).mono ?_
        rintro e W1 ⟨rfl, hb1⟩
        have B1 := Lib.hid (HPB.out.below hb1)
        have S1 := Lib.hid (HPS.out.below hb1)
        have K1 := Lib.hid ((hb1.block _ hDl).trans HKD.out)
        have BB1 := Lib.hid (HB.out.trans (hb1.mono (by omega)))
        have hs1 := hb1.size
        obtain ⟨⟨c0, c1, c2, c3, c4⟩, ⟨x0, x1, x2, x3⟩, f0, f1, f2, f3, f4⟩ := B1.out.cells
        clear hb1 CH
        by_cases hch : chE x = 0
        · gi_wp2
          obtain ⟨Z, hZ, hZK, ⟨z0, z1, z2, z3, z4⟩, hZB, hZP⟩ := fin5 B1.out (D := D) (by omega) K1.out x.cy x.gr (.slice CA x.cs.length ccap) 0 0
          have hP : Hid (paE s = (x, 0, 0)) := Lib.hid (by
            unfold paE
            rw [if_neg hlong, HGO.out]
            simp only
            rw [if_neg (by omega), if_neg (fun h => h hch)])
          rw [← hZ]
          have hBz := BB1.out.trans hZB
          have hPz := hZP _ _ _ _ S1.out
          clear hZ hch
          refine leave_mark (v := .tuple #[.agg #[.int .i64 x.cy, .int .i64 x.gr, .slice CA x.cs.length ccap], .int .i64 0, .int .i64 0]) (D := D) hZK ?res2 ?post2
          case res2 => simp [results, Tryz.results16, go_sem, z0, z1, z2, z3, z4]
          case post2 =>
            rw [hP.out]
            exact ⟨_, lvs, Bl, rfl, hPz.mono6, hBz⟩
        · gi_wp2
          obtain ⟨Z, hZ, hZK, ⟨z0, z1, z2, z3, z4⟩, hZB, -⟩ := fin5 B1.out (D := D) (by omega) K1.out 0 0 (.slice none 0 0) 0 (chE x)
          have hP : Hid (paE s = (En.zero, 0, chE x)) := Lib.hid (by
            unfold paE
            rw [if_neg hlong, HGO.out]
            simp only
            rw [if_neg (by omega), if_pos hch])
          rw [← hZ]
          have hBz := BB1.out.trans hZB
          clear hZ hch
          refine leave_mark (v := .tuple #[.agg #[.int .i64 0, .int .i64 0, .slice none 0 0], .int .i64 0, .int .i64 (chE x)]) (D := D) hZK ?res3 ?post3
          case res3 => simp [results, Tryz.results16, go_sem, z0, z1, z2, z3, z4]
          case post3 =>
            rw [hP.out]
            exact ⟨.slice none 0 0, [], 0, rfl, PS.nil _ _, hBz⟩
    case stop =>
      rintro D c W hD ⟨rfl, m, cy, gr, last, v, hgo, hpb, hb⟩ hKD
      refine wpIn_ret ?_
      have hpb' : PB (W.putObj D (.deferred none)) w.heap.size (.int .i64 m) (.int .i64 2) cy gr v last := hpb.grown (grownBy_putObj' _ _ _) (fun r e => by cases e; right; omega)
      have hb' : Below w.heap.size w (W.putObj D (.deferred none)) := hb.grown (grownBy_putObj' _ _ _) (by have := heap_lt hpb.b0; omega) (fun r e => by cases e; omega)
      obtain ⟨⟨c0, c1, c2, c3, c4⟩, -, -⟩ := hpb'.cells
      have hP : Hid (paE s = (En.zero, (m : Int), 2)) := Lib.hid (by unfold paE; rw [if_neg hlong, hgo])
      refine leave_mark (v := .tuple #[.agg #[.int .i64 0, .int .i64 0, .slice none 0 0], .int .i64 m, .int .i64 2]) hKD ?res ?post
      case res => simp [results, Tryz.results16, go_sem, c0, c1, c2, c3, c4]
      case post =>
        rw [hP.out]
        exact ⟨.slice none 0 0, [], 0, rfl, PS.nil _ _, hb'⟩
theorem parse16 (K : Nat) (s : Tx) (hs : s.length ≤ 80000) (w : World) (E : Env K w) (hK : K ≤ w.heap.size) :
    Calls Tryz.prog 16 #[.string (S s)] w fun e w' => ∃ v lvs Bl, e = .returned (.tuple #[.agg #[.int .i64 (paE s).1.cy, .int .i64 (paE s).1.gr, v], .int .i64 (paE s).2.1, .int .i64 (paE s).2.2]) ∧ PS w' w.heap.size v (paE s).1.cs lvs Bl ∧ Below w.heap.size w w' := callsIn_wide.1 (parse16_in 3 (Nat.le_refl _) K s hs w E hK)
end Go.Proofs.YtnnnpliigdfipaaGreatDoor
