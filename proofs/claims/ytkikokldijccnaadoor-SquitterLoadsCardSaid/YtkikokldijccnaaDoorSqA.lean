/- squitter: the table in memory; New, none, Now. -/
import Derived.Test.YtkikokldijccnaaDoorRows
import Derived.WalkKit
import Derived.WalkLawsBesides
import Derived.WalkSpells
import Derived.ProofKit
import Derived.Below
import Derived.Outline
import Derived.Lib.Hide
import Derived.Deep.RegionWith
import Derived.Deep.RegionHeld3
import Derived.Deep.DrawnRows
import Derived.StillTailTactics
import Derived.BigQuiet
import Derived.Deep.QuietTactic
import Derived.Deep.LoopGhost
import Derived.IntWalk
import Derived.Lib.MinMax
import Derived.OrdersHeld
import Derived.Maps.RangeWalk
import Derived.Maps.OwnSet
import Derived.Test.YtkikokldijccnaaDoorSqR
import Derived.Test.YtkikokldijccnaaDoorK2
namespace Go.Proofs.YtkikokldijccnaaDoor
open Go.RowKit
attribute [local go_sem ↓] Go.wp_at_zero Go.wp_at_succ
attribute [local go_sem] wrap_lit
/-- nothing has turned but blocks of O, and what is new -/
structure Turn (O : Nat → Prop) (w w' : World) : Prop where
  os : w'.os = w.os
  tape : w'.tape = w.tape
  output : w'.output = w.output
  size : w.heap.size ≤ w'.heap.size
  block : ∀ k, k < w.heap.size → ¬ O k → w'.heap[k]? = w.heap[k]?
theorem Turn.refl (O : Nat → Prop) (w : World) : Turn O w w := ⟨rfl, rfl, rfl, Nat.le_refl _, fun _ _ _ => rfl⟩
theorem Turn.trans {O O' : Nat → Prop} {a b c : World} (h : Turn O a b) (k : Turn O' b c) (hO : ∀ i, O' i → O i ∨ a.heap.size ≤ i) : Turn O a c :=
  ⟨k.os.trans h.os, k.tape.trans h.tape, k.output.trans h.output, Nat.le_trans h.size k.size, fun i hi hn => (k.block i (Nat.lt_of_lt_of_le hi h.size) (fun g => by rcases hO i g with g | g; exact hn g; omega)).trans (h.block i hi hn)⟩
theorem Turn.drew {O : Nat → Prop} {a w : World} (h : Turn O a w) : Turn O a w.drew := ⟨h.os, h.tape, h.output, h.size, h.block⟩
theorem Turn.drewN {O : Nat → Prop} {a w : World} (h : Turn O a w) (n : Nat) : Turn O a (w.drewN n) := ⟨h.os, h.tape, h.output, h.size, h.block⟩
theorem Turn.alloc {O : Nat → Prop} {a w : World} (h : Turn O a w) (o : Obj) : Turn O a (w.alloc o) :=
  ⟨h.os, h.tape, h.output, Nat.le_trans h.size (by simp), fun k hk hn => (Below.heap_alloc _ _ _ (Nat.lt_of_lt_of_le hk h.size)).trans (h.block k hk hn)⟩
theorem Turn.setCell {O : Nat → Prop} {a w : World} (h : Turn O a w) {p : Addr} (hp : O p.block ∨ a.heap.size ≤ p.block) (u : Value) : Turn O a (w.setCell p u) :=
  ⟨h.os, h.tape, h.output, Nat.le_trans h.size (by simp [World.setCell]), fun k hk hn => (Below.heap_setCell _ _ _ _ (fun e => by subst e; rcases hp with g | g; exact hn g; omega)).trans (h.block k hk hn)⟩
theorem Turn.grown {O : Nat → Prop} {a w w' : World} {row : Option Nat} (h : Turn O a w) (hg : w.grownBy w' row) (hr : ∀ k, row = some k → O k ∨ a.heap.size ≤ k) : Turn O a w' :=
  ⟨hg.os.trans h.os, hg.tape.trans h.tape, hg.output.trans h.output, Nat.le_trans h.size hg.size, fun k hk hn => (hg.block k (Nat.lt_of_lt_of_le hk h.size) (fun e => by rcases hr k e.symm with g | g; exact hn g; omega)).trans (h.block k hk hn)⟩
theorem Turn.below {O : Nat → Prop} {a b c : World} {B : Nat} (h : Below B a b) (hB : B ≤ b.heap.size) (k : Turn O b c) (hO : ∀ i, O i → B ≤ i) : Below B a c :=
  h.trans ⟨k.os, k.tape, k.output, k.size, fun i hi => k.block i (Nat.lt_of_lt_of_le hi hB) (fun g => by have := hO i g; omega)⟩
theorem Turn.ofBelow {O : Nat → Prop} {w w' : World} (h : Below w.heap.size w w') : Turn O w w' := ⟨h.os, h.tape, h.output, h.size, fun k hk _ => h.block k hk⟩
/-- an entry in memory -/
def EntAt (w : World) (b g : Nat) (x : Tk) : Prop := ∃ off cap cur, w.heap[b]? = some (.cells #[.bool x.kn, .slice (some ⟨g, off, none⟩) x.cy.length cap] 75 (0, 0)) ∧ w.heap[g]? = some (.cells cur 3 (0, 0)) ∧ x.cy.length ≤ cap ∧ off + cap ≤ cur.size ∧ cap ≤ maxLen ∧ ∀ j c, x.cy[j]? = some c → cur[off + j]? = some (.int .i64 c)
/-- a table in memory but for its map; O: its blocks -/
structure TabC (w : World) (H mb : Nat) (t : Ts) (bk gk : Int → Nat) (O : Nat → Prop) : Prop where
  cells : w.heap[H]? = some (.cells #[.int .i64 t.need, .int .i64 t.win, .int .i64 t.keep, .int .i64 t.now, .map (some mb)] 56 (0, 0))
  ent : ∀ p ∈ t.es, EntAt w (bk p.1) (gk p.1) p.2
  injb : ∀ p ∈ t.es, ∀ q ∈ t.es, bk p.1 = bk q.1 → p.1 = q.1
  injg : ∀ p ∈ t.es, ∀ q ∈ t.es, gk p.1 = gk q.1 → p.1 = q.1
  oH : O H
  om : O mb
  ob : ∀ p ∈ t.es, O (bk p.1) ∧ O (gk p.1)
  lt : ∀ k, O k → k < w.heap.size
def OwnT (w : World) (mb : Nat) (es : List (Int × Tk)) (bk : Int → Nat) : Prop := w.ownsMap Tryd.prog 3 Rp mb 1000 (.map (encE bk es))
structure Tab (w : World) (H mb : Nat) (t : Ts) (bk gk : Int → Nat) (O : Nat → Prop) : Prop where
  c : TabC w H mb t bk gk O
  own : OwnT w mb t.es bk
theorem EntAt.kept {w w' : World} {b g : Nat} {x : Tk} (h : EntAt w b g x) (hb : w'.heap[b]? = w.heap[b]?) (hg : w'.heap[g]? = w.heap[g]?) : EntAt w' b g x := by
  obtain ⟨off, cap, cur, h1, h2, h3⟩ := h
  exact ⟨off, cap, cur, hb.trans h1, hg.trans h2, h3⟩
theorem TabC.kept {w w' : World} {H mb : Nat} {t : Ts} {bk gk : Int → Nat} {O : Nat → Prop} (h : TabC w H mb t bk gk O) (hk : ∀ k, O k → k ≠ mb → w'.heap[k]? = w.heap[k]?) (hne : H ≠ mb ∧ ∀ p ∈ t.es, bk p.1 ≠ mb ∧ gk p.1 ≠ mb) (hs : w.heap.size ≤ w'.heap.size) : TabC w' H mb t bk gk O where
  cells := (hk _ h.oH hne.1).trans h.cells
  ent := fun p hp => (h.ent p hp).kept (hk _ (h.ob p hp).1 (hne.2 p hp).1) (hk _ (h.ob p hp).2 (hne.2 p hp).2)
  injb := h.injb
  injg := h.injg
  oH := h.oH
  om := h.om
  ob := h.ob
  lt := fun k hk => Nat.lt_of_lt_of_le (h.lt k hk) hs
theorem OwnT.kept {w w' : World} {mb : Nat} {es : List (Int × Tk)} {bk : Int → Nat} (h : OwnT w mb es bk) (hk : w'.heap[mb]? = w.heap[mb]?) : OwnT w' mb es bk := by
  obtain ⟨es, clock, h1, h2, h3, h4⟩ := h
  exact ⟨es, clock, hk.trans h1, h2, h3, h4⟩
theorem Tab.kept {w w' : World} {H mb : Nat} {t : Ts} {bk gk : Int → Nat} {O : Nat → Prop} (h : Tab w H mb t bk gk O) (hk : ∀ k, O k → w'.heap[k]? = w.heap[k]?) (hs : w.heap.size ≤ w'.heap.size) : Tab w' H mb t bk gk O where
  c := ⟨(hk _ h.c.oH).trans h.c.cells, fun p hp => (h.c.ent p hp).kept (hk _ (h.c.ob p hp).1) (hk _ (h.c.ob p hp).2), h.c.injb, h.c.injg, h.c.oH, h.c.om, h.c.ob, fun k hk => Nat.lt_of_lt_of_le (h.c.lt k hk) hs⟩
  own := h.own.kept (hk _ h.c.om)
theorem Tab.below {w w' : World} {H mb : Nat} {t : Ts} {bk gk : Int → Nat} {O : Nat → Prop} (h : Tab w H mb t bk gk O) (hb : Below w.heap.size w w') : Tab w' H mb t bk gk O := h.kept (fun k hk => hb.block k (h.c.lt k hk)) hb.size
theorem Tab.turn {w w' : World} {H mb : Nat} {t : Ts} {bk gk : Int → Nat} {O O' : Nat → Prop} (h : Tab w H mb t bk gk O) (hb : Turn O' w w') (hd : ∀ k, O k → ¬ O' k) : Tab w' H mb t bk gk O := h.kept (fun k hk => hb.block k (h.c.lt k hk) (hd k hk)) hb.size
set_option maxHeartbeats 2000000 in
theorem new8 (need win keep : Int) (w : World) : Calls Tryd.prog 8 #[.int .i64 need, .int .i64 win, .int .i64 keep] w fun e w' => (newE need win keep = 0 ∧ ∃ H mb bk gk O, e = .returned (.tuple #[.pointer (some ⟨H, 0, none⟩), .int .i64 0]) ∧ Tab w' H mb ⟨need, win, keep, 0, []⟩ bk gk O ∧ (∀ k, O k → w.heap.size ≤ k) ∧ Below w.heap.size w w') ∨ (newE need win keep = 1 ∧ e = .returned (.tuple #[.pointer none, .int .i64 1]) ∧ w' = w) := by
  by_cases h : need < 1 ∨ 8 < need ∨ win < need ∨ 64 < win ∨ keep < win ∨ 1024 < keep
  · have HE : Hid (newE need win keep = 1) := Lib.hid (by unfold newE; rw [if_pos h])
    have HH := Lib.hid h
    clear h
    go_enter Tryd.func8, Tryd.ntmps8
    go_wp2_with fail
    all_goals first | (go_ret2; exact .inr ⟨HE.out, rfl, rfl⟩) | (have := HH.out; omega)
  · have HE : Hid (newE need win keep = 0) := Lib.hid (by unfold newE; rw [if_neg h])
    obtain ⟨h1, h2, h3, h4, h5, h6⟩ : 1 ≤ need ∧ need ≤ 8 ∧ need ≤ win ∧ win ≤ 64 ∧ win ≤ keep ∧ keep ≤ 1024 := by omega
    clear h
    have hmm := @run_makeMap Tryd.prog
    go_enter Tryd.func8, Tryd.ntmps8
    go_wp2_with fail
    go_ret2
    refine .inl ⟨HE.out, w.heap.size + 1, w.heap.size, fun _ => 0, fun _ => 0, fun k => k = w.heap.size ∨ k = w.heap.size + 1, rfl, ⟨⟨?_, ?_, ?_, ?_, .inr rfl, .inl rfl, ?_, ?_⟩, ?_⟩, ?_, ?_⟩
    · have := (MapKept.heap_alloc (w.alloc (.map #[] 0)) (.cells #[Value.int IntKind.i64 need, Value.int IntKind.i64 win, Value.int IntKind.i64 keep, Value.int IntKind.i64 0, Value.map (some w.heap.size)] 56)).1; simpa using this
    · intro p hp; cases hp
    · intro p hp; cases hp
    · intro p hp; cases hp
    · intro p hp; cases hp
    · intro k hk; have : ((w.alloc (.map #[] 0)).alloc (.cells #[Value.int IntKind.i64 need, Value.int IntKind.i64 win, Value.int IntKind.i64 keep, Value.int IntKind.i64 0, Value.map (some w.heap.size)] 56)).heap.size = w.heap.size + 2 := by simp
      omega
    · exact ((World.ownsMap_made w Tryd.prog 3 Rp).mono (by omega)).alloc _
    · intro k hk; omega
    · exact ((Below.refl _ _).alloc (Nat.le_refl _) _).alloc (by simp) _
end Go.Proofs.YtkikokldijccnaaDoor
