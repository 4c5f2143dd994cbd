/- squitter: tables side by side; heard, step. -/
import Derived.Test.YtkikokldijccnaaGreatDoorRows
import Derived.WalkKit
import Derived.WalkLawsBesides
import Derived.WalkSpells
import Derived.ProofKit
import Derived.Below
import Derived.Outline
import Derived.Lib.Hide
import Derived.Deep.RegionWith
import Derived.Deep.RegionHeld3
import Derived.Deep.DrawnRows
import Derived.StillTailTactics
import Derived.BigQuiet
import Derived.Deep.QuietTactic
import Derived.Deep.LoopGhost
import Derived.IntWalk
import Derived.BigQuiet
import Derived.Test.YtkikokldijccnaaGreatDoorSqN
import Derived.Test.YtkikokldijccnaaGreatDoorKE
namespace Go.Proofs.YtkikokldijccnaaGreatDoor
open Go.RowKit Go.Maps
attribute [local go_sem ↓] Go.wp_at_zero Go.wp_at_succ
attribute [local go_sem] wrap_lit
def TabO (w : World) (H : Nat) (t : Ts) (O : Nat → Prop) : Prop := ∃ mb bk gk, Tab w H mb t bk gk O
structure StP (B : Nat) (w0 w : World) (F : Nat → Prop) (Ha : Nat) (ta : Ts) (Hb : Nat) (tb : Ts) (Oa Ob : Nat → Prop) : Prop where
  oka : Ok ta
  okb : Ok tb
  taba : TabO w Ha ta Oa
  tabb : TabO w Hb tb Ob
  newa : ∀ k, Oa k → B ≤ k
  newb : ∀ k, Ob k → B ≤ k
  dis : ∀ k, Oa k → ¬ Ob k
  bel : Below B w0 w
  hB : B ≤ w.heap.size
  fr : ∀ k, F k → k < w.heap.size ∧ ¬ Oa k ∧ ¬ Ob k
/-- two tables of the call's own, side by side; F: blocks that they leave alone -/
def St2 (B : Nat) (w0 w : World) (F : Nat → Prop) (Ha : Nat) (ta : Ts) (Hb : Nat) (tb : Ts) : Prop := ∃ Oa Ob, StP B w0 w F Ha ta Hb tb Oa Ob
theorem St2.swap {B : Nat} {w0 w : World} {F : Nat → Prop} {Ha : Nat} {ta : Ts} {Hb : Nat} {tb : Ts} (h : St2 B w0 w F Ha ta Hb tb) : St2 B w0 w F Hb tb Ha ta := by
  obtain ⟨Oa, Ob, h⟩ := h
  exact ⟨Ob, Oa, h.okb, h.oka, h.tabb, h.taba, h.newb, h.newa, fun k h1 h2 => h.dis k h2 h1, h.bel, h.hB, fun k hk => ⟨(h.fr k hk).1, (h.fr k hk).2.2, (h.fr k hk).2.1⟩⟩
def NewB (w w' : World) (F : Nat → Prop) (k : Nat) : Prop := F k ∨ (w.heap.size ≤ k ∧ k < w'.heap.size)
theorem TabO.lt {w : World} {H : Nat} {t : Ts} {O : Nat → Prop} (h : TabO w H t O) : ∀ k, O k → k < w.heap.size := by
  obtain ⟨_, _, _, h⟩ := h
  exact h.c.lt
theorem TabO.below {w w' : World} {H : Nat} {t : Ts} {O : Nat → Prop} (h : TabO w H t O) (hb : Below w.heap.size w w') : TabO w' H t O := by
  obtain ⟨mb, bk, gk, h⟩ := h
  exact ⟨mb, bk, gk, h.below hb⟩
theorem TabO.turn {w w' : World} {H : Nat} {t : Ts} {O O' : Nat → Prop} (h : TabO w H t O) (hb : Turn O' w w') (hd : ∀ k, O k → ¬ O' k) : TabO w' H t O := by
  obtain ⟨mb, bk, gk, h⟩ := h
  exact ⟨mb, bk, gk, h.turn hb hd⟩
theorem St2.below {B : Nat} {w0 w w' : World} {F : Nat → Prop} {Ha : Nat} {ta : Ts} {Hb : Nat} {tb : Ts} (h : St2 B w0 w F Ha ta Hb tb) (hb : Below w.heap.size w w') : St2 B w0 w' (NewB w w' F) Ha ta Hb tb := by
  obtain ⟨Oa, Ob, h⟩ := h
  refine ⟨Oa, Ob, h.oka, h.okb, h.taba.below hb, h.tabb.below hb, h.newa, h.newb, h.dis, h.bel.trans (hb.mono h.hB), Nat.le_trans h.hB hb.size, fun k hk => ?_⟩
  rcases hk with hk | hk
  · exact ⟨Nat.lt_of_lt_of_le (h.fr k hk).1 hb.size, (h.fr k hk).2⟩
  · exact ⟨hk.2, fun g => by have := h.taba.lt k g; omega, fun g => by have := h.tabb.lt k g; omega⟩
/-- a table has turned -/
def Turned (w w' : World) (H : Nat) (t' : Ts) (O : Nat → Prop) : Prop := ∃ O', TabO w' H t' O' ∧ Turn O w w' ∧ (∀ k, O k → O' k) ∧ ∀ k, O' k → O k ∨ w.heap.size ≤ k
theorem St2.turned {B : Nat} {w0 w w' : World} {F : Nat → Prop} {Ha : Nat} {ta ta' : Ts} {Hb : Nat} {tb : Ts} {Oa Ob : Nat → Prop} (h : StP B w0 w F Ha ta Hb tb Oa Ob) (hok : Ok ta') (ht : Turned w w' Ha ta' Oa) : St2 B w0 w' F Ha ta' Hb tb ∧ ∀ k, F k → w'.heap[k]? = w.heap[k]? := by
  obtain ⟨O', h1, h2, h3, h4⟩ := ht
  refine ⟨⟨O', Ob, hok, h.okb, h1, h.tabb.turn h2 (fun k hk g => h.dis k g hk), fun k hk => ?_, h.newb, fun k hk g => ?_, Turn.below h.bel h.hB h2 h.newa, Nat.le_trans h.hB h2.size, fun k hk => ?_⟩, fun k hk => h2.block k (h.fr k hk).1 (h.fr k hk).2.1⟩
  · rcases h4 k hk with g | g
    · exact h.newa k g
    · have := h.hB; omega
  · rcases h4 k hk with g' | g'
    · exact h.dis k g' g
    · have := h.tabb.lt k g; omega
  · refine ⟨Nat.lt_of_lt_of_le (h.fr k hk).1 h2.size, fun g => ?_, (h.fr k hk).2.2⟩
    rcases h4 k g with g' | g'
    · exact (h.fr k hk).2.1 g'
    · have := (h.fr k hk).1; omega
theorem heard25 {w : World} {H mb : Nat} {t : Ts} {bk gk : Int → Nat} {O : Nat → Prop} (hok : Ok t) (a s : Int) (hT : Tab w H mb t bk gk O) : Calls Tryz.prog 6 #[.pointer (some ⟨H, 0, none⟩), .int .i64 a, .int .i64 s] w fun e w' => e = .returned (.int .i64 (hearE t a s)) ∧ Turned w w' H (hearT t a s) O := by
  go_enter Tryz.func6, Tryz.ntmps6
  go_wp2_with (first | (go_at_call 15; refine (hear31 hok a s hT).mono ?_; rintro e w1 ⟨rfl, bk', gk', O', h1, h2, h3, h4⟩) | go_in)
  go_ret
  exact ⟨rfl, O', ⟨_, _, _, h1⟩, h2, h3, h4⟩
/-- an operation: a hearing, or a Tick -/
def stepE (t : Ts) (a s : Int) : Int := if a = -1 then tickE t s else hearE t a s
def stepT (t : Ts) (a s : Int) : Ts := if a = -1 then tickT t s else hearT t a s
theorem Ok.step {t : Ts} (h : Ok t) (a s : Int) : Ok (stepT t a s) := by
  unfold stepT
  split
  · exact h.tick s
  · exact h.hear a s
/-! ### the calls on two tables -/
theorem heardA {B : Nat} {w0 w : World} {F : Nat → Prop} {Ha : Nat} {ta : Ts} {Hb : Nat} {tb : Ts} (h : St2 B w0 w F Ha ta Hb tb) (a s : Int) : Calls Tryz.prog 6 #[.pointer (some ⟨Ha, 0, none⟩), .int .i64 a, .int .i64 s] w fun e w' => e = .returned (.int .i64 (hearE ta a s)) ∧ St2 B w0 w' F Ha (hearT ta a s) Hb tb ∧ ∀ k, F k → w'.heap[k]? = w.heap[k]? := by
  obtain ⟨Oa, Ob, h⟩ := h
  obtain ⟨mb, bk, gk, hT⟩ := h.taba
  refine (heard25 h.oka a s hT).mono ?_
  rintro e w' ⟨rfl, ht⟩
  exact ⟨rfl, St2.turned h (h.oka.hear a s) ht⟩
theorem tickA {B : Nat} {w0 w : World} {F : Nat → Prop} {Ha : Nat} {ta : Ts} {Hb : Nat} {tb : Ts} (h : St2 B w0 w F Ha ta Hb tb) (s : Int) : Calls Tryz.prog 8 #[.pointer (some ⟨Ha, 0, none⟩), .int .i64 s] w fun e w' => e = .returned (.int .i64 (tickE ta s)) ∧ St2 B w0 w' F Ha (tickT ta s) Hb tb ∧ ∀ k, F k → w'.heap[k]? = w.heap[k]? := by
  obtain ⟨Oa, Ob, h⟩ := h
  obtain ⟨mb, bk, gk, hT⟩ := h.taba
  refine (tick26 h.oka s hT).mono ?_
  rintro e w' ⟨rfl, h1, h2⟩
  exact ⟨rfl, St2.turned h (h.oka.tick s) ⟨Oa, ⟨_, _, _, h1⟩, h2, fun _ h => h, fun _ h => .inl h⟩⟩
/-- a row of numbers in a block of F -/
def FOwn (w : World) (F : Nat → Prop) (A : Option Addr) (l : List Int) : Prop := 0 < l.length → ∃ g cs, A = some ⟨g, 0, none⟩ ∧ F g ∧ w.heap[g]? = some (.cells cs 3 (0, 0)) ∧ ∀ j, j < l.length → cs[j]? = some (.int .i64 (nth l j))
theorem FOwn.keep {w w' : World} {F F' : Nat → Prop} {A : Option Addr} {l : List Int} (h : FOwn w F A l) (hF : ∀ k, F k → F' k) (hk : ∀ k, F k → w'.heap[k]? = w.heap[k]?) : FOwn w' F' A l := fun hn => by
  obtain ⟨g, cs, e, h1, h2, h3⟩ := h hn
  exact ⟨g, cs, e, hF g h1, (hk g h1).trans h2, h3⟩
theorem FOwn.is {w : World} {F : Nat → Prop} {A : Option Addr} {l : List Int} (h : FOwn w F A l) : Is .i64 w w.heap.size A l := fun hn => by
  obtain ⟨g, cs, e, _, h2, h3⟩ := h hn
  refine ⟨g, 0, e, heap_lt h2, fun j hj => ?_⟩
  rw [Nat.zero_add]
  exact (cellOf h2).trans (h3 j hj)
theorem FOwn.of {w w' : World} {F : Nat → Prop} {A : Option Addr} {l : List Int} (h : Own .i64 w' w.heap.size A 3 l) : FOwn w' (NewB w w' F) A l := fun hn => by
  obtain ⟨g, cs, e, h1, h2, h3⟩ := h hn
  exact ⟨g, cs, e, .inr ⟨h1, heap_lt h2⟩, h2, h3⟩
theorem knownA {B : Nat} {w0 w : World} {F : Nat → Prop} {Ha : Nat} {ta : Ts} {Hb : Nat} {tb : Ts} (h : St2 B w0 w F Ha ta Hb tb) : Calls Tryz.prog 7 #[.pointer (some ⟨Ha, 0, none⟩)] w fun e w' => ∃ A cap, e = .returned (.slice A (addrsT ta true).length cap) ∧ FOwn w' (NewB w w' F) A (addrsT ta true) ∧ (addrsT ta true).length ≤ cap ∧ St2 B w0 w' (NewB w w' F) Ha ta Hb tb ∧ Below w.heap.size w w' := by
  have hS := h
  obtain ⟨Oa, Ob, h⟩ := h
  obtain ⟨mb, bk, gk, hT⟩ := h.taba
  refine (known15 h.oka hT).mono ?_
  rintro e w' ⟨A, cap, rfl, h1, h2, h3⟩
  exact ⟨A, cap, rfl, FOwn.of h1, h2, hS.below h3, h3⟩
theorem pendA {B : Nat} {w0 w : World} {F : Nat → Prop} {Ha : Nat} {ta : Ts} {Hb : Nat} {tb : Ts} (h : St2 B w0 w F Ha ta Hb tb) : Calls Tryz.prog 10 #[.pointer (some ⟨Ha, 0, none⟩)] w fun e w' => ∃ A cap, e = .returned (.slice A (addrsT ta false).length cap) ∧ FOwn w' (NewB w w' F) A (addrsT ta false) ∧ (addrsT ta false).length ≤ cap ∧ St2 B w0 w' (NewB w w' F) Ha ta Hb tb ∧ Below w.heap.size w w' := by
  have hS := h
  obtain ⟨Oa, Ob, h⟩ := h
  obtain ⟨mb, bk, gk, hT⟩ := h.taba
  refine (pend16 h.oka hT).mono ?_
  rintro e w' ⟨A, cap, rfl, h1, h2, h3⟩
  exact ⟨A, cap, rfl, FOwn.of h1, h2, hS.below h3, h3⟩
theorem saveA {K B : Nat} {w0 w : World} {F : Nat → Prop} {Ha : Nat} {ta : Ts} {Hb : Nat} {tb : Ts} (E : Env K w0) (hK : K ≤ B) (h : St2 B w0 w F Ha ta Hb tb) : Calls Tryz.prog 11 #[.pointer (some ⟨Ha, 0, none⟩)] w fun e w' => e = .returned (.string (S (saveT ta))) ∧ St2 B w0 w' (NewB w w' F) Ha ta Hb tb ∧ Below w.heap.size w w' := by
  have hS := h
  obtain ⟨Oa, Ob, h⟩ := h
  obtain ⟨mb, bk, gk, hT⟩ := h.taba
  refine (save20 (E.below (h.bel.mono hK)) (Nat.le_trans hK h.hB) h.oka hT).mono ?_
  rintro e w' ⟨rfl, h3⟩
  exact ⟨rfl, hS.below h3, h3⟩
theorem nowA {B : Nat} {w0 w : World} {F : Nat → Prop} {Ha : Nat} {ta : Ts} {Hb : Nat} {tb : Ts} (h : St2 B w0 w F Ha ta Hb tb) : Calls Tryz.prog 9 #[.pointer (some ⟨Ha, 0, none⟩)] w fun e w' => e = .returned (.int .i64 ta.now) ∧ w' = w := by
  obtain ⟨Oa, Ob, h⟩ := h
  obtain ⟨mb, bk, gk, hT⟩ := h.taba
  exact now14 hT
theorem equalA {w : World} {F F' : Nat → Prop} {A A' : Option Addr} {l l' : List Int} (h : FOwn w F A l) (h' : FOwn w F' A' l') (hl : l.length ≤ 1000000) (cap cap' : Nat) : Calls Tryz.prog 14 #[.slice A l.length cap, .slice A' l'.length cap'] w fun e w' => e = .returned (.bool (decide (l = l'))) ∧ Below w.heap.size w w' := by
  refine (equalInts A A' cap cap' l l' w.heap.size w h.is h'.is hl).mono ?_
  rintro e w' ⟨rfl, n, rfl⟩
  exact ⟨rfl, below_drewN (Below.refl _ _) n⟩
theorem St2.lt {B : Nat} {w0 w : World} {F : Nat → Prop} {Ha : Nat} {ta : Ts} {Hb : Nat} {tb : Ts} (h : St2 B w0 w F Ha ta Hb tb) : ∀ k, F k → k < w.heap.size := by
  obtain ⟨Oa, Ob, h⟩ := h
  exact fun k hk => (h.fr k hk).1
theorem St2.bel {B : Nat} {w0 w : World} {F : Nat → Prop} {Ha : Nat} {ta : Ts} {Hb : Nat} {tb : Ts} (h : St2 B w0 w F Ha ta Hb tb) : Below B w0 w := by
  obtain ⟨Oa, Ob, h⟩ := h
  exact h.bel
theorem St2.oka {B : Nat} {w0 w : World} {F : Nat → Prop} {Ha : Nat} {ta : Ts} {Hb : Nat} {tb : Ts} (h : St2 B w0 w F Ha ta Hb tb) : Ok ta := by
  obtain ⟨Oa, Ob, h⟩ := h
  exact h.oka
theorem FOwn.below {w w' : World} {F : Nat → Prop} {A : Option Addr} {l : List Int} (h : FOwn w F A l) (hF : ∀ k, F k → k < w.heap.size) (hb : Below w.heap.size w w') : FOwn w' (NewB w w' F) A l := h.keep (fun _ h => .inl h) (fun k hk => hb.block k (hF k hk))
theorem FOwn.one (w : World) (F : Nat → Prop) (c : Int) : FOwn (w.alloc (.cells #[.int .i64 c] 3)) (NewB w (w.alloc (.cells #[.int .i64 c] 3)) F) (some ⟨w.heap.size, 0, none⟩) [c] := fun _ =>
  ⟨w.heap.size, _, rfl, .inr ⟨Nat.le_refl _, by rw [size_alloc]; exact Nat.lt_succ_self _⟩, heap_alloc_new _ _, fun j hj => by
    cases j with
    | zero => rfl
    | succ j => simp at hj⟩
theorem below_alloc1 (w : World) (o : Obj) : Below w.heap.size w (w.alloc o) := (Below.refl _ w).alloc (Nat.le_refl _) _
theorem St2.made {w w1 w2 : World} {H1 H2 : Nat} {t1 t2 : Ts} {O1 O2 : Nat → Prop} (h1 : TabO w1 H1 t1 O1) (n1 : ∀ k, O1 k → w.heap.size ≤ k) (b1 : Below w.heap.size w w1) (k1 : Ok t1) (h2 : TabO w2 H2 t2 O2) (n2 : ∀ k, O2 k → w1.heap.size ≤ k) (b2 : Below w1.heap.size w1 w2) (k2 : Ok t2) : St2 w.heap.size w w2 (fun _ => False) H1 t1 H2 t2 :=
  ⟨O1, O2, k1, k2, h1.below b2, h2, n1, fun k hk => Nat.le_trans b1.size (n2 k hk), fun k g1 g2 => by have := h1.lt k g1; have := n2 k g2; omega, b1.trans (b2.mono b1.size), Nat.le_trans b1.size b2.size, fun k hk => hk.elim⟩
end Go.Proofs.YtkikokldijccnaaGreatDoor
