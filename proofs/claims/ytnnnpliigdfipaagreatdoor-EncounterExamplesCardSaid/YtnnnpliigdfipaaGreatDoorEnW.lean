/- The scanner of words. -/
import Derived.Test.YtnnnpliigdfipaaGreatDoorRows
import Derived.WalkKit
import Derived.WalkLawsBesides
import Derived.WalkSpells
import Derived.ProofKit
import Derived.Below
import Derived.Outline
import Derived.Lib.Hide
import Derived.Deep.RegionWith
import Derived.Deep.RegionHeld3
import Derived.Deep.DrawnRows
import Derived.StillTailTactics
import Derived.BigQuiet
import Derived.Deep.QuietTactic
import Derived.Deep.LoopGhost
import Derived.IntWalk
import Derived.Lib.MinMax
import Derived.Deep.AppendLies
import Derived.OwnWalk
import Derived.Test.YtnnnpliigdfipaaGreatDoorEnU
namespace Go.Proofs.YtnnnpliigdfipaaGreatDoor
open Go.RowKit
attribute [local go_sem ↓] Go.wp_at_zero Go.wp_at_succ
attribute [local go_sem] wrap_lit
abbrev S (l : List UInt8) : ByteArray := ⟨l.toArray⟩
theorem S_list (l : List UInt8) : (S l).data.toList = l := by simp
theorem S_inj {l m : List UInt8} (h : S l = S m) : l = m := by have := congrArg (fun b => b.data.toList) h; simpa using this
theorem S_size (l : List UInt8) : (S l).size = l.length := by simp [ByteArray.size]
/-- a slice of texts below block B -/
def InT (w : World) (B : Nat) (A : Option Addr) (ws : List Tx) : Prop :=
  0 < ws.length → ∃ bk off, A = some ⟨bk, off, none⟩ ∧ bk < B ∧ ∀ j x, ws[j]? = some x → w.cell? ⟨bk, off + j, none⟩ = some (.string (S x))
theorem InT.below {w w1 : World} {B : Nat} {A : Option Addr} {ws : List Tx} (h : InT w B A ws) (hb : Below B w w1) : InT w1 B A ws := fun hn => by
  obtain ⟨bk, off, e, hlt, hc⟩ := h hn
  exact ⟨bk, off, e, hlt, fun j x hj => (hb.cell (p := ⟨bk, off + j, none⟩) hlt).trans (hc j x hj)⟩
theorem InT.mono {w : World} {B B' : Nat} {A : Option Addr} {ws : List Tx} (h : InT w B A ws) (hB : B ≤ B') : InT w B' A ws := fun hn => by
  obtain ⟨bk, off, e, hlt, hc⟩ := h hn
  exact ⟨bk, off, e, by omega, hc⟩
theorem setCell_heap (w : World) (b i : Nat) (cs : Array Value) (t : TypeId) (f : Nat × Nat) (v : Value) (h : w.heap[b]? = some (.cells cs t f)) : (w.setCell ⟨b, i, none⟩ v).heap[b]? = some (.cells (cs.setIfInBounds i v) t f) := by
  simp [World.setCell, Array.getElem?_modify, h]
theorem grownBy_set (w : World) (b i : Nat) (v : Value) : w.grownBy (w.setCell ⟨b, i, none⟩ v) (some b) :=
  ⟨rfl, rfl, rfl, by simp [World.setCell], fun k _ hk => Below.heap_setCell _ _ _ _ (fun e => hk (by rw [e]))⟩
theorem grown_trans {w w1 w2 : World} {b : Nat} (h1 : w.grownBy w1 (some b)) (h2 : w1.grownBy w2 (some b)) : w.grownBy w2 (some b) :=
  ⟨h2.os.trans h1.os, h2.tape.trans h1.tape, h2.output.trans h1.output, Nat.le_trans h1.size h2.size, fun k hk hn => (h2.block k (Nat.lt_of_lt_of_le hk h1.size) hn).trans (h1.block k hk hn)⟩
theorem grown_below {w w1 : World} {b : Nat} (h : Below w.heap.size w w1) : w.grownBy w1 (some b) := ⟨h.os, h.tape, h.output, h.size, fun k hk _ => h.block k hk⟩
/-- the scanner at b: the words that are left (they lie below B), and whether one did not fit -/
def Sc (B : Nat) (w : World) (b : Nat) (ws : List Tx) (bad : Bool) : Prop := ∃ A c, w.heap[b]? = some (.cells #[.slice A ws.length c, .bool bad] 134 (0, 0)) ∧ InT w B A ws ∧ ws.length ≤ c ∧ B ≤ b
theorem Sc.keep {B : Nat} {w w1 : World} {b : Nat} {ws : List Tx} {bad : Bool} (h : Sc B w b ws bad) (hb : Below B w w1) (hg : w1.heap[b]? = w.heap[b]?) : Sc B w1 b ws bad := by
  obtain ⟨A, c, h1, h2, h3, h4⟩ := h
  exact ⟨A, c, hg.trans h1, h2.below hb, h3, h4⟩
theorem Sc.below {B : Nat} {w w1 : World} {b : Nat} {ws : List Tx} {bad : Bool} (h : Sc B w b ws bad) (hb : Below w.heap.size w w1) : Sc B w1 b ws bad := by
  have h' := h
  obtain ⟨A, c, h1, h2, h3, h4⟩ := h'
  have := heap_lt h1
  exact h.keep (hb.mono (by omega)) (hb.block b this)
set_option maxHeartbeats 2000000 in
theorem next103 (B b : Nat) (ws : List Tx) (bad : Bool) (w : World) (h : Sc B w b ws bad) (hl : ws.length ≤ 100000) : Calls Tryz.prog 103 #[.pointer (some ⟨b, 0, none⟩)] w fun e w' => e = .returned (.string (S (ws.headD []))) ∧ Sc B w' b ws.tail (bad || ws.isEmpty) ∧ w.grownBy w' (some b) := by
  obtain ⟨A, c, hb, hw, hc, hB⟩ := h
  have c0 : w.cell? ⟨b, 0, none⟩ = some (.slice A ws.length c) := by simp [World.cell?, hb]
  have c1 : w.cell? ⟨b, 1, none⟩ = some (.bool bad) := by simp [World.cell?, hb]
  have f0 : ∀ i, w.frozen? ⟨b, i, none⟩ = false := fun i => by simp [World.frozen?, hb]
  have HB := Lib.hid hb
  have HW := Lib.hid hw
  clear hb hw
  cases ws with
  | nil =>
    go_enter Tryz.func103, Tryz.ntmps103
    go_wp2_with fail
    go_ret
    refine ⟨rfl, ⟨A, c, (setCell_heap _ _ _ _ _ _ _ HB.out).trans (by simp), fun hn => by simp at hn, by simp, hB⟩, grownBy_set _ _ _ _⟩
  | cons x r =>
    obtain ⟨bk, off, rfl, hlt, hcc⟩ := HW.out (by simp)
    have d0 : w.cell? ⟨bk, off, none⟩ = some (.string (S x)) := hcc 0 x rfl
    have HCC := Lib.hid hcc
    clear hcc
    have ln : (((x :: r).length : Nat) : Int) = (r.length : Int) + 1 := by simp
    simp only [List.length_cons] at hc
    by_cases h1 : c = 1
    · subst h1
      have hr : r = [] := List.length_eq_zero_iff.1 (by omega)
      subst hr
      go_enter Tryz.func103, Tryz.ntmps103
      go_wp2_with fail
      go_ret
      refine ⟨rfl, ⟨some ⟨bk, off, none⟩, 0, (setCell_heap _ _ _ _ _ _ _ HB.out).trans (by simp), fun hn => by simp at hn, by simp, hB⟩, grownBy_set _ _ _ _⟩
    · go_enter Tryz.func103, Tryz.ntmps103
      go_wp2_with fail
      · go_ret
        refine ⟨rfl, ⟨some ⟨bk, off + 1, none⟩, c - 1, (setCell_heap _ _ _ _ _ _ _ HB.out).trans (by simp), fun hn => ?_, by show r.length ≤ c - 1; omega, hB⟩, grownBy_set _ _ _ _⟩
        refine ⟨bk, off + 1, rfl, hlt, fun j y hj => ?_⟩
        have := HCC.out (j + 1) y (by simpa using hj)
        rw [show off + 1 + j = off + (j + 1) by omega]
        exact (grownBy_set _ _ _ _).cell this (by simp; omega)
theorem Sc.set {B : Nat} {w : World} {b : Nat} {ws : List Tx} {bad : Bool} (h : Sc B w b ws bad) : Sc B (w.setCell ⟨b, 1, none⟩ (.bool true)) b ws true := by
  obtain ⟨A, c, h1, h2, h3, h4⟩ := h
  exact ⟨A, c, (setCell_heap _ _ _ _ _ _ _ h1).trans (by simp), h2.below ((Below.refl _ _).setCell (p := ⟨b, 1, none⟩) h4 _), h3, h4⟩
theorem Sc.c1 {B : Nat} {w : World} {b : Nat} {ws : List Tx} {bad : Bool} (h : Sc B w b ws bad) : w.cell? ⟨b, 1, none⟩ = some (.bool bad) ∧ w.frozen? ⟨b, 1, none⟩ = false := by
  obtain ⟨A, c, h1, -⟩ := h
  exact ⟨by simp [World.cell?, h1], by simp [World.frozen?, h1]⟩
set_option maxHeartbeats 2000000 in
theorem word99 (B b : Nat) (ws : List Tx) (bad : Bool) (v : Tx) (w : World) (h : Sc B w b ws bad) (hl : ws.length ≤ 100000) : Calls Tryz.prog 99 #[.pointer (some ⟨b, 0, none⟩), .string (S v)] w fun e w' => e = .returned (.tuple #[]) ∧ Sc B w' b ws.tail (bad || ws.isEmpty || ws.headD [] != v) ∧ w.grownBy w' (some b) := by
  obtain ⟨u, hu⟩ : ∃ u, u = ws.headD [] := ⟨_, rfl⟩
  have N := next103 B b ws bad w h hl
  rw [← hu] at N ⊢
  clear hu h
  by_cases hv : u = v
  · have hq : (u != v) = false := by simp [hv]
    subst hv
    go_enter Tryz.func99, Tryz.ntmps99
    go_wp2_with fail
    refine N.mono ?_
    rintro e w1 ⟨rfl, h1, g1⟩
    have H1 := Lib.hid h1
    clear h1
    go_wp2_with fail
    go_end0
    exact ⟨rfl, by rw [hq, Bool.or_false]; exact H1.out, g1⟩
  · have hq : (u == v) = false := by simp [hv]
    have hs : ¬ S u = S v := fun e => hv (S_inj e)
    go_enter Tryz.func99, Tryz.ntmps99
    go_wp2_with fail
    refine N.mono ?_
    rintro e w1 ⟨rfl, h1, g1⟩
    obtain ⟨c1, f1⟩ := h1.c1
    have H1 := Lib.hid h1
    clear h1
    have HQ : Hid ((bad || ws.isEmpty || u != v) = true) := Lib.hid (by simp [hv])
    go_wp2_with fail
    go_end0
    exact ⟨rfl, by rw [HQ.out]; exact H1.out.set, grown_trans g1 (grownBy_set _ _ _ _)⟩
set_option maxHeartbeats 2000000 in
theorem done101 (B b : Nat) (ws : List Tx) (bad : Bool) (w : World) (h : Sc B w b ws bad) (hl : ws.length ≤ 100000) : Calls Tryz.prog 101 #[.pointer (some ⟨b, 0, none⟩)] w fun e w' => e = .returned (.bool (!bad && ws.isEmpty)) ∧ w = w' := by
  obtain ⟨A, c, hb, -⟩ := h
  have c0 : w.cell? ⟨b, 0, none⟩ = some (.slice A ws.length c) := by simp [World.cell?, hb]
  have c1 : w.cell? ⟨b, 1, none⟩ = some (.bool bad) := by simp [World.cell?, hb]
  clear hb
  cases bad
  · cases ws with
    | nil =>
      go_enter Tryz.func101, Tryz.ntmps101
      go_wp2_with fail
      go_ret
      exact ⟨rfl, rfl⟩
    | cons x r =>
      have ln : (((x :: r).length : Nat) : Int) = (r.length : Int) + 1 := by simp
      have l0 : (((x :: r).length : Nat) : Int) ≠ 0 := by omega
      go_enter Tryz.func101, Tryz.ntmps101
      go_wp2_with fail
      go_ret
      exact ⟨ret_bool (by simp; omega), rfl⟩
  · go_enter Tryz.func101, Tryz.ntmps101
    go_wp2_with fail
    go_ret
    exact ⟨rfl, rfl⟩
end Go.Proofs.YtnnnpliigdfipaaGreatDoor
