/- EncounterExamples: the changes. -/
import Derived.Test.YtnnnpliigdfipaaGreatDoorRows
import Derived.WalkKit
import Derived.WalkLawsBesides
import Derived.WalkSpells
import Derived.ProofKit
import Derived.Below
import Derived.Outline
import Derived.Lib.Hide
import Derived.Deep.RegionWith
import Derived.Deep.RegionHeld3
import Derived.Deep.DrawnRows
import Derived.StillTailTactics
import Derived.BigQuiet
import Derived.Deep.QuietTactic
import Derived.Deep.LoopGhost
import Derived.IntWalk
import Derived.Lib.MinMax
import Derived.OrdersHeld
import Derived.Laws.OwnMore
import Derived.Test.YtnnnpliigdfipaaGreatDoorEnDB
import Derived.Test.YtnnnpliigdfipaaGreatDoorEnHC
namespace Go.Proofs.YtnnnpliigdfipaaGreatDoor
open Go.RowKit
attribute [local go_sem ↓] Go.wp_at_zero Go.wp_at_succ
attribute [local go_sem] wrap_lit
def legs17 : List (Int × Int) := (List.range 17).map fun (i : Nat) => (2 * (i : Int), (100 : Int))
theorem lenL : legs17.length = 17 := by decide
def c0X : Cr := ⟨16777215, ⟨0, 0, 0⟩, ⟨0, 0, 0⟩, 32, [], 2, 5, 8, 0⟩
def crA (c : Cr) (LA : Option Addr) (cap : Nat) : Array Value := #[.int .i64 c.ad, .int .i64 c.p.x, .int .i64 c.p.y, .int .i64 c.p.z, .int .i64 c.v.x, .int .i64 c.v.y, .int .i64 c.v.z, .int .i64 c.pu, .slice LA c.lg.length cap, .int .u8 c.mo, .int .i64 c.de, .int .i64 c.pp, .int .i64 c.mi]
/-- the world that a change finds -/
structure StX (w : World) (H g L gl : Nat) : Prop where
  hH : w.heap[H]? = some (.cells #[.int .i64 120, .int .i64 10000, .slice (some ⟨g, 0, none⟩) 1 1] 24 (0, 0))
  hg : w.heap[g]? = some (.cells (crA c0X none 0) 63 (0, 0))
  hL : w.heap[L]? = some (.cells #[.slice (some ⟨gl, 0, none⟩) 17 17] 52 (0, 0))
  hl : ∃ cur, w.heap[gl]? = some (.cells cur 54 (0, 0)) ∧ ∀ j, j < 34 → cur[j]? = some (.int .i64 (nth (flat legs17) j))
  o1 : L < g
  o2 : gl < g
  o3 : g < H
/-- what a change leaves -/
def ClR (H g : Nat) (x : En) (w : World) (e : Ending) (w' : World) : Prop := e = .returned (.tuple #[]) ∧ Below g w w' ∧ ∃ A cap, x.cs.length ≤ cap ∧ w'.heap[H]? = some (.cells #[.int .i64 x.cy, .int .i64 x.gr, .slice A x.cs.length cap] 24 (0, 0)) ∧ InCr w' w'.heap.size A x.cs
theorem curX {w : World} {g i : Nat} {cur : Array Value} {T : TypeId} {f : Nat × Nat} {u : Value} (h : w.heap[g]? = some (.cells cur T f)) (k : cur[i]? = some u) : w.cell? ⟨g, i, none⟩ = some u := by simp [World.cell?, h, k]
theorem crAt_of {w : World} {g o : Nat} {c : Cr} {LA : Option Addr} {cap : Nat} (h : ∀ i u, (crA c LA cap)[i]? = some u → w.cell? ⟨g, o + i, none⟩ = some u) : CrAt w g o c LA cap :=
  ⟨h 0 _ rfl, h 1 _ rfl, h 2 _ rfl, h 3 _ rfl, h 4 _ rfl, h 5 _ rfl, h 6 _ rfl, h 7 _ rfl, h 8 _ rfl, h 9 _ rfl, h 10 _ rfl, h 11 _ rfl, h 12 _ rfl⟩
theorem fin1 {w w' : World} {H g : Nat} {c : Cr} {LA : Option Addr} {lcap : Nat} {cy gr : Int} (hH : w'.heap[H]? = some (.cells #[.int .i64 cy, .int .i64 gr, .slice (some ⟨g, 0, none⟩) 1 1] 24 (0, 0))) (hg : w'.heap[g]? = some (.cells (crA c LA lcap) 63 (0, 0))) (hl : Is .i64 w' w'.heap.size LA (flat c.lg)) (hb : Below g w w') : ClR H g ⟨cy, gr, [c]⟩ w (.returned (.tuple #[])) w' := by
  refine ⟨rfl, hb, some ⟨g, 0, none⟩, 1, Nat.le_refl _, hH, fun _ => ⟨g, 0, rfl, heap_lt hg, fun j d hj => ?_⟩⟩
  have hj0 : j = 0 := by have := (List.getElem?_eq_some_iff.1 hj).1; simpa using this
  subst hj0
  obtain rfl : c = d := by simpa using hj
  exact ⟨LA, lcap, crAt_of (fun i u hu => by rw [show 0 + 0 * 13 + i = i by omega]; exact curX hg hu), hl⟩
theorem fin0 {w w' : World} {H g : Nat} {cy gr : Int} (hH : w'.heap[H]? = some (.cells #[.int .i64 cy, .int .i64 gr, .slice none 0 0] 24 (0, 0))) (hb : Below g w w') : ClR H g ⟨cy, gr, []⟩ w (.returned (.tuple #[])) w' :=
  ⟨rfl, hb, none, 0, Nat.le_refl _, hH, fun h => absurd h (Nat.lt_irrefl 0)⟩
theorem is_none (w : World) (B : Nat) : Is .i64 w B none (flat []) := fun h => absurd h (by decide)
theorem legs_is {w w' : World} {H g L gl n : Nat} (S : StX w H g L gl) (hb : Below g w w') (hn : n ≤ 17) : Is .i64 w' w'.heap.size (some ⟨gl, 0, none⟩) (flat (legs17.take n)) := fun _ => by
  obtain ⟨cur, h1, h2⟩ := S.hl
  have hw := (hb.block _ S.o2).trans h1
  refine ⟨gl, 0, rfl, heap_lt hw, fun j hj => ?_⟩
  have hl : (legs17.take n).length = n := by rw [List.length_take]; simp [legs17]; omega
  rw [flat2_len, hl] at hj
  rw [Nat.zero_add]
  have e : nth (flat (legs17.take n)) j = nth (flat legs17) j := by
    have h3 : ∀ (l : List (Int × Int)) (n j : Nat), j < n * 2 → nth (flat (l.take n)) j = nth (flat l) j := by
      intro l
      induction l with
      | nil => intro n j _; simp
      | cons a l ih =>
        intro n j hj
        cases n with
        | zero => omega
        | succ n =>
          rcases j with _ | _ | j
          · rfl
          · rfl
          · have := ih n j (by omega)
            simpa [flat, nth] using this
    exact h3 _ _ _ hj
  rw [e]
  exact curX hw (h2 j (by omega))
theorem change0 (w : World) (H g L gl : Nat) (S : StX w H g L gl) : Calls Tryz.prog 30 #[.pointer (some ⟨H, 0, none⟩), .pointer (some ⟨g, 0, none⟩)] w (ClR H g ⟨120, 10000, [⟨16777215, ⟨0, 0, 0⟩, ⟨0, 0, 0⟩, 32, [], 2, 5, 8, 0⟩]⟩ w) := by
  have h0 : w.cell? ⟨H, 0, none⟩ = some (.int .i64 120) := curX S.hH rfl
  have h1 : w.cell? ⟨H, 1, none⟩ = some (.int .i64 10000) := curX S.hH rfl
  have h2 : w.cell? ⟨H, 2, none⟩ = some (.slice (some ⟨g, 0, none⟩) 1 1) := curX S.hH rfl
  have g0 : w.cell? ⟨g, 0, none⟩ = some (.int .i64 16777215) := curX S.hg rfl
  have g1 : w.cell? ⟨g, 1, none⟩ = some (.int .i64 0) := curX S.hg rfl
  have g2 : w.cell? ⟨g, 2, none⟩ = some (.int .i64 0) := curX S.hg rfl
  have g3 : w.cell? ⟨g, 3, none⟩ = some (.int .i64 0) := curX S.hg rfl
  have g4 : w.cell? ⟨g, 4, none⟩ = some (.int .i64 0) := curX S.hg rfl
  have g5 : w.cell? ⟨g, 5, none⟩ = some (.int .i64 0) := curX S.hg rfl
  have g6 : w.cell? ⟨g, 6, none⟩ = some (.int .i64 0) := curX S.hg rfl
  have g7 : w.cell? ⟨g, 7, none⟩ = some (.int .i64 32) := curX S.hg rfl
  have g8 : w.cell? ⟨g, 8, none⟩ = some (.slice none 0 0) := curX S.hg rfl
  have g9 : w.cell? ⟨g, 9, none⟩ = some (.int .u8 2) := curX S.hg rfl
  have g10 : w.cell? ⟨g, 10, none⟩ = some (.int .i64 5) := curX S.hg rfl
  have g11 : w.cell? ⟨g, 11, none⟩ = some (.int .i64 8) := curX S.hg rfl
  have g12 : w.cell? ⟨g, 12, none⟩ = some (.int .i64 0) := curX S.hg rfl
  have l0 : w.cell? ⟨L, 0, none⟩ = some (.slice (some ⟨gl, 0, none⟩) 17 17) := curX S.hL rfl
  have fH : ∀ i, w.frozen? ⟨H, i, none⟩ = false := fun i => by simp [World.frozen?, S.hH]
  have fg : ∀ i, w.frozen? ⟨g, i, none⟩ = false := fun i => by simp [World.frozen?, S.hg]
  have o1 := S.o1
  have o2 := S.o2
  have o3 := S.o3
  have n1 : g ≠ H := by omega
  have n2 : H ≠ g := by omega
  have n3 : L ≠ g := by omega
  have zH := heap_lt S.hH
  have zg : g < w.heap.size := heap_lt S.hg
  have HS := Lib.hid S
  go_enter Tryz.func30, Tryz.ntmps30
  go_wp2_with fail
  go_end0
  have S := HS.out
  exact fin1 (c := ⟨16777215, ⟨0, 0, 0⟩, ⟨0, 0, 0⟩, 32, [], 2, 5, 8, 0⟩) (LA := none) (lcap := 0) (cy := 120) (gr := 10000) (S.hH) ((S.hg).trans (by simp [crA, c0X])) (is_none _ _) (Below.refl g w)
theorem change1 (w : World) (H g L gl : Nat) (S : StX w H g L gl) : Calls Tryz.prog 31 #[.pointer (some ⟨H, 0, none⟩), .pointer (some ⟨g, 0, none⟩)] w (ClR H g ⟨0, 10000, []⟩ w) := by
  have h0 : w.cell? ⟨H, 0, none⟩ = some (.int .i64 120) := curX S.hH rfl
  have h1 : w.cell? ⟨H, 1, none⟩ = some (.int .i64 10000) := curX S.hH rfl
  have h2 : w.cell? ⟨H, 2, none⟩ = some (.slice (some ⟨g, 0, none⟩) 1 1) := curX S.hH rfl
  have g0 : w.cell? ⟨g, 0, none⟩ = some (.int .i64 16777215) := curX S.hg rfl
  have g1 : w.cell? ⟨g, 1, none⟩ = some (.int .i64 0) := curX S.hg rfl
  have g2 : w.cell? ⟨g, 2, none⟩ = some (.int .i64 0) := curX S.hg rfl
  have g3 : w.cell? ⟨g, 3, none⟩ = some (.int .i64 0) := curX S.hg rfl
  have g4 : w.cell? ⟨g, 4, none⟩ = some (.int .i64 0) := curX S.hg rfl
  have g5 : w.cell? ⟨g, 5, none⟩ = some (.int .i64 0) := curX S.hg rfl
  have g6 : w.cell? ⟨g, 6, none⟩ = some (.int .i64 0) := curX S.hg rfl
  have g7 : w.cell? ⟨g, 7, none⟩ = some (.int .i64 32) := curX S.hg rfl
  have g8 : w.cell? ⟨g, 8, none⟩ = some (.slice none 0 0) := curX S.hg rfl
  have g9 : w.cell? ⟨g, 9, none⟩ = some (.int .u8 2) := curX S.hg rfl
  have g10 : w.cell? ⟨g, 10, none⟩ = some (.int .i64 5) := curX S.hg rfl
  have g11 : w.cell? ⟨g, 11, none⟩ = some (.int .i64 8) := curX S.hg rfl
  have g12 : w.cell? ⟨g, 12, none⟩ = some (.int .i64 0) := curX S.hg rfl
  have l0 : w.cell? ⟨L, 0, none⟩ = some (.slice (some ⟨gl, 0, none⟩) 17 17) := curX S.hL rfl
  have fH : ∀ i, w.frozen? ⟨H, i, none⟩ = false := fun i => by simp [World.frozen?, S.hH]
  have fg : ∀ i, w.frozen? ⟨g, i, none⟩ = false := fun i => by simp [World.frozen?, S.hg]
  have o1 := S.o1
  have o2 := S.o2
  have o3 := S.o3
  have n1 : g ≠ H := by omega
  have n2 : H ≠ g := by omega
  have n3 : L ≠ g := by omega
  have zH := heap_lt S.hH
  have zg : g < w.heap.size := heap_lt S.hg
  have HS := Lib.hid S
  go_enter Tryz.func31, Tryz.ntmps31
  go_wp2_with fail
  go_end0
  have S := HS.out
  exact fin0 (cy := 0) (gr := 10000) (((setCell_heap _ _ _ _ _ _ _ (setCell_heap _ _ _ _ _ _ _ S.hH))).trans (by simp)) (Below.setCell (Below.setCell (Below.refl g w) (p := ⟨H, 0, none⟩) (by first | exact Nat.le_refl _ | exact Nat.le_of_lt o3) _) (p := ⟨H, 2, none⟩) (by first | exact Nat.le_refl _ | exact Nat.le_of_lt o3) _)
theorem change2 (w : World) (H g L gl : Nat) (S : StX w H g L gl) : Calls Tryz.prog 32 #[.pointer (some ⟨H, 0, none⟩), .pointer (some ⟨g, 0, none⟩)] w (ClR H g ⟨121, 10000, [⟨16777215, ⟨0, 0, 0⟩, ⟨0, 0, 0⟩, 32, [], 2, 5, 8, 0⟩]⟩ w) := by
  have h0 : w.cell? ⟨H, 0, none⟩ = some (.int .i64 120) := curX S.hH rfl
  have h1 : w.cell? ⟨H, 1, none⟩ = some (.int .i64 10000) := curX S.hH rfl
  have h2 : w.cell? ⟨H, 2, none⟩ = some (.slice (some ⟨g, 0, none⟩) 1 1) := curX S.hH rfl
  have g0 : w.cell? ⟨g, 0, none⟩ = some (.int .i64 16777215) := curX S.hg rfl
  have g1 : w.cell? ⟨g, 1, none⟩ = some (.int .i64 0) := curX S.hg rfl
  have g2 : w.cell? ⟨g, 2, none⟩ = some (.int .i64 0) := curX S.hg rfl
  have g3 : w.cell? ⟨g, 3, none⟩ = some (.int .i64 0) := curX S.hg rfl
  have g4 : w.cell? ⟨g, 4, none⟩ = some (.int .i64 0) := curX S.hg rfl
  have g5 : w.cell? ⟨g, 5, none⟩ = some (.int .i64 0) := curX S.hg rfl
  have g6 : w.cell? ⟨g, 6, none⟩ = some (.int .i64 0) := curX S.hg rfl
  have g7 : w.cell? ⟨g, 7, none⟩ = some (.int .i64 32) := curX S.hg rfl
  have g8 : w.cell? ⟨g, 8, none⟩ = some (.slice none 0 0) := curX S.hg rfl
  have g9 : w.cell? ⟨g, 9, none⟩ = some (.int .u8 2) := curX S.hg rfl
  have g10 : w.cell? ⟨g, 10, none⟩ = some (.int .i64 5) := curX S.hg rfl
  have g11 : w.cell? ⟨g, 11, none⟩ = some (.int .i64 8) := curX S.hg rfl
  have g12 : w.cell? ⟨g, 12, none⟩ = some (.int .i64 0) := curX S.hg rfl
  have l0 : w.cell? ⟨L, 0, none⟩ = some (.slice (some ⟨gl, 0, none⟩) 17 17) := curX S.hL rfl
  have fH : ∀ i, w.frozen? ⟨H, i, none⟩ = false := fun i => by simp [World.frozen?, S.hH]
  have fg : ∀ i, w.frozen? ⟨g, i, none⟩ = false := fun i => by simp [World.frozen?, S.hg]
  have o1 := S.o1
  have o2 := S.o2
  have o3 := S.o3
  have n1 : g ≠ H := by omega
  have n2 : H ≠ g := by omega
  have n3 : L ≠ g := by omega
  have zH := heap_lt S.hH
  have zg : g < w.heap.size := heap_lt S.hg
  have HS := Lib.hid S
  go_enter Tryz.func32, Tryz.ntmps32
  go_wp2_with fail
  go_end0
  have S := HS.out
  exact fin1 (c := ⟨16777215, ⟨0, 0, 0⟩, ⟨0, 0, 0⟩, 32, [], 2, 5, 8, 0⟩) (LA := none) (lcap := 0) (cy := 121) (gr := 10000) (((setCell_heap _ _ _ _ _ _ _ S.hH)).trans (by simp)) ((((set_far _ _ _ _ _ n1).trans S.hg)).trans (by simp [crA, c0X])) (is_none _ _) (Below.setCell (Below.refl g w) (p := ⟨H, 0, none⟩) (by first | exact Nat.le_refl _ | exact Nat.le_of_lt o3) _)
theorem change3 (w : World) (H g L gl : Nat) (S : StX w H g L gl) : Calls Tryz.prog 33 #[.pointer (some ⟨H, 0, none⟩), .pointer (some ⟨g, 0, none⟩)] w (ClR H g ⟨120, -1, [⟨16777215, ⟨0, 0, 0⟩, ⟨0, 0, 0⟩, 32, [], 2, 5, 8, 0⟩]⟩ w) := by
  have h0 : w.cell? ⟨H, 0, none⟩ = some (.int .i64 120) := curX S.hH rfl
  have h1 : w.cell? ⟨H, 1, none⟩ = some (.int .i64 10000) := curX S.hH rfl
  have h2 : w.cell? ⟨H, 2, none⟩ = some (.slice (some ⟨g, 0, none⟩) 1 1) := curX S.hH rfl
  have g0 : w.cell? ⟨g, 0, none⟩ = some (.int .i64 16777215) := curX S.hg rfl
  have g1 : w.cell? ⟨g, 1, none⟩ = some (.int .i64 0) := curX S.hg rfl
  have g2 : w.cell? ⟨g, 2, none⟩ = some (.int .i64 0) := curX S.hg rfl
  have g3 : w.cell? ⟨g, 3, none⟩ = some (.int .i64 0) := curX S.hg rfl
  have g4 : w.cell? ⟨g, 4, none⟩ = some (.int .i64 0) := curX S.hg rfl
  have g5 : w.cell? ⟨g, 5, none⟩ = some (.int .i64 0) := curX S.hg rfl
  have g6 : w.cell? ⟨g, 6, none⟩ = some (.int .i64 0) := curX S.hg rfl
  have g7 : w.cell? ⟨g, 7, none⟩ = some (.int .i64 32) := curX S.hg rfl
  have g8 : w.cell? ⟨g, 8, none⟩ = some (.slice none 0 0) := curX S.hg rfl
  have g9 : w.cell? ⟨g, 9, none⟩ = some (.int .u8 2) := curX S.hg rfl
  have g10 : w.cell? ⟨g, 10, none⟩ = some (.int .i64 5) := curX S.hg rfl
  have g11 : w.cell? ⟨g, 11, none⟩ = some (.int .i64 8) := curX S.hg rfl
  have g12 : w.cell? ⟨g, 12, none⟩ = some (.int .i64 0) := curX S.hg rfl
  have l0 : w.cell? ⟨L, 0, none⟩ = some (.slice (some ⟨gl, 0, none⟩) 17 17) := curX S.hL rfl
  have fH : ∀ i, w.frozen? ⟨H, i, none⟩ = false := fun i => by simp [World.frozen?, S.hH]
  have fg : ∀ i, w.frozen? ⟨g, i, none⟩ = false := fun i => by simp [World.frozen?, S.hg]
  have o1 := S.o1
  have o2 := S.o2
  have o3 := S.o3
  have n1 : g ≠ H := by omega
  have n2 : H ≠ g := by omega
  have n3 : L ≠ g := by omega
  have zH := heap_lt S.hH
  have zg : g < w.heap.size := heap_lt S.hg
  have HS := Lib.hid S
  go_enter Tryz.func33, Tryz.ntmps33
  go_wp2_with fail
  go_end0
  have S := HS.out
  exact fin1 (c := ⟨16777215, ⟨0, 0, 0⟩, ⟨0, 0, 0⟩, 32, [], 2, 5, 8, 0⟩) (LA := none) (lcap := 0) (cy := 120) (gr := -1) (((setCell_heap _ _ _ _ _ _ _ S.hH)).trans (by simp)) ((((set_far _ _ _ _ _ n1).trans S.hg)).trans (by simp [crA, c0X])) (is_none _ _) (Below.setCell (Below.refl g w) (p := ⟨H, 1, none⟩) (by first | exact Nat.le_refl _ | exact Nat.le_of_lt o3) _)
theorem change4 (w : World) (H g L gl : Nat) (S : StX w H g L gl) : Calls Tryz.prog 34 #[.pointer (some ⟨H, 0, none⟩), .pointer (some ⟨g, 0, none⟩)] w (ClR H g ⟨120, 10001, [⟨16777215, ⟨0, 0, 0⟩, ⟨0, 0, 0⟩, 32, [], 2, 5, 8, 0⟩]⟩ w) := by
  have h0 : w.cell? ⟨H, 0, none⟩ = some (.int .i64 120) := curX S.hH rfl
  have h1 : w.cell? ⟨H, 1, none⟩ = some (.int .i64 10000) := curX S.hH rfl
  have h2 : w.cell? ⟨H, 2, none⟩ = some (.slice (some ⟨g, 0, none⟩) 1 1) := curX S.hH rfl
  have g0 : w.cell? ⟨g, 0, none⟩ = some (.int .i64 16777215) := curX S.hg rfl
  have g1 : w.cell? ⟨g, 1, none⟩ = some (.int .i64 0) := curX S.hg rfl
  have g2 : w.cell? ⟨g, 2, none⟩ = some (.int .i64 0) := curX S.hg rfl
  have g3 : w.cell? ⟨g, 3, none⟩ = some (.int .i64 0) := curX S.hg rfl
  have g4 : w.cell? ⟨g, 4, none⟩ = some (.int .i64 0) := curX S.hg rfl
  have g5 : w.cell? ⟨g, 5, none⟩ = some (.int .i64 0) := curX S.hg rfl
  have g6 : w.cell? ⟨g, 6, none⟩ = some (.int .i64 0) := curX S.hg rfl
  have g7 : w.cell? ⟨g, 7, none⟩ = some (.int .i64 32) := curX S.hg rfl
  have g8 : w.cell? ⟨g, 8, none⟩ = some (.slice none 0 0) := curX S.hg rfl
  have g9 : w.cell? ⟨g, 9, none⟩ = some (.int .u8 2) := curX S.hg rfl
  have g10 : w.cell? ⟨g, 10, none⟩ = some (.int .i64 5) := curX S.hg rfl
  have g11 : w.cell? ⟨g, 11, none⟩ = some (.int .i64 8) := curX S.hg rfl
  have g12 : w.cell? ⟨g, 12, none⟩ = some (.int .i64 0) := curX S.hg rfl
  have l0 : w.cell? ⟨L, 0, none⟩ = some (.slice (some ⟨gl, 0, none⟩) 17 17) := curX S.hL rfl
  have fH : ∀ i, w.frozen? ⟨H, i, none⟩ = false := fun i => by simp [World.frozen?, S.hH]
  have fg : ∀ i, w.frozen? ⟨g, i, none⟩ = false := fun i => by simp [World.frozen?, S.hg]
  have o1 := S.o1
  have o2 := S.o2
  have o3 := S.o3
  have n1 : g ≠ H := by omega
  have n2 : H ≠ g := by omega
  have n3 : L ≠ g := by omega
  have zH := heap_lt S.hH
  have zg : g < w.heap.size := heap_lt S.hg
  have HS := Lib.hid S
  go_enter Tryz.func34, Tryz.ntmps34
  go_wp2_with fail
  go_end0
  have S := HS.out
  exact fin1 (c := ⟨16777215, ⟨0, 0, 0⟩, ⟨0, 0, 0⟩, 32, [], 2, 5, 8, 0⟩) (LA := none) (lcap := 0) (cy := 120) (gr := 10001) (((setCell_heap _ _ _ _ _ _ _ S.hH)).trans (by simp)) ((((set_far _ _ _ _ _ n1).trans S.hg)).trans (by simp [crA, c0X])) (is_none _ _) (Below.setCell (Below.refl g w) (p := ⟨H, 1, none⟩) (by first | exact Nat.le_refl _ | exact Nat.le_of_lt o3) _)
theorem change5 (w : World) (H g L gl : Nat) (S : StX w H g L gl) : Calls Tryz.prog 35 #[.pointer (some ⟨H, 0, none⟩), .pointer (some ⟨g, 0, none⟩)] w (ClR H g ⟨120, 10000, []⟩ w) := by
  have h0 : w.cell? ⟨H, 0, none⟩ = some (.int .i64 120) := curX S.hH rfl
  have h1 : w.cell? ⟨H, 1, none⟩ = some (.int .i64 10000) := curX S.hH rfl
  have h2 : w.cell? ⟨H, 2, none⟩ = some (.slice (some ⟨g, 0, none⟩) 1 1) := curX S.hH rfl
  have g0 : w.cell? ⟨g, 0, none⟩ = some (.int .i64 16777215) := curX S.hg rfl
  have g1 : w.cell? ⟨g, 1, none⟩ = some (.int .i64 0) := curX S.hg rfl
  have g2 : w.cell? ⟨g, 2, none⟩ = some (.int .i64 0) := curX S.hg rfl
  have g3 : w.cell? ⟨g, 3, none⟩ = some (.int .i64 0) := curX S.hg rfl
  have g4 : w.cell? ⟨g, 4, none⟩ = some (.int .i64 0) := curX S.hg rfl
  have g5 : w.cell? ⟨g, 5, none⟩ = some (.int .i64 0) := curX S.hg rfl
  have g6 : w.cell? ⟨g, 6, none⟩ = some (.int .i64 0) := curX S.hg rfl
  have g7 : w.cell? ⟨g, 7, none⟩ = some (.int .i64 32) := curX S.hg rfl
  have g8 : w.cell? ⟨g, 8, none⟩ = some (.slice none 0 0) := curX S.hg rfl
  have g9 : w.cell? ⟨g, 9, none⟩ = some (.int .u8 2) := curX S.hg rfl
  have g10 : w.cell? ⟨g, 10, none⟩ = some (.int .i64 5) := curX S.hg rfl
  have g11 : w.cell? ⟨g, 11, none⟩ = some (.int .i64 8) := curX S.hg rfl
  have g12 : w.cell? ⟨g, 12, none⟩ = some (.int .i64 0) := curX S.hg rfl
  have l0 : w.cell? ⟨L, 0, none⟩ = some (.slice (some ⟨gl, 0, none⟩) 17 17) := curX S.hL rfl
  have fH : ∀ i, w.frozen? ⟨H, i, none⟩ = false := fun i => by simp [World.frozen?, S.hH]
  have fg : ∀ i, w.frozen? ⟨g, i, none⟩ = false := fun i => by simp [World.frozen?, S.hg]
  have o1 := S.o1
  have o2 := S.o2
  have o3 := S.o3
  have n1 : g ≠ H := by omega
  have n2 : H ≠ g := by omega
  have n3 : L ≠ g := by omega
  have zH := heap_lt S.hH
  have zg : g < w.heap.size := heap_lt S.hg
  have HS := Lib.hid S
  go_enter Tryz.func35, Tryz.ntmps35
  go_wp2_with fail
  go_end0
  have S := HS.out
  exact fin0 (cy := 120) (gr := 10000) (((setCell_heap _ _ _ _ _ _ _ S.hH)).trans (by simp)) (Below.setCell (Below.refl g w) (p := ⟨H, 2, none⟩) (by first | exact Nat.le_refl _ | exact Nat.le_of_lt o3) _)
theorem change7 (w : World) (H g L gl : Nat) (S : StX w H g L gl) : Calls Tryz.prog 37 #[.pointer (some ⟨H, 0, none⟩), .pointer (some ⟨g, 0, none⟩)] w (ClR H g ⟨120, 10000, [⟨-1, ⟨0, 0, 0⟩, ⟨0, 0, 0⟩, 32, [], 2, 5, 8, 0⟩]⟩ w) := by
  have h0 : w.cell? ⟨H, 0, none⟩ = some (.int .i64 120) := curX S.hH rfl
  have h1 : w.cell? ⟨H, 1, none⟩ = some (.int .i64 10000) := curX S.hH rfl
  have h2 : w.cell? ⟨H, 2, none⟩ = some (.slice (some ⟨g, 0, none⟩) 1 1) := curX S.hH rfl
  have g0 : w.cell? ⟨g, 0, none⟩ = some (.int .i64 16777215) := curX S.hg rfl
  have g1 : w.cell? ⟨g, 1, none⟩ = some (.int .i64 0) := curX S.hg rfl
  have g2 : w.cell? ⟨g, 2, none⟩ = some (.int .i64 0) := curX S.hg rfl
  have g3 : w.cell? ⟨g, 3, none⟩ = some (.int .i64 0) := curX S.hg rfl
  have g4 : w.cell? ⟨g, 4, none⟩ = some (.int .i64 0) := curX S.hg rfl
  have g5 : w.cell? ⟨g, 5, none⟩ = some (.int .i64 0) := curX S.hg rfl
  have g6 : w.cell? ⟨g, 6, none⟩ = some (.int .i64 0) := curX S.hg rfl
  have g7 : w.cell? ⟨g, 7, none⟩ = some (.int .i64 32) := curX S.hg rfl
  have g8 : w.cell? ⟨g, 8, none⟩ = some (.slice none 0 0) := curX S.hg rfl
  have g9 : w.cell? ⟨g, 9, none⟩ = some (.int .u8 2) := curX S.hg rfl
  have g10 : w.cell? ⟨g, 10, none⟩ = some (.int .i64 5) := curX S.hg rfl
  have g11 : w.cell? ⟨g, 11, none⟩ = some (.int .i64 8) := curX S.hg rfl
  have g12 : w.cell? ⟨g, 12, none⟩ = some (.int .i64 0) := curX S.hg rfl
  have l0 : w.cell? ⟨L, 0, none⟩ = some (.slice (some ⟨gl, 0, none⟩) 17 17) := curX S.hL rfl
  have fH : ∀ i, w.frozen? ⟨H, i, none⟩ = false := fun i => by simp [World.frozen?, S.hH]
  have fg : ∀ i, w.frozen? ⟨g, i, none⟩ = false := fun i => by simp [World.frozen?, S.hg]
  have o1 := S.o1
  have o2 := S.o2
  have o3 := S.o3
  have n1 : g ≠ H := by omega
  have n2 : H ≠ g := by omega
  have n3 : L ≠ g := by omega
  have zH := heap_lt S.hH
  have zg : g < w.heap.size := heap_lt S.hg
  have HS := Lib.hid S
  go_enter Tryz.func37, Tryz.ntmps37
  go_wp2_with fail
  go_end0
  have S := HS.out
  exact fin1 (c := ⟨-1, ⟨0, 0, 0⟩, ⟨0, 0, 0⟩, 32, [], 2, 5, 8, 0⟩) (LA := none) (lcap := 0) (cy := 120) (gr := 10000) (((set_far _ _ _ _ _ n2).trans S.hH)) (((setCell_heap _ _ _ _ _ _ _ S.hg)).trans (by simp [crA, c0X])) (is_none _ _) (Below.setCell (Below.refl g w) (p := ⟨g, 0, none⟩) (by first | exact Nat.le_refl _ | exact Nat.le_of_lt o3) _)
theorem change8 (w : World) (H g L gl : Nat) (S : StX w H g L gl) : Calls Tryz.prog 38 #[.pointer (some ⟨H, 0, none⟩), .pointer (some ⟨g, 0, none⟩)] w (ClR H g ⟨120, 10000, [⟨16777216, ⟨9999, 0, 0⟩, ⟨0, 0, 0⟩, 32, [], 2, 5, 8, 0⟩]⟩ w) := by
  have h0 : w.cell? ⟨H, 0, none⟩ = some (.int .i64 120) := curX S.hH rfl
  have h1 : w.cell? ⟨H, 1, none⟩ = some (.int .i64 10000) := curX S.hH rfl
  have h2 : w.cell? ⟨H, 2, none⟩ = some (.slice (some ⟨g, 0, none⟩) 1 1) := curX S.hH rfl
  have g0 : w.cell? ⟨g, 0, none⟩ = some (.int .i64 16777215) := curX S.hg rfl
  have g1 : w.cell? ⟨g, 1, none⟩ = some (.int .i64 0) := curX S.hg rfl
  have g2 : w.cell? ⟨g, 2, none⟩ = some (.int .i64 0) := curX S.hg rfl
  have g3 : w.cell? ⟨g, 3, none⟩ = some (.int .i64 0) := curX S.hg rfl
  have g4 : w.cell? ⟨g, 4, none⟩ = some (.int .i64 0) := curX S.hg rfl
  have g5 : w.cell? ⟨g, 5, none⟩ = some (.int .i64 0) := curX S.hg rfl
  have g6 : w.cell? ⟨g, 6, none⟩ = some (.int .i64 0) := curX S.hg rfl
  have g7 : w.cell? ⟨g, 7, none⟩ = some (.int .i64 32) := curX S.hg rfl
  have g8 : w.cell? ⟨g, 8, none⟩ = some (.slice none 0 0) := curX S.hg rfl
  have g9 : w.cell? ⟨g, 9, none⟩ = some (.int .u8 2) := curX S.hg rfl
  have g10 : w.cell? ⟨g, 10, none⟩ = some (.int .i64 5) := curX S.hg rfl
  have g11 : w.cell? ⟨g, 11, none⟩ = some (.int .i64 8) := curX S.hg rfl
  have g12 : w.cell? ⟨g, 12, none⟩ = some (.int .i64 0) := curX S.hg rfl
  have l0 : w.cell? ⟨L, 0, none⟩ = some (.slice (some ⟨gl, 0, none⟩) 17 17) := curX S.hL rfl
  have fH : ∀ i, w.frozen? ⟨H, i, none⟩ = false := fun i => by simp [World.frozen?, S.hH]
  have fg : ∀ i, w.frozen? ⟨g, i, none⟩ = false := fun i => by simp [World.frozen?, S.hg]
  have o1 := S.o1
  have o2 := S.o2
  have o3 := S.o3
  have n1 : g ≠ H := by omega
  have n2 : H ≠ g := by omega
  have n3 : L ≠ g := by omega
  have zH := heap_lt S.hH
  have zg : g < w.heap.size := heap_lt S.hg
  have HS := Lib.hid S
  go_enter Tryz.func38, Tryz.ntmps38
  go_wp2_with fail
  go_end0
  have S := HS.out
  exact fin1 (c := ⟨16777216, ⟨9999, 0, 0⟩, ⟨0, 0, 0⟩, 32, [], 2, 5, 8, 0⟩) (LA := none) (lcap := 0) (cy := 120) (gr := 10000) (((set_far _ _ _ _ _ n2).trans ((set_far _ _ _ _ _ n2).trans S.hH))) (((setCell_heap _ _ _ _ _ _ _ (setCell_heap _ _ _ _ _ _ _ S.hg))).trans (by simp [crA, c0X])) (is_none _ _) (Below.setCell (Below.setCell (Below.refl g w) (p := ⟨g, 0, none⟩) (by first | exact Nat.le_refl _ | exact Nat.le_of_lt o3) _) (p := ⟨g, 1, none⟩) (by first | exact Nat.le_refl _ | exact Nat.le_of_lt o3) _)
theorem change10 (w : World) (H g L gl : Nat) (S : StX w H g L gl) : Calls Tryz.prog 40 #[.pointer (some ⟨H, 0, none⟩), .pointer (some ⟨g, 0, none⟩)] w (ClR H g ⟨120, 10000, [⟨16777215, ⟨8193, 0, 0⟩, ⟨0, 0, 0⟩, 32, [], 9, 5, 8, 0⟩]⟩ w) := by
  have h0 : w.cell? ⟨H, 0, none⟩ = some (.int .i64 120) := curX S.hH rfl
  have h1 : w.cell? ⟨H, 1, none⟩ = some (.int .i64 10000) := curX S.hH rfl
  have h2 : w.cell? ⟨H, 2, none⟩ = some (.slice (some ⟨g, 0, none⟩) 1 1) := curX S.hH rfl
  have g0 : w.cell? ⟨g, 0, none⟩ = some (.int .i64 16777215) := curX S.hg rfl
  have g1 : w.cell? ⟨g, 1, none⟩ = some (.int .i64 0) := curX S.hg rfl
  have g2 : w.cell? ⟨g, 2, none⟩ = some (.int .i64 0) := curX S.hg rfl
  have g3 : w.cell? ⟨g, 3, none⟩ = some (.int .i64 0) := curX S.hg rfl
  have g4 : w.cell? ⟨g, 4, none⟩ = some (.int .i64 0) := curX S.hg rfl
  have g5 : w.cell? ⟨g, 5, none⟩ = some (.int .i64 0) := curX S.hg rfl
  have g6 : w.cell? ⟨g, 6, none⟩ = some (.int .i64 0) := curX S.hg rfl
  have g7 : w.cell? ⟨g, 7, none⟩ = some (.int .i64 32) := curX S.hg rfl
  have g8 : w.cell? ⟨g, 8, none⟩ = some (.slice none 0 0) := curX S.hg rfl
  have g9 : w.cell? ⟨g, 9, none⟩ = some (.int .u8 2) := curX S.hg rfl
  have g10 : w.cell? ⟨g, 10, none⟩ = some (.int .i64 5) := curX S.hg rfl
  have g11 : w.cell? ⟨g, 11, none⟩ = some (.int .i64 8) := curX S.hg rfl
  have g12 : w.cell? ⟨g, 12, none⟩ = some (.int .i64 0) := curX S.hg rfl
  have l0 : w.cell? ⟨L, 0, none⟩ = some (.slice (some ⟨gl, 0, none⟩) 17 17) := curX S.hL rfl
  have fH : ∀ i, w.frozen? ⟨H, i, none⟩ = false := fun i => by simp [World.frozen?, S.hH]
  have fg : ∀ i, w.frozen? ⟨g, i, none⟩ = false := fun i => by simp [World.frozen?, S.hg]
  have o1 := S.o1
  have o2 := S.o2
  have o3 := S.o3
  have n1 : g ≠ H := by omega
  have n2 : H ≠ g := by omega
  have n3 : L ≠ g := by omega
  have zH := heap_lt S.hH
  have zg : g < w.heap.size := heap_lt S.hg
  have HS := Lib.hid S
  go_enter Tryz.func40, Tryz.ntmps40
  go_wp2_with fail
  go_end0
  have S := HS.out
  exact fin1 (c := ⟨16777215, ⟨8193, 0, 0⟩, ⟨0, 0, 0⟩, 32, [], 9, 5, 8, 0⟩) (LA := none) (lcap := 0) (cy := 120) (gr := 10000) (((set_far _ _ _ _ _ n2).trans ((set_far _ _ _ _ _ n2).trans S.hH))) (((setCell_heap _ _ _ _ _ _ _ (setCell_heap _ _ _ _ _ _ _ S.hg))).trans (by simp [crA, c0X])) (is_none _ _) (Below.setCell (Below.setCell (Below.refl g w) (p := ⟨g, 1, none⟩) (by first | exact Nat.le_refl _ | exact Nat.le_of_lt o3) _) (p := ⟨g, 9, none⟩) (by first | exact Nat.le_refl _ | exact Nat.le_of_lt o3) _)
theorem change11 (w : World) (H g L gl : Nat) (S : StX w H g L gl) : Calls Tryz.prog 41 #[.pointer (some ⟨H, 0, none⟩), .pointer (some ⟨g, 0, none⟩)] w (ClR H g ⟨120, 10000, [⟨16777215, ⟨0, 0, 0⟩, ⟨0, 0, 101⟩, 32, [], 2, 5, 8, 0⟩]⟩ w) := by
  have h0 : w.cell? ⟨H, 0, none⟩ = some (.int .i64 120) := curX S.hH rfl
  have h1 : w.cell? ⟨H, 1, none⟩ = some (.int .i64 10000) := curX S.hH rfl
  have h2 : w.cell? ⟨H, 2, none⟩ = some (.slice (some ⟨g, 0, none⟩) 1 1) := curX S.hH rfl
  have g0 : w.cell? ⟨g, 0, none⟩ = some (.int .i64 16777215) := curX S.hg rfl
  have g1 : w.cell? ⟨g, 1, none⟩ = some (.int .i64 0) := curX S.hg rfl
  have g2 : w.cell? ⟨g, 2, none⟩ = some (.int .i64 0) := curX S.hg rfl
  have g3 : w.cell? ⟨g, 3, none⟩ = some (.int .i64 0) := curX S.hg rfl
  have g4 : w.cell? ⟨g, 4, none⟩ = some (.int .i64 0) := curX S.hg rfl
  have g5 : w.cell? ⟨g, 5, none⟩ = some (.int .i64 0) := curX S.hg rfl
  have g6 : w.cell? ⟨g, 6, none⟩ = some (.int .i64 0) := curX S.hg rfl
  have g7 : w.cell? ⟨g, 7, none⟩ = some (.int .i64 32) := curX S.hg rfl
  have g8 : w.cell? ⟨g, 8, none⟩ = some (.slice none 0 0) := curX S.hg rfl
  have g9 : w.cell? ⟨g, 9, none⟩ = some (.int .u8 2) := curX S.hg rfl
  have g10 : w.cell? ⟨g, 10, none⟩ = some (.int .i64 5) := curX S.hg rfl
  have g11 : w.cell? ⟨g, 11, none⟩ = some (.int .i64 8) := curX S.hg rfl
  have g12 : w.cell? ⟨g, 12, none⟩ = some (.int .i64 0) := curX S.hg rfl
  have l0 : w.cell? ⟨L, 0, none⟩ = some (.slice (some ⟨gl, 0, none⟩) 17 17) := curX S.hL rfl
  have fH : ∀ i, w.frozen? ⟨H, i, none⟩ = false := fun i => by simp [World.frozen?, S.hH]
  have fg : ∀ i, w.frozen? ⟨g, i, none⟩ = false := fun i => by simp [World.frozen?, S.hg]
  have o1 := S.o1
  have o2 := S.o2
  have o3 := S.o3
  have n1 : g ≠ H := by omega
  have n2 : H ≠ g := by omega
  have n3 : L ≠ g := by omega
  have zH := heap_lt S.hH
  have zg : g < w.heap.size := heap_lt S.hg
  have HS := Lib.hid S
  go_enter Tryz.func41, Tryz.ntmps41
  go_wp2_with fail
  go_end0
  have S := HS.out
  exact fin1 (c := ⟨16777215, ⟨0, 0, 0⟩, ⟨0, 0, 101⟩, 32, [], 2, 5, 8, 0⟩) (LA := none) (lcap := 0) (cy := 120) (gr := 10000) (((set_far _ _ _ _ _ n2).trans S.hH)) (((setCell_heap _ _ _ _ _ _ _ S.hg)).trans (by simp [crA, c0X])) (is_none _ _) (Below.setCell (Below.refl g w) (p := ⟨g, 6, none⟩) (by first | exact Nat.le_refl _ | exact Nat.le_of_lt o3) _)
theorem change12 (w : World) (H g L gl : Nat) (S : StX w H g L gl) : Calls Tryz.prog 42 #[.pointer (some ⟨H, 0, none⟩), .pointer (some ⟨g, 0, none⟩)] w (ClR H g ⟨120, 10000, [⟨16777215, ⟨8073, 0, 0⟩, ⟨1, 0, 0⟩, 0, [], 2, 5, 8, 0⟩]⟩ w) := by
  have h0 : w.cell? ⟨H, 0, none⟩ = some (.int .i64 120) := curX S.hH rfl
  have h1 : w.cell? ⟨H, 1, none⟩ = some (.int .i64 10000) := curX S.hH rfl
  have h2 : w.cell? ⟨H, 2, none⟩ = some (.slice (some ⟨g, 0, none⟩) 1 1) := curX S.hH rfl
  have g0 : w.cell? ⟨g, 0, none⟩ = some (.int .i64 16777215) := curX S.hg rfl
  have g1 : w.cell? ⟨g, 1, none⟩ = some (.int .i64 0) := curX S.hg rfl
  have g2 : w.cell? ⟨g, 2, none⟩ = some (.int .i64 0) := curX S.hg rfl
  have g3 : w.cell? ⟨g, 3, none⟩ = some (.int .i64 0) := curX S.hg rfl
  have g4 : w.cell? ⟨g, 4, none⟩ = some (.int .i64 0) := curX S.hg rfl
  have g5 : w.cell? ⟨g, 5, none⟩ = some (.int .i64 0) := curX S.hg rfl
  have g6 : w.cell? ⟨g, 6, none⟩ = some (.int .i64 0) := curX S.hg rfl
  have g7 : w.cell? ⟨g, 7, none⟩ = some (.int .i64 32) := curX S.hg rfl
  have g8 : w.cell? ⟨g, 8, none⟩ = some (.slice none 0 0) := curX S.hg rfl
  have g9 : w.cell? ⟨g, 9, none⟩ = some (.int .u8 2) := curX S.hg rfl
  have g10 : w.cell? ⟨g, 10, none⟩ = some (.int .i64 5) := curX S.hg rfl
  have g11 : w.cell? ⟨g, 11, none⟩ = some (.int .i64 8) := curX S.hg rfl
  have g12 : w.cell? ⟨g, 12, none⟩ = some (.int .i64 0) := curX S.hg rfl
  have l0 : w.cell? ⟨L, 0, none⟩ = some (.slice (some ⟨gl, 0, none⟩) 17 17) := curX S.hL rfl
  have fH : ∀ i, w.frozen? ⟨H, i, none⟩ = false := fun i => by simp [World.frozen?, S.hH]
  have fg : ∀ i, w.frozen? ⟨g, i, none⟩ = false := fun i => by simp [World.frozen?, S.hg]
  have o1 := S.o1
  have o2 := S.o2
  have o3 := S.o3
  have n1 : g ≠ H := by omega
  have n2 : H ≠ g := by omega
  have n3 : L ≠ g := by omega
  have zH := heap_lt S.hH
  have zg : g < w.heap.size := heap_lt S.hg
  have HS := Lib.hid S
  go_enter Tryz.func42, Tryz.ntmps42
  go_wp2_with fail
  go_end0
  have S := HS.out
  exact fin1 (c := ⟨16777215, ⟨8073, 0, 0⟩, ⟨1, 0, 0⟩, 0, [], 2, 5, 8, 0⟩) (LA := none) (lcap := 0) (cy := 120) (gr := 10000) (((set_far _ _ _ _ _ n2).trans ((set_far _ _ _ _ _ n2).trans ((set_far _ _ _ _ _ n2).trans S.hH)))) (((setCell_heap _ _ _ _ _ _ _ (setCell_heap _ _ _ _ _ _ _ (setCell_heap _ _ _ _ _ _ _ S.hg)))).trans (by simp [crA, c0X])) (is_none _ _) (Below.setCell (Below.setCell (Below.setCell (Below.refl g w) (p := ⟨g, 1, none⟩) (by first | exact Nat.le_refl _ | exact Nat.le_of_lt o3) _) (p := ⟨g, 4, none⟩) (by first | exact Nat.le_refl _ | exact Nat.le_of_lt o3) _) (p := ⟨g, 7, none⟩) (by first | exact Nat.le_refl _ | exact Nat.le_of_lt o3) _)
theorem change13 (w : World) (H g L gl : Nat) (S : StX w H g L gl) : Calls Tryz.prog 43 #[.pointer (some ⟨H, 0, none⟩), .pointer (some ⟨g, 0, none⟩)] w (ClR H g ⟨120, 10000, [⟨16777215, ⟨0, -8072, 0⟩, ⟨0, -1, 0⟩, 32, [], 2, 5, 8, 0⟩]⟩ w) := by
  have h0 : w.cell? ⟨H, 0, none⟩ = some (.int .i64 120) := curX S.hH rfl
  have h1 : w.cell? ⟨H, 1, none⟩ = some (.int .i64 10000) := curX S.hH rfl
  have h2 : w.cell? ⟨H, 2, none⟩ = some (.slice (some ⟨g, 0, none⟩) 1 1) := curX S.hH rfl
  have g0 : w.cell? ⟨g, 0, none⟩ = some (.int .i64 16777215) := curX S.hg rfl
  have g1 : w.cell? ⟨g, 1, none⟩ = some (.int .i64 0) := curX S.hg rfl
  have g2 : w.cell? ⟨g, 2, none⟩ = some (.int .i64 0) := curX S.hg rfl
  have g3 : w.cell? ⟨g, 3, none⟩ = some (.int .i64 0) := curX S.hg rfl
  have g4 : w.cell? ⟨g, 4, none⟩ = some (.int .i64 0) := curX S.hg rfl
  have g5 : w.cell? ⟨g, 5, none⟩ = some (.int .i64 0) := curX S.hg rfl
  have g6 : w.cell? ⟨g, 6, none⟩ = some (.int .i64 0) := curX S.hg rfl
  have g7 : w.cell? ⟨g, 7, none⟩ = some (.int .i64 32) := curX S.hg rfl
  have g8 : w.cell? ⟨g, 8, none⟩ = some (.slice none 0 0) := curX S.hg rfl
  have g9 : w.cell? ⟨g, 9, none⟩ = some (.int .u8 2) := curX S.hg rfl
  have g10 : w.cell? ⟨g, 10, none⟩ = some (.int .i64 5) := curX S.hg rfl
  have g11 : w.cell? ⟨g, 11, none⟩ = some (.int .i64 8) := curX S.hg rfl
  have g12 : w.cell? ⟨g, 12, none⟩ = some (.int .i64 0) := curX S.hg rfl
  have l0 : w.cell? ⟨L, 0, none⟩ = some (.slice (some ⟨gl, 0, none⟩) 17 17) := curX S.hL rfl
  have fH : ∀ i, w.frozen? ⟨H, i, none⟩ = false := fun i => by simp [World.frozen?, S.hH]
  have fg : ∀ i, w.frozen? ⟨g, i, none⟩ = false := fun i => by simp [World.frozen?, S.hg]
  have o1 := S.o1
  have o2 := S.o2
  have o3 := S.o3
  have n1 : g ≠ H := by omega
  have n2 : H ≠ g := by omega
  have n3 : L ≠ g := by omega
  have zH := heap_lt S.hH
  have zg : g < w.heap.size := heap_lt S.hg
  have HS := Lib.hid S
  go_enter Tryz.func43, Tryz.ntmps43
  go_wp2_with fail
  go_end0
  have S := HS.out
  exact fin1 (c := ⟨16777215, ⟨0, -8072, 0⟩, ⟨0, -1, 0⟩, 32, [], 2, 5, 8, 0⟩) (LA := none) (lcap := 0) (cy := 120) (gr := 10000) (((set_far _ _ _ _ _ n2).trans ((set_far _ _ _ _ _ n2).trans S.hH))) (((setCell_heap _ _ _ _ _ _ _ (setCell_heap _ _ _ _ _ _ _ S.hg))).trans (by simp [crA, c0X])) (is_none _ _) (Below.setCell (Below.setCell (Below.refl g w) (p := ⟨g, 2, none⟩) (by first | exact Nat.le_refl _ | exact Nat.le_of_lt o3) _) (p := ⟨g, 5, none⟩) (by first | exact Nat.le_refl _ | exact Nat.le_of_lt o3) _)
theorem change14 (w : World) (H g L gl : Nat) (S : StX w H g L gl) : Calls Tryz.prog 44 #[.pointer (some ⟨H, 0, none⟩), .pointer (some ⟨g, 0, none⟩)] w (ClR H g ⟨120, 10000, [⟨16777215, ⟨0, 0, 0⟩, ⟨0, 0, 0⟩, 33, [], 3, 5, 8, 0⟩]⟩ w) := by
  have h0 : w.cell? ⟨H, 0, none⟩ = some (.int .i64 120) := curX S.hH rfl
  have h1 : w.cell? ⟨H, 1, none⟩ = some (.int .i64 10000) := curX S.hH rfl
  have h2 : w.cell? ⟨H, 2, none⟩ = some (.slice (some ⟨g, 0, none⟩) 1 1) := curX S.hH rfl
  have g0 : w.cell? ⟨g, 0, none⟩ = some (.int .i64 16777215) := curX S.hg rfl
  have g1 : w.cell? ⟨g, 1, none⟩ = some (.int .i64 0) := curX S.hg rfl
  have g2 : w.cell? ⟨g, 2, none⟩ = some (.int .i64 0) := curX S.hg rfl
  have g3 : w.cell? ⟨g, 3, none⟩ = some (.int .i64 0) := curX S.hg rfl
  have g4 : w.cell? ⟨g, 4, none⟩ = some (.int .i64 0) := curX S.hg rfl
  have g5 : w.cell? ⟨g, 5, none⟩ = some (.int .i64 0) := curX S.hg rfl
  have g6 : w.cell? ⟨g, 6, none⟩ = some (.int .i64 0) := curX S.hg rfl
  have g7 : w.cell? ⟨g, 7, none⟩ = some (.int .i64 32) := curX S.hg rfl
  have g8 : w.cell? ⟨g, 8, none⟩ = some (.slice none 0 0) := curX S.hg rfl
  have g9 : w.cell? ⟨g, 9, none⟩ = some (.int .u8 2) := curX S.hg rfl
  have g10 : w.cell? ⟨g, 10, none⟩ = some (.int .i64 5) := curX S.hg rfl
  have g11 : w.cell? ⟨g, 11, none⟩ = some (.int .i64 8) := curX S.hg rfl
  have g12 : w.cell? ⟨g, 12, none⟩ = some (.int .i64 0) := curX S.hg rfl
  have l0 : w.cell? ⟨L, 0, none⟩ = some (.slice (some ⟨gl, 0, none⟩) 17 17) := curX S.hL rfl
  have fH : ∀ i, w.frozen? ⟨H, i, none⟩ = false := fun i => by simp [World.frozen?, S.hH]
  have fg : ∀ i, w.frozen? ⟨g, i, none⟩ = false := fun i => by simp [World.frozen?, S.hg]
  have o1 := S.o1
  have o2 := S.o2
  have o3 := S.o3
  have n1 : g ≠ H := by omega
  have n2 : H ≠ g := by omega
  have n3 : L ≠ g := by omega
  have zH := heap_lt S.hH
  have zg : g < w.heap.size := heap_lt S.hg
  have HS := Lib.hid S
  go_enter Tryz.func44, Tryz.ntmps44
  go_wp2_with fail
  go_end0
  have S := HS.out
  exact fin1 (c := ⟨16777215, ⟨0, 0, 0⟩, ⟨0, 0, 0⟩, 33, [], 3, 5, 8, 0⟩) (LA := none) (lcap := 0) (cy := 120) (gr := 10000) (((set_far _ _ _ _ _ n2).trans ((set_far _ _ _ _ _ n2).trans S.hH))) (((setCell_heap _ _ _ _ _ _ _ (setCell_heap _ _ _ _ _ _ _ S.hg))).trans (by simp [crA, c0X])) (is_none _ _) (Below.setCell (Below.setCell (Below.refl g w) (p := ⟨g, 7, none⟩) (by first | exact Nat.le_refl _ | exact Nat.le_of_lt o3) _) (p := ⟨g, 9, none⟩) (by first | exact Nat.le_refl _ | exact Nat.le_of_lt o3) _)
theorem change15 (w : World) (H g L gl : Nat) (S : StX w H g L gl) : Calls Tryz.prog 45 #[.pointer (some ⟨H, 0, none⟩), .pointer (some ⟨g, 0, none⟩), .pointer (some ⟨L, 0, none⟩)] w (ClR H g ⟨120, 10000, [⟨16777215, ⟨0, 0, 0⟩, ⟨0, 0, 0⟩, 32, legs17.take 17, 3, 5, 8, 0⟩]⟩ w) := by
  have h0 : w.cell? ⟨H, 0, none⟩ = some (.int .i64 120) := curX S.hH rfl
  have h1 : w.cell? ⟨H, 1, none⟩ = some (.int .i64 10000) := curX S.hH rfl
  have h2 : w.cell? ⟨H, 2, none⟩ = some (.slice (some ⟨g, 0, none⟩) 1 1) := curX S.hH rfl
  have g0 : w.cell? ⟨g, 0, none⟩ = some (.int .i64 16777215) := curX S.hg rfl
  have g1 : w.cell? ⟨g, 1, none⟩ = some (.int .i64 0) := curX S.hg rfl
  have g2 : w.cell? ⟨g, 2, none⟩ = some (.int .i64 0) := curX S.hg rfl
  have g3 : w.cell? ⟨g, 3, none⟩ = some (.int .i64 0) := curX S.hg rfl
  have g4 : w.cell? ⟨g, 4, none⟩ = some (.int .i64 0) := curX S.hg rfl
  have g5 : w.cell? ⟨g, 5, none⟩ = some (.int .i64 0) := curX S.hg rfl
  have g6 : w.cell? ⟨g, 6, none⟩ = some (.int .i64 0) := curX S.hg rfl
  have g7 : w.cell? ⟨g, 7, none⟩ = some (.int .i64 32) := curX S.hg rfl
  have g8 : w.cell? ⟨g, 8, none⟩ = some (.slice none 0 0) := curX S.hg rfl
  have g9 : w.cell? ⟨g, 9, none⟩ = some (.int .u8 2) := curX S.hg rfl
  have g10 : w.cell? ⟨g, 10, none⟩ = some (.int .i64 5) := curX S.hg rfl
  have g11 : w.cell? ⟨g, 11, none⟩ = some (.int .i64 8) := curX S.hg rfl
  have g12 : w.cell? ⟨g, 12, none⟩ = some (.int .i64 0) := curX S.hg rfl
  have l0 : w.cell? ⟨L, 0, none⟩ = some (.slice (some ⟨gl, 0, none⟩) 17 17) := curX S.hL rfl
  have fH : ∀ i, w.frozen? ⟨H, i, none⟩ = false := fun i => by simp [World.frozen?, S.hH]
  have fg : ∀ i, w.frozen? ⟨g, i, none⟩ = false := fun i => by simp [World.frozen?, S.hg]
  have o1 := S.o1
  have o2 := S.o2
  have o3 := S.o3
  have n1 : g ≠ H := by omega
  have n2 : H ≠ g := by omega
  have n3 : L ≠ g := by omega
  have zH := heap_lt S.hH
  have zg : g < w.heap.size := heap_lt S.hg
  have HS := Lib.hid S
  go_enter Tryz.func45, Tryz.ntmps45
  go_wp2_with fail
  go_end0
  have S := HS.out
  exact fin1 (c := ⟨16777215, ⟨0, 0, 0⟩, ⟨0, 0, 0⟩, 32, legs17.take 17, 3, 5, 8, 0⟩) (LA := (some ⟨gl, 0, none⟩)) (lcap := 17) (cy := 120) (gr := 10000) (((set_far _ _ _ _ _ n2).trans ((set_far _ _ _ _ _ n2).trans S.hH))) (((setCell_heap _ _ _ _ _ _ _ (setCell_heap _ _ _ _ _ _ _ S.hg))).trans (by simp [crA, c0X, lenL])) (legs_is S ((Below.setCell (Below.setCell (Below.refl g w) (p := ⟨g, 9, none⟩) (by first | exact Nat.le_refl _ | exact Nat.le_of_lt o3) _) (p := ⟨g, 8, none⟩) (by first | exact Nat.le_refl _ | exact Nat.le_of_lt o3) _)) (by decide)) (Below.setCell (Below.setCell (Below.refl g w) (p := ⟨g, 9, none⟩) (by first | exact Nat.le_refl _ | exact Nat.le_of_lt o3) _) (p := ⟨g, 8, none⟩) (by first | exact Nat.le_refl _ | exact Nat.le_of_lt o3) _)
theorem change16 (w : World) (H g L gl : Nat) (S : StX w H g L gl) : Calls Tryz.prog 46 #[.pointer (some ⟨H, 0, none⟩), .pointer (some ⟨g, 0, none⟩), .pointer (some ⟨L, 0, none⟩)] w (ClR H g ⟨120, 10000, [⟨16777215, ⟨0, 0, 0⟩, ⟨0, 0, 0⟩, 32, legs17.take 17, 2, 5, 8, 0⟩]⟩ w) := by
  have h0 : w.cell? ⟨H, 0, none⟩ = some (.int .i64 120) := curX S.hH rfl
  have h1 : w.cell? ⟨H, 1, none⟩ = some (.int .i64 10000) := curX S.hH rfl
  have h2 : w.cell? ⟨H, 2, none⟩ = some (.slice (some ⟨g, 0, none⟩) 1 1) := curX S.hH rfl
  have g0 : w.cell? ⟨g, 0, none⟩ = some (.int .i64 16777215) := curX S.hg rfl
  have g1 : w.cell? ⟨g, 1, none⟩ = some (.int .i64 0) := curX S.hg rfl
  have g2 : w.cell? ⟨g, 2, none⟩ = some (.int .i64 0) := curX S.hg rfl
  have g3 : w.cell? ⟨g, 3, none⟩ = some (.int .i64 0) := curX S.hg rfl
  have g4 : w.cell? ⟨g, 4, none⟩ = some (.int .i64 0) := curX S.hg rfl
  have g5 : w.cell? ⟨g, 5, none⟩ = some (.int .i64 0) := curX S.hg rfl
  have g6 : w.cell? ⟨g, 6, none⟩ = some (.int .i64 0) := curX S.hg rfl
  have g7 : w.cell? ⟨g, 7, none⟩ = some (.int .i64 32) := curX S.hg rfl
  have g8 : w.cell? ⟨g, 8, none⟩ = some (.slice none 0 0) := curX S.hg rfl
  have g9 : w.cell? ⟨g, 9, none⟩ = some (.int .u8 2) := curX S.hg rfl
  have g10 : w.cell? ⟨g, 10, none⟩ = some (.int .i64 5) := curX S.hg rfl
  have g11 : w.cell? ⟨g, 11, none⟩ = some (.int .i64 8) := curX S.hg rfl
  have g12 : w.cell? ⟨g, 12, none⟩ = some (.int .i64 0) := curX S.hg rfl
  have l0 : w.cell? ⟨L, 0, none⟩ = some (.slice (some ⟨gl, 0, none⟩) 17 17) := curX S.hL rfl
  have fH : ∀ i, w.frozen? ⟨H, i, none⟩ = false := fun i => by simp [World.frozen?, S.hH]
  have fg : ∀ i, w.frozen? ⟨g, i, none⟩ = false := fun i => by simp [World.frozen?, S.hg]
  have o1 := S.o1
  have o2 := S.o2
  have o3 := S.o3
  have n1 : g ≠ H := by omega
  have n2 : H ≠ g := by omega
  have n3 : L ≠ g := by omega
  have zH := heap_lt S.hH
  have zg : g < w.heap.size := heap_lt S.hg
  have HS := Lib.hid S
  go_enter Tryz.func46, Tryz.ntmps46
  go_wp2_with fail
  go_end0
  have S := HS.out
  exact fin1 (c := ⟨16777215, ⟨0, 0, 0⟩, ⟨0, 0, 0⟩, 32, legs17.take 17, 2, 5, 8, 0⟩) (LA := (some ⟨gl, 0, none⟩)) (lcap := 17) (cy := 120) (gr := 10000) (((set_far _ _ _ _ _ n2).trans S.hH)) (((setCell_heap _ _ _ _ _ _ _ S.hg)).trans (by simp [crA, c0X, lenL])) (legs_is S ((Below.setCell (Below.refl g w) (p := ⟨g, 8, none⟩) (by first | exact Nat.le_refl _ | exact Nat.le_of_lt o3) _)) (by decide)) (Below.setCell (Below.refl g w) (p := ⟨g, 8, none⟩) (by first | exact Nat.le_refl _ | exact Nat.le_of_lt o3) _)
theorem change17 (w : World) (H g L gl : Nat) (S : StX w H g L gl) : Calls Tryz.prog 47 #[.pointer (some ⟨H, 0, none⟩), .pointer (some ⟨g, 0, none⟩), .pointer (some ⟨L, 0, none⟩)] w (ClR H g ⟨120, 10000, [⟨16777215, ⟨0, 0, 0⟩, ⟨0, 0, 0⟩, 32, legs17.take 16, 2, 5, 8, 0⟩]⟩ w) := by
  have h0 : w.cell? ⟨H, 0, none⟩ = some (.int .i64 120) := curX S.hH rfl
  have h1 : w.cell? ⟨H, 1, none⟩ = some (.int .i64 10000) := curX S.hH rfl
  have h2 : w.cell? ⟨H, 2, none⟩ = some (.slice (some ⟨g, 0, none⟩) 1 1) := curX S.hH rfl
  have g0 : w.cell? ⟨g, 0, none⟩ = some (.int .i64 16777215) := curX S.hg rfl
  have g1 : w.cell? ⟨g, 1, none⟩ = some (.int .i64 0) := curX S.hg rfl
  have g2 : w.cell? ⟨g, 2, none⟩ = some (.int .i64 0) := curX S.hg rfl
  have g3 : w.cell? ⟨g, 3, none⟩ = some (.int .i64 0) := curX S.hg rfl
  have g4 : w.cell? ⟨g, 4, none⟩ = some (.int .i64 0) := curX S.hg rfl
  have g5 : w.cell? ⟨g, 5, none⟩ = some (.int .i64 0) := curX S.hg rfl
  have g6 : w.cell? ⟨g, 6, none⟩ = some (.int .i64 0) := curX S.hg rfl
  have g7 : w.cell? ⟨g, 7, none⟩ = some (.int .i64 32) := curX S.hg rfl
  have g8 : w.cell? ⟨g, 8, none⟩ = some (.slice none 0 0) := curX S.hg rfl
  have g9 : w.cell? ⟨g, 9, none⟩ = some (.int .u8 2) := curX S.hg rfl
  have g10 : w.cell? ⟨g, 10, none⟩ = some (.int .i64 5) := curX S.hg rfl
  have g11 : w.cell? ⟨g, 11, none⟩ = some (.int .i64 8) := curX S.hg rfl
  have g12 : w.cell? ⟨g, 12, none⟩ = some (.int .i64 0) := curX S.hg rfl
  have l0 : w.cell? ⟨L, 0, none⟩ = some (.slice (some ⟨gl, 0, none⟩) 17 17) := curX S.hL rfl
  have fH : ∀ i, w.frozen? ⟨H, i, none⟩ = false := fun i => by simp [World.frozen?, S.hH]
  have fg : ∀ i, w.frozen? ⟨g, i, none⟩ = false := fun i => by simp [World.frozen?, S.hg]
  have o1 := S.o1
  have o2 := S.o2
  have o3 := S.o3
  have n1 : g ≠ H := by omega
  have n2 : H ≠ g := by omega
  have n3 : L ≠ g := by omega
  have zH := heap_lt S.hH
  have zg : g < w.heap.size := heap_lt S.hg
  have HS := Lib.hid S
  go_enter Tryz.func47, Tryz.ntmps47
  go_wp2_with fail
  go_end0
  have S := HS.out
  exact fin1 (c := ⟨16777215, ⟨0, 0, 0⟩, ⟨0, 0, 0⟩, 32, legs17.take 16, 2, 5, 8, 0⟩) (LA := (some ⟨gl, 0, none⟩)) (lcap := 17) (cy := 120) (gr := 10000) (((set_far _ _ _ _ _ n2).trans S.hH)) (((setCell_heap _ _ _ _ _ _ _ S.hg)).trans (by simp [crA, c0X, lenL])) (legs_is S ((Below.setCell (Below.refl g w) (p := ⟨g, 8, none⟩) (by first | exact Nat.le_refl _ | exact Nat.le_of_lt o3) _)) (by decide)) (Below.setCell (Below.refl g w) (p := ⟨g, 8, none⟩) (by first | exact Nat.le_refl _ | exact Nat.le_of_lt o3) _)
theorem Is.of_blk {W : World} {H : Nat} {xs : List Int} {T : TypeId} {f : Nat × Nat} (h : W.heap[H]? = some (.cells ((xs.map (Value.int .i64)).toArray) T f)) : Is .i64 W W.heap.size (some ⟨H, 0, none⟩) xs := fun _ =>
  ⟨H, 0, rfl, heap_lt h, fun j hj => by
    rw [Nat.zero_add]
    simp [World.cell?, h, nth, List.getD_eq_getElem?_getD, hj]⟩
theorem change18 (w : World) (H g L gl : Nat) (S : StX w H g L gl) : Calls Tryz.prog 48 #[.pointer (some ⟨H, 0, none⟩), .pointer (some ⟨g, 0, none⟩)] w (ClR H g ⟨120, 10000, [⟨16777215, ⟨0, 0, 0⟩, ⟨0, 0, 0⟩, 32, [(120, 101)], 2, 5, 8, 0⟩]⟩ w) := by
  have h0 : w.cell? ⟨H, 0, none⟩ = some (.int .i64 120) := curX S.hH rfl
  have h1 : w.cell? ⟨H, 1, none⟩ = some (.int .i64 10000) := curX S.hH rfl
  have h2 : w.cell? ⟨H, 2, none⟩ = some (.slice (some ⟨g, 0, none⟩) 1 1) := curX S.hH rfl
  have g0 : w.cell? ⟨g, 0, none⟩ = some (.int .i64 16777215) := curX S.hg rfl
  have g1 : w.cell? ⟨g, 1, none⟩ = some (.int .i64 0) := curX S.hg rfl
  have g2 : w.cell? ⟨g, 2, none⟩ = some (.int .i64 0) := curX S.hg rfl
  have g3 : w.cell? ⟨g, 3, none⟩ = some (.int .i64 0) := curX S.hg rfl
  have g4 : w.cell? ⟨g, 4, none⟩ = some (.int .i64 0) := curX S.hg rfl
  have g5 : w.cell? ⟨g, 5, none⟩ = some (.int .i64 0) := curX S.hg rfl
  have g6 : w.cell? ⟨g, 6, none⟩ = some (.int .i64 0) := curX S.hg rfl
  have g7 : w.cell? ⟨g, 7, none⟩ = some (.int .i64 32) := curX S.hg rfl
  have g8 : w.cell? ⟨g, 8, none⟩ = some (.slice none 0 0) := curX S.hg rfl
  have g9 : w.cell? ⟨g, 9, none⟩ = some (.int .u8 2) := curX S.hg rfl
  have g10 : w.cell? ⟨g, 10, none⟩ = some (.int .i64 5) := curX S.hg rfl
  have g11 : w.cell? ⟨g, 11, none⟩ = some (.int .i64 8) := curX S.hg rfl
  have g12 : w.cell? ⟨g, 12, none⟩ = some (.int .i64 0) := curX S.hg rfl
  have l0 : w.cell? ⟨L, 0, none⟩ = some (.slice (some ⟨gl, 0, none⟩) 17 17) := curX S.hL rfl
  have fH : ∀ i, w.frozen? ⟨H, i, none⟩ = false := fun i => by simp [World.frozen?, S.hH]
  have fg : ∀ i, w.frozen? ⟨g, i, none⟩ = false := fun i => by simp [World.frozen?, S.hg]
  have o1 := S.o1
  have o2 := S.o2
  have o3 := S.o3
  have n1 : g ≠ H := by omega
  have n2 : H ≠ g := by omega
  have n3 : L ≠ g := by omega
  have zH := heap_lt S.hH
  have zg : g < w.heap.size := heap_lt S.hg
  have HS := Lib.hid S
  go_enter Tryz.func48, Tryz.ntmps48
  go_wp2_with fail
  go_end0
  have S := HS.out
  exact fin1 (c := ⟨16777215, ⟨0, 0, 0⟩, ⟨0, 0, 0⟩, 32, [(120, 101)], 2, 5, 8, 0⟩) (LA := (some ⟨w.heap.size, 0, none⟩)) (lcap := 1) (cy := 120) (gr := 10000) (((Below.heap_alloc (w.setCell ⟨g, 8, none⟩ (.slice (some ⟨w.heap.size, 0, none⟩) 1 1)) (.cells #[.int .i64 (120), .int .i64 (101)] 54) _ (by simpa [World.setCell] using zH)).trans ((set_far _ _ _ _ _ n2).trans S.hH))) ((((Below.heap_alloc (w.setCell ⟨g, 8, none⟩ (.slice (some ⟨w.heap.size, 0, none⟩) 1 1)) (.cells #[.int .i64 (120), .int .i64 (101)] 54) _ (by simpa [World.setCell] using zg)).trans (setCell_heap _ _ _ _ _ _ _ S.hg))).trans (by simp [crA, c0X])) (Is.of_blk (xs := [120, 101]) (heap_alloc_at _ _ _ (by simp [World.setCell]))) ((Below.setCell (Below.refl g w) (p := ⟨g, 8, none⟩) (Nat.le_refl _) _).alloc (by simp [World.setCell]; omega) (.cells #[.int .i64 (120), .int .i64 (101)] 54))
theorem change19 (w : World) (H g L gl : Nat) (S : StX w H g L gl) : Calls Tryz.prog 49 #[.pointer (some ⟨H, 0, none⟩), .pointer (some ⟨g, 0, none⟩)] w (ClR H g ⟨120, 10000, [⟨16777215, ⟨0, 0, 0⟩, ⟨0, 0, 0⟩, 32, [(5, 0), (5, 0)], 2, 5, 8, 0⟩]⟩ w) := by
  have h0 : w.cell? ⟨H, 0, none⟩ = some (.int .i64 120) := curX S.hH rfl
  have h1 : w.cell? ⟨H, 1, none⟩ = some (.int .i64 10000) := curX S.hH rfl
  have h2 : w.cell? ⟨H, 2, none⟩ = some (.slice (some ⟨g, 0, none⟩) 1 1) := curX S.hH rfl
  have g0 : w.cell? ⟨g, 0, none⟩ = some (.int .i64 16777215) := curX S.hg rfl
  have g1 : w.cell? ⟨g, 1, none⟩ = some (.int .i64 0) := curX S.hg rfl
  have g2 : w.cell? ⟨g, 2, none⟩ = some (.int .i64 0) := curX S.hg rfl
  have g3 : w.cell? ⟨g, 3, none⟩ = some (.int .i64 0) := curX S.hg rfl
  have g4 : w.cell? ⟨g, 4, none⟩ = some (.int .i64 0) := curX S.hg rfl
  have g5 : w.cell? ⟨g, 5, none⟩ = some (.int .i64 0) := curX S.hg rfl
  have g6 : w.cell? ⟨g, 6, none⟩ = some (.int .i64 0) := curX S.hg rfl
  have g7 : w.cell? ⟨g, 7, none⟩ = some (.int .i64 32) := curX S.hg rfl
  have g8 : w.cell? ⟨g, 8, none⟩ = some (.slice none 0 0) := curX S.hg rfl
  have g9 : w.cell? ⟨g, 9, none⟩ = some (.int .u8 2) := curX S.hg rfl
  have g10 : w.cell? ⟨g, 10, none⟩ = some (.int .i64 5) := curX S.hg rfl
  have g11 : w.cell? ⟨g, 11, none⟩ = some (.int .i64 8) := curX S.hg rfl
  have g12 : w.cell? ⟨g, 12, none⟩ = some (.int .i64 0) := curX S.hg rfl
  have l0 : w.cell? ⟨L, 0, none⟩ = some (.slice (some ⟨gl, 0, none⟩) 17 17) := curX S.hL rfl
  have fH : ∀ i, w.frozen? ⟨H, i, none⟩ = false := fun i => by simp [World.frozen?, S.hH]
  have fg : ∀ i, w.frozen? ⟨g, i, none⟩ = false := fun i => by simp [World.frozen?, S.hg]
  have o1 := S.o1
  have o2 := S.o2
  have o3 := S.o3
  have n1 : g ≠ H := by omega
  have n2 : H ≠ g := by omega
  have n3 : L ≠ g := by omega
  have zH := heap_lt S.hH
  have zg : g < w.heap.size := heap_lt S.hg
  have HS := Lib.hid S
  go_enter Tryz.func49, Tryz.ntmps49
  go_wp2_with fail
  go_end0
  have S := HS.out
  exact fin1 (c := ⟨16777215, ⟨0, 0, 0⟩, ⟨0, 0, 0⟩, 32, [(5, 0), (5, 0)], 2, 5, 8, 0⟩) (LA := (some ⟨w.heap.size, 0, none⟩)) (lcap := 2) (cy := 120) (gr := 10000) (((Below.heap_alloc (w.setCell ⟨g, 8, none⟩ (.slice (some ⟨w.heap.size, 0, none⟩) 2 2)) (.cells #[.int .i64 (5), .int .i64 (0), .int .i64 (5), .int .i64 (0)] 54) _ (by simpa [World.setCell] using zH)).trans ((set_far _ _ _ _ _ n2).trans S.hH))) ((((Below.heap_alloc (w.setCell ⟨g, 8, none⟩ (.slice (some ⟨w.heap.size, 0, none⟩) 2 2)) (.cells #[.int .i64 (5), .int .i64 (0), .int .i64 (5), .int .i64 (0)] 54) _ (by simpa [World.setCell] using zg)).trans (setCell_heap _ _ _ _ _ _ _ S.hg))).trans (by simp [crA, c0X])) (Is.of_blk (xs := [5, 0, 5, 0]) (heap_alloc_at _ _ _ (by simp [World.setCell]))) ((Below.setCell (Below.refl g w) (p := ⟨g, 8, none⟩) (Nat.le_refl _) _).alloc (by simp [World.setCell]; omega) (.cells #[.int .i64 (5), .int .i64 (0), .int .i64 (5), .int .i64 (0)] 54))
theorem change20 (w : World) (H g L gl : Nat) (S : StX w H g L gl) : Calls Tryz.prog 50 #[.pointer (some ⟨H, 0, none⟩), .pointer (some ⟨g, 0, none⟩)] w (ClR H g ⟨120, 10000, [⟨16777215, ⟨0, 0, 0⟩, ⟨0, 0, 0⟩, 32, [(119, -101)], 2, 5, 8, 0⟩]⟩ w) := by
  have h0 : w.cell? ⟨H, 0, none⟩ = some (.int .i64 120) := curX S.hH rfl
  have h1 : w.cell? ⟨H, 1, none⟩ = some (.int .i64 10000) := curX S.hH rfl
  have h2 : w.cell? ⟨H, 2, none⟩ = some (.slice (some ⟨g, 0, none⟩) 1 1) := curX S.hH rfl
  have g0 : w.cell? ⟨g, 0, none⟩ = some (.int .i64 16777215) := curX S.hg rfl
  have g1 : w.cell? ⟨g, 1, none⟩ = some (.int .i64 0) := curX S.hg rfl
  have g2 : w.cell? ⟨g, 2, none⟩ = some (.int .i64 0) := curX S.hg rfl
  have g3 : w.cell? ⟨g, 3, none⟩ = some (.int .i64 0) := curX S.hg rfl
  have g4 : w.cell? ⟨g, 4, none⟩ = some (.int .i64 0) := curX S.hg rfl
  have g5 : w.cell? ⟨g, 5, none⟩ = some (.int .i64 0) := curX S.hg rfl
  have g6 : w.cell? ⟨g, 6, none⟩ = some (.int .i64 0) := curX S.hg rfl
  have g7 : w.cell? ⟨g, 7, none⟩ = some (.int .i64 32) := curX S.hg rfl
  have g8 : w.cell? ⟨g, 8, none⟩ = some (.slice none 0 0) := curX S.hg rfl
  have g9 : w.cell? ⟨g, 9, none⟩ = some (.int .u8 2) := curX S.hg rfl
  have g10 : w.cell? ⟨g, 10, none⟩ = some (.int .i64 5) := curX S.hg rfl
  have g11 : w.cell? ⟨g, 11, none⟩ = some (.int .i64 8) := curX S.hg rfl
  have g12 : w.cell? ⟨g, 12, none⟩ = some (.int .i64 0) := curX S.hg rfl
  have l0 : w.cell? ⟨L, 0, none⟩ = some (.slice (some ⟨gl, 0, none⟩) 17 17) := curX S.hL rfl
  have fH : ∀ i, w.frozen? ⟨H, i, none⟩ = false := fun i => by simp [World.frozen?, S.hH]
  have fg : ∀ i, w.frozen? ⟨g, i, none⟩ = false := fun i => by simp [World.frozen?, S.hg]
  have o1 := S.o1
  have o2 := S.o2
  have o3 := S.o3
  have n1 : g ≠ H := by omega
  have n2 : H ≠ g := by omega
  have n3 : L ≠ g := by omega
  have zH := heap_lt S.hH
  have zg : g < w.heap.size := heap_lt S.hg
  have HS := Lib.hid S
  go_enter Tryz.func50, Tryz.ntmps50
  go_wp2_with fail
  go_end0
  have S := HS.out
  exact fin1 (c := ⟨16777215, ⟨0, 0, 0⟩, ⟨0, 0, 0⟩, 32, [(119, -101)], 2, 5, 8, 0⟩) (LA := (some ⟨w.heap.size, 0, none⟩)) (lcap := 1) (cy := 120) (gr := 10000) (((Below.heap_alloc (w.setCell ⟨g, 8, none⟩ (.slice (some ⟨w.heap.size, 0, none⟩) 1 1)) (.cells #[.int .i64 (119), .int .i64 (-101)] 54) _ (by simpa [World.setCell] using zH)).trans ((set_far _ _ _ _ _ n2).trans S.hH))) ((((Below.heap_alloc (w.setCell ⟨g, 8, none⟩ (.slice (some ⟨w.heap.size, 0, none⟩) 1 1)) (.cells #[.int .i64 (119), .int .i64 (-101)] 54) _ (by simpa [World.setCell] using zg)).trans (setCell_heap _ _ _ _ _ _ _ S.hg))).trans (by simp [crA, c0X])) (Is.of_blk (xs := [119, -101]) (heap_alloc_at _ _ _ (by simp [World.setCell]))) ((Below.setCell (Below.refl g w) (p := ⟨g, 8, none⟩) (Nat.le_refl _) _).alloc (by simp [World.setCell]; omega) (.cells #[.int .i64 (119), .int .i64 (-101)] 54))
def z0X : Cr := ⟨0, ⟨0, 0, 0⟩, ⟨0, 0, 0⟩, 0, [], 0, 0, 0, 0⟩
theorem made7 : ∃ Z : Array Value, (∀ W : World, (Instr.makeSlice 22 (.int .i64 7) (.int .i64 7)).run Tryz.prog W = .ok (.slice (some ⟨W.heap.size, 0, none⟩) 7 7) (W.alloc (.cells Z 63))) ∧ ∀ j, j < 7 → ∀ i u, (crA z0X none 0)[i]? = some u → Z[j * 13 + i]? = some u := by
  obtain ⟨i0, hi0, hz0, hz1, hz2⟩ := info_parts Craft_info
  refine ⟨madeCells #[.int .i64 0, .int .i64 0, .int .i64 0, .int .i64 0, .int .i64 0, .int .i64 0, .int .i64 0, .int .i64 0, .slice none 0 0, .int .u8 0, .int .i64 0, .int .i64 0, .int .i64 0] (7 * 13), fun W => ?_, fun j hj i u hu => ?_⟩
  rotate_left
  · have hi : i < 13 := by
      rcases Nat.lt_or_ge i 13 with h | h
      · exact h
      · rw [Array.getElem?_eq_none (by simpa [crA] using h)] at hu; cases hu
    have e : (madeCells #[.int .i64 0, .int .i64 0, .int .i64 0, .int .i64 0, .int .i64 0, .int .i64 0, .int .i64 0, .int .i64 0, .slice none 0 0, .int .u8 0, .int .i64 0, .int .i64 0, .int .i64 0] (7 * 13))[j * 13 + i]? = some (#[.int .i64 0, .int .i64 0, .int .i64 0, .int .i64 0, .int .i64 0, .int .i64 0, .int .i64 0, .int .i64 0, .slice none 0 0, .int .u8 0, .int .i64 0, .int .i64 0, .int .i64 0][(j * 13 + i) % 13]!) := by
      have hk : j * 13 + i < (madeCells #[.int .i64 0, .int .i64 0, .int .i64 0, .int .i64 0, .int .i64 0, .int .i64 0, .int .i64 0, .int .i64 0, .slice none 0 0, .int .u8 0, .int .i64 0, .int .i64 0, .int .i64 0] (7 * 13)).size := by rw [size_madeCells]; omega
      rw [Array.getElem?_eq_getElem hk]
      simp only [madeCells, Array.getElem_map, Array.getElem_range]
      rfl
    rw [show (j * 13 + i) % 13 = i by omega] at e
    rw [e]
    rw [← hu]
    rcases (by omega : i = 0 ∨ i = 1 ∨ i = 2 ∨ i = 3 ∨ i = 4 ∨ i = 5 ∨ i = 6 ∨ i = 7 ∨ i = 8 ∨ i = 9 ∨ i = 10 ∨ i = 11 ∨ i = 12) with rfl | rfl | rfl | rfl | rfl | rfl | rfl | rfl | rfl | rfl | rfl | rfl | rfl <;> rfl
  · have h := run_make (P := Tryz.prog) W 22 63 i0 _ Tryz.underlying22 hi0 hz0 .i64 .i64 7 7 (by decide) (by decide) (by rw [hz2]; decide) (by decide)
    rw [hz1] at h
    exact h
theorem change6 (w : World) (H g L gl : Nat) (S : StX w H g L gl) : Calls Tryz.prog 36 #[.pointer (some ⟨H, 0, none⟩), .pointer (some ⟨g, 0, none⟩)] w (ClR H g ⟨120, 10000, List.replicate 7 z0X⟩ w) := by
  have h0 : w.cell? ⟨H, 0, none⟩ = some (.int .i64 120) := curX S.hH rfl
  have h1 : w.cell? ⟨H, 1, none⟩ = some (.int .i64 10000) := curX S.hH rfl
  have h2 : w.cell? ⟨H, 2, none⟩ = some (.slice (some ⟨g, 0, none⟩) 1 1) := curX S.hH rfl
  have g0 : w.cell? ⟨g, 0, none⟩ = some (.int .i64 16777215) := curX S.hg rfl
  have g1 : w.cell? ⟨g, 1, none⟩ = some (.int .i64 0) := curX S.hg rfl
  have g2 : w.cell? ⟨g, 2, none⟩ = some (.int .i64 0) := curX S.hg rfl
  have g3 : w.cell? ⟨g, 3, none⟩ = some (.int .i64 0) := curX S.hg rfl
  have g4 : w.cell? ⟨g, 4, none⟩ = some (.int .i64 0) := curX S.hg rfl
  have g5 : w.cell? ⟨g, 5, none⟩ = some (.int .i64 0) := curX S.hg rfl
  have g6 : w.cell? ⟨g, 6, none⟩ = some (.int .i64 0) := curX S.hg rfl
  have g7 : w.cell? ⟨g, 7, none⟩ = some (.int .i64 32) := curX S.hg rfl
  have g8 : w.cell? ⟨g, 8, none⟩ = some (.slice none 0 0) := curX S.hg rfl
  have g9 : w.cell? ⟨g, 9, none⟩ = some (.int .u8 2) := curX S.hg rfl
  have g10 : w.cell? ⟨g, 10, none⟩ = some (.int .i64 5) := curX S.hg rfl
  have g11 : w.cell? ⟨g, 11, none⟩ = some (.int .i64 8) := curX S.hg rfl
  have g12 : w.cell? ⟨g, 12, none⟩ = some (.int .i64 0) := curX S.hg rfl
  have l0 : w.cell? ⟨L, 0, none⟩ = some (.slice (some ⟨gl, 0, none⟩) 17 17) := curX S.hL rfl
  have fH : ∀ i, w.frozen? ⟨H, i, none⟩ = false := fun i => by simp [World.frozen?, S.hH]
  have fg : ∀ i, w.frozen? ⟨g, i, none⟩ = false := fun i => by simp [World.frozen?, S.hg]
  have o1 := S.o1
  have o2 := S.o2
  have o3 := S.o3
  have n1 : g ≠ H := by omega
  have n2 : H ≠ g := by omega
  have n3 : L ≠ g := by omega
  have zH := heap_lt S.hH
  have zg : g < w.heap.size := heap_lt S.hg
  have HS := Lib.hid S
  obtain ⟨Z, hm, hZ⟩ := made7
  have HZ := Lib.hid hZ
  clear hZ
  go_enter Tryz.func36, Tryz.ntmps36
  go_wp2_with fail
  go_end0
  have S := HS.out
  have hB : Below g w ((w.setCell ⟨H, 2, none⟩ (.slice (some ⟨w.heap.size, 0, none⟩) 7 7)).alloc (.cells Z 63)) := (Below.setCell (Below.refl g w) (p := ⟨H, 2, none⟩) (Nat.le_of_lt o3) _).alloc (by simp [World.setCell]; omega) _
  have hb : ((w.setCell ⟨H, 2, none⟩ (.slice (some ⟨w.heap.size, 0, none⟩) 7 7)).alloc (.cells Z 63)).heap[w.heap.size]? = some (.cells Z 63 (0, 0)) := heap_alloc_at _ _ _ (by simp [World.setCell])
  refine ⟨rfl, hB, some ⟨w.heap.size, 0, none⟩, 7, Nat.le_refl _, ((Below.heap_alloc _ _ _ (by simpa [World.setCell] using zH)).trans (setCell_heap _ _ _ _ _ _ _ S.hH)).trans (by simp), fun _ => ⟨w.heap.size, 0, rfl, heap_lt hb, fun j c hj => ?_⟩⟩
  have hj7 : j < 7 := by have := (List.getElem?_eq_some_iff.1 hj).1; simpa using this
  obtain rfl : z0X = c := by rw [List.getElem?_replicate_of_lt hj7] at hj; exact Option.some.inj hj
  exact ⟨none, 0, crAt_of (fun i u hu => by rw [show 0 + j * 13 + i = j * 13 + i by omega]; exact curX hb (HZ.out j hj7 i u hu)), is_none _ _⟩
theorem fin2 {w w2 : World} {H g g' cap' : Nat} {c d : Cr} {v : Value} (xH : w2.heap[H]? = some (.cells #[.int .i64 120, .int .i64 10000, v] 24 (0, 0))) (hg' : g' < w2.heap.size) (ne : g' ≠ H) (hc : 2 ≤ cap') (HCE : ∀ i u, (crA c none 0 ++ crA d none 0)[i]? = some u → w2.cell? ⟨g', i, none⟩ = some u) (lc : c.lg = []) (ld : d.lg = []) (B : Below g w w2) (o3 : g < H) :
    ClR H g ⟨120, 10000, [c, d]⟩ w (.returned (.tuple #[])) (w2.setCell ⟨H, 2, none⟩ (.slice (some ⟨g', 0, none⟩) 2 cap')) := by
  refine ⟨rfl, B.setCell (p := ⟨H, 2, none⟩) (Nat.le_of_lt o3) _, some ⟨g', 0, none⟩, cap', hc, (setCell_heap _ _ _ _ _ _ _ xH).trans (by simp), fun _ => ⟨g', 0, rfl, by simpa [World.setCell] using hg', fun j e hj => ?_⟩⟩
  have far : ∀ i u, w2.cell? ⟨g', i, none⟩ = some u → (w2.setCell ⟨H, 2, none⟩ (.slice (some ⟨g', 0, none⟩) 2 cap')).cell? ⟨g', i, none⟩ = some u := fun i u h => (World.cell?_setCell_other _ _ _ _ (by intro e; injection e with e; exact ne e.symm)).trans h
  have hj2 : j < 2 := by have := (List.getElem?_eq_some_iff.1 hj).1; simpa using this
  rcases (by omega : j = 0 ∨ j = 1) with rfl | rfl
  · obtain rfl : c = e := by simpa using hj
    refine ⟨none, 0, crAt_of (fun i u hu => far _ _ (HCE _ _ ?_)), by rw [lc]; exact is_none _ _⟩
    have hi : i < 13 := by
      rcases Nat.lt_or_ge i 13 with h | h
      · exact h
      · rw [Array.getElem?_eq_none (by simpa [crA] using h)] at hu; cases hu
    rw [show 0 + 0 * 13 + i = i by omega, Array.getElem?_append_left (by simpa [crA] using hi)]
    exact hu
  · obtain rfl : d = e := by simpa using hj
    refine ⟨none, 0, crAt_of (fun i u hu => far _ _ (HCE _ _ ?_)), by rw [ld]; exact is_none _ _⟩
    rw [show 0 + 1 * 13 + i = 13 + i by omega, Array.getElem?_append_right (by simp [crA])]
    rw [show 13 + i - (crA c none 0).size = i by simp [crA]]
    exact hu
set_option maxRecDepth 100000 in
theorem change9 (w : World) (H g L gl : Nat) (S : StX w H g L gl) : Calls Tryz.prog 39 #[.pointer (some ⟨H, 0, none⟩), .pointer (some ⟨g, 0, none⟩)] w (ClR H g ⟨120, 10000, [c0X, ⟨16777215, ⟨0, 0, 0⟩, ⟨0, 0, 0⟩, 0, [], 0, 0, 0, 0⟩]⟩ w) := by
  have h0 : w.cell? ⟨H, 0, none⟩ = some (.int .i64 120) := curX S.hH rfl
  have h1 : w.cell? ⟨H, 1, none⟩ = some (.int .i64 10000) := curX S.hH rfl
  have h2 : w.cell? ⟨H, 2, none⟩ = some (.slice (some ⟨g, 0, none⟩) 1 1) := curX S.hH rfl
  have g0 : w.cell? ⟨g, 0, none⟩ = some (.int .i64 16777215) := curX S.hg rfl
  have g1 : w.cell? ⟨g, 1, none⟩ = some (.int .i64 0) := curX S.hg rfl
  have g2 : w.cell? ⟨g, 2, none⟩ = some (.int .i64 0) := curX S.hg rfl
  have g3 : w.cell? ⟨g, 3, none⟩ = some (.int .i64 0) := curX S.hg rfl
  have g4 : w.cell? ⟨g, 4, none⟩ = some (.int .i64 0) := curX S.hg rfl
  have g5 : w.cell? ⟨g, 5, none⟩ = some (.int .i64 0) := curX S.hg rfl
  have g6 : w.cell? ⟨g, 6, none⟩ = some (.int .i64 0) := curX S.hg rfl
  have g7 : w.cell? ⟨g, 7, none⟩ = some (.int .i64 32) := curX S.hg rfl
  have g8 : w.cell? ⟨g, 8, none⟩ = some (.slice none 0 0) := curX S.hg rfl
  have g9 : w.cell? ⟨g, 9, none⟩ = some (.int .u8 2) := curX S.hg rfl
  have g10 : w.cell? ⟨g, 10, none⟩ = some (.int .i64 5) := curX S.hg rfl
  have g11 : w.cell? ⟨g, 11, none⟩ = some (.int .i64 8) := curX S.hg rfl
  have g12 : w.cell? ⟨g, 12, none⟩ = some (.int .i64 0) := curX S.hg rfl
  have l0 : w.cell? ⟨L, 0, none⟩ = some (.slice (some ⟨gl, 0, none⟩) 17 17) := curX S.hL rfl
  have fH : ∀ i, w.frozen? ⟨H, i, none⟩ = false := fun i => by simp [World.frozen?, S.hH]
  have fg : ∀ i, w.frozen? ⟨g, i, none⟩ = false := fun i => by simp [World.frozen?, S.hg]
  have o1 := S.o1
  have o2 := S.o2
  have o3 := S.o3
  have n1 : g ≠ H := by omega
  have n2 : H ≠ g := by omega
  have n3 : L ≠ g := by omega
  have zH := heap_lt S.hH
  have zg : g < w.heap.size := heap_lt S.hg
  have HS := Lib.hid S
  go_enter Tryz.func39, Tryz.ntmps39
  go_upto_region 0 with fail
  obtain ⟨i0, hi0, hz0, hz1, hz2⟩ := info_parts Craft_info
  have HROW : Hid (∀ ob, (w.drew.alloc ob).ownsRow g 63 13 (.slice (some ⟨g, 0, none⟩) 1 1) 1 (crA c0X none 0).toList) := Lib.hid (fun ob => World.ownsRow.alloc (w := w.drew) ⟨rfl, .inr ⟨g, 1, crA c0X none 0, rfl, Nat.le_refl _, S.hg, by decide, by decide, rfl, rfl⟩⟩ ob)
  have HGD : Hid (w.drew.heap[g]? = some (.cells (crA c0X none 0) 63 (0, 0))) := Lib.hid S.hg
  have HHD : Hid (w.drew.heap[H]? = _) := Lib.hid S.hH
  have d2 : w.drew.cell? ⟨H, 2, none⟩ = some (.slice (some ⟨g, 0, none⟩) 1 1) := curX HHD.out rfl
  have d2a : ∀ ob, (w.drew.alloc ob).cell? ⟨H, 2, none⟩ = some (.slice (some ⟨g, 0, none⟩) 1 1) := fun ob => (World.cell?_alloc_lt _ _ _ (show H < w.heap.size from zH)).trans d2
  have d2b : ∀ ob, (w.alloc ob).drew.cell? ⟨H, 2, none⟩ = some (.slice (some ⟨g, 0, none⟩) 1 1) := fun ob => d2a ob
  have dg0 : w.drew.cell? ⟨g, 0, none⟩ = some (.int .i64 16777215) := curX HGD.out rfl
  have dg0a : w.cell? ⟨g, 0, none⟩ = some (.int .i64 16777215) := g0
  refine wp_region_held_drew (S := fun _ => True) (by kernel_rfl) (trivial) (fun hS => ?_)
  refine wpAnyH_take (i := 0) (v := ?vA1) rfl (by kernel_rfl) (by kernel_rfl) (by kernel_rfl) (fun _ _ _ h => h) (Or.inl ⟨by rfl, ?hA1⟩) hS ?rA1
  case hA1 =>
    intro w1 hSw
    clear hSw
    go_simp
    try with_reducible rfl
  (try simp only [Act.put])
  refine wpAnyH_take (i := 1) (v := ?vA2) rfl (by kernel_rfl) (by kernel_rfl) (by kernel_rfl) (fun _ _ _ h => h) (Or.inl ⟨by rfl, ?hA2⟩) hS ?rA2
  case hA2 =>
    intro w1 hSw
    clear hSw
    go_simp
    try with_reducible rfl
  (try simp only [Act.put])
  refine wpAnyH_take (i := 2) (v := ?vA3) rfl (by kernel_rfl) (by kernel_rfl) (by kernel_rfl) (fun _ _ _ h => h) (Or.inl ⟨by rfl, ?hA3⟩) hS ?rA3
  case hA3 =>
    intro w1 hSw
    clear hSw
    go_simp
    try with_reducible rfl
  (try simp only [Act.put])
  refine wpAnyH_take (i := 3) (v := ?vA4) rfl (by kernel_rfl) (by kernel_rfl) (by kernel_rfl) (fun _ _ _ h => h) (Or.inl ⟨by rfl, ?hA4⟩) hS ?rA4
  case hA4 =>
    intro w1 hSw
    clear hSw
    go_simp
    try with_reducible rfl
  (try simp only [Act.put])
  refine wpAnyH_take (i := 5) (v := ?vA5) rfl (by kernel_rfl) (by kernel_rfl) (by kernel_rfl) (fun _ _ _ h => h) (Or.inl ⟨by rfl, ?hA5⟩) hS ?rA5
  case hA5 =>
    intro w1 hSw
    clear hSw
    go_simp
    try with_reducible rfl
  (try simp only [Act.put])
  refine wpAnyH_take (i := 6) (v := ?vA6) rfl (by kernel_rfl) (by kernel_rfl) (by kernel_rfl) (fun _ _ _ h => h) (Or.inl ⟨by rfl, ?hA6⟩) hS ?rA6
  case hA6 =>
    intro w1 hSw
    clear hSw
    go_simp
    try with_reducible rfl
  (try simp only [Act.put])
  refine wpAnyH_take (i := 7) (v := ?vA7) rfl (by kernel_rfl) (by kernel_rfl) (by kernel_rfl) (fun _ _ _ h => h) (Or.inl ⟨by rfl, ?hA7⟩) hS ?rA7
  case hA7 =>
    intro w1 hSw
    clear hSw
    go_simp
    try with_reducible rfl
  (try simp only [Act.put])
  refine wpAnyH_ready (rs := [4, 8]) (by kernel_rfl) (by simp) (AllReadyH.cons rfl (fun K hK => ?aA8) (AllReadyH.cons rfl (fun K hK => ?bA8) AllReadyH.nil))
  case aA8 =>
    go_simp
    refine hK.out _ _ (hS) (fun hS => ?_)
    clear hK K
    refine wpAnyH_ready (rs := [8]) (by kernel_rfl) (by simp) (AllReadyH.cons rfl (fun K hK => ?_) AllReadyH.nil)
    go_simp
    refine hK.out _ _ (hS) (fun hS => ?_)
    clear hK K
    refine wpAnyH_take (i := 9) (v := ?vA9) rfl (by kernel_rfl) (by kernel_rfl) (by kernel_rfl) (fun _ _ _ h => h) (Or.inl ⟨by rfl, ?hA9⟩) hS ?rA9
    case hA9 =>
      intro w1 hSw
      clear hSw
      go_simp
      try with_reducible rfl
    (try simp only [Act.put])
    refine wpAnyH_ready (rs := [10]) (by kernel_rfl) (by simp) (AllReadyH.cons rfl (fun K hK => ?_) AllReadyH.nil)
    go_simp
    refine hK.out _ _ (trivial) (fun hS => ?_)
    clear hK K
    refine wpAnyH_ready (rs := [11]) (by kernel_rfl) (by simp) (AllReadyH.cons rfl (fun K hK => ?_) AllReadyH.nil)
    rw [if_pos (by kernel_rfl)]
    refine wp_append_own _ _ _ 22 rfl g 63 i0 _ 13 120 Tryz.underlying22 hi0 hz0 hz1 hz2 rfl (by decide) (.slice (some ⟨g, 0, none⟩) 1 1) 1 _ rfl (HROW.out (.cells #[.int .i64 16777215, .int .i64 0, .int .i64 0, .int .i64 0, .int .i64 0, .int .i64 0, .int .i64 0, .int .i64 0, .slice none 0 0, .int .u8 0, .int .i64 0, .int .i64 0, .int .i64 0] 63)) ⟨w.heap.size, 0, none⟩ 1 1 [.int .i64 16777215, .int .i64 0, .int .i64 0, .int .i64 0, .int .i64 0, .int .i64 0, .int .i64 0, .int .i64 0, .slice none 0 0, .int .u8 0, .int .i64 0, .int .i64 0, .int .i64 0] rfl rfl (World.news_of_block (cs := #[.int .i64 16777215, .int .i64 0, .int .i64 0, .int .i64 0, .int .i64 0, .int .i64 0, .int .i64 0, .int .i64 0, .slice none 0 0, .int .u8 0, .int .i64 0, .int .i64 0, .int .i64 0]) (heap_alloc_new w.drew _)) (by simp [Value.oneCell']) (by decide) (by omega) (by simp; omega) ?_
    intro v' w2 hown' hgrow _
    obtain ⟨A', cap', rfl, hc', hA'⟩ := ownsRow_form hown'
    obtain ⟨g', rfl, hg'0, hg'1, -, hcell'⟩ := hA' (by omega)
    have xH : w2.heap[H]? = some (.cells #[.int .i64 120, .int .i64 10000, .slice (some ⟨g, 0, none⟩) 1 1] 24 (0, 0)) := (hgrow.block _ (by simp; omega) (fun e => n2 (by simpa [Value.ownBlock] using e))).trans ((Below.heap_alloc w.drew _ _ zH).trans HHD.out)
    have hgne : g' ≠ H := fun e => by
      obtain ⟨-, -, cu, hcu⟩ := ownsRow_own hown' (r := g') rfl
      rw [e, xH] at hcu
      injection hcu with e; injection e with _ e _; revert e; decide
    have y2 : w2.cell? ⟨H, 2, none⟩ = some (.slice (some ⟨g, 0, none⟩) 1 1) := curX xH rfl
    have yf : ∀ i, w2.frozen? ⟨H, i, none⟩ = false := fun i => by simp [World.frozen?, xH]
    have HX := Lib.hid xH
    have HCE : Hid (∀ i u, (crA c0X none 0 ++ crA ⟨16777215, ⟨0, 0, 0⟩, ⟨0, 0, 0⟩, 0, [], 0, 0, 0, 0⟩ none 0)[i]? = some u → w2.cell? ⟨g', i, none⟩ = some u) := Lib.hid (fun i u hu => hcell' i u (by rw [← hu]; rw [← Array.getElem?_toList]; rfl))
    have BG : Hid (Below g w w2) := Lib.hid ((Below.grown ((Below.refl g w).drew.alloc (Nat.le_of_lt zg) (.cells #[.int .i64 16777215, .int .i64 0, .int .i64 0, .int .i64 0, .int .i64 0, .int .i64 0, .int .i64 0, .int .i64 0, .slice none 0 0, .int .u8 0, .int .i64 0, .int .i64 0, .int .i64 0] 63)) hgrow (by show g ≤ _; simp; omega) (fun r hr => by have : g = r := (by simpa [Value.ownBlock] using hr); omega)))
    clear hown' hcell' hA'
    refine hK.out _ _ trivial (fun hS => ?_)
    clear hK K
    refine wpAnyH_ready (rs := [12]) (by kernel_rfl) (by simp) (AllReadyH.cons rfl (fun K hK => ?_) AllReadyH.nil)
    go_simp
    refine hK.out _ _ (hS) (fun hS => ?_)
    clear hK K
    refine wpAnyH_ready (rs := [13]) (by kernel_rfl) (by simp) (AllReadyH.cons rfl (fun K hK => ?_) AllReadyH.nil)
    go_simp
    refine hK.out _ _ (hS) (fun hS => ?_)
    clear hK K
    refine wpAnyH_ready (rs := [14]) (by kernel_rfl) (by simp) (AllReadyH.cons rfl (fun K hK => ?_) AllReadyH.nil)
    go_simp
    refine hK.out _ _ (trivial) (fun hS => ?_)
    clear hK K
    refine wpAnyH_done (by kernel_rfl) ?_ _
    go_wp2_with fail
    go_end0
    exact fin2 HX.out hg'1 hgne hc' HCE.out rfl rfl BG.out o3
  case bA8 =>
    go_simp
    refine hK.out _ _ (hS) (fun hS => ?_)
    clear hK K
    refine wpAnyH_take (i := 9) (v := ?vA10) rfl (by kernel_rfl) (by kernel_rfl) (by kernel_rfl) (fun _ _ _ h => h) (Or.inl ⟨by rfl, ?hA10⟩) hS ?rA10
    case hA10 =>
      intro w1 hSw
      clear hSw
      go_simp
      try with_reducible rfl
    (try simp only [Act.put])
    refine wpAnyH_ready (rs := [4, 10]) (by kernel_rfl) (by simp) (AllReadyH.cons rfl (fun K hK => ?aA11) (AllReadyH.cons rfl (fun K hK => ?bA11) AllReadyH.nil))
    case aA11 =>
      go_simp
      refine hK.out _ _ (hS) (fun hS => ?_)
      clear hK K
      refine wpAnyH_ready (rs := [10]) (by kernel_rfl) (by simp) (AllReadyH.cons rfl (fun K hK => ?_) AllReadyH.nil)
      go_simp
      refine hK.out _ _ (trivial) (fun hS => ?_)
      clear hK K
      refine wpAnyH_ready (rs := [11]) (by kernel_rfl) (by simp) (AllReadyH.cons rfl (fun K hK => ?_) AllReadyH.nil)
      rw [if_pos (by kernel_rfl)]
      refine wp_append_own _ _ _ 22 rfl g 63 i0 _ 13 120 Tryz.underlying22 hi0 hz0 hz1 hz2 rfl (by decide) (.slice (some ⟨g, 0, none⟩) 1 1) 1 _ rfl (HROW.out (.cells #[.int .i64 16777215, .int .i64 0, .int .i64 0, .int .i64 0, .int .i64 0, .int .i64 0, .int .i64 0, .int .i64 0, .slice none 0 0, .int .u8 0, .int .i64 0, .int .i64 0, .int .i64 0] 63)) ⟨w.heap.size, 0, none⟩ 1 1 [.int .i64 16777215, .int .i64 0, .int .i64 0, .int .i64 0, .int .i64 0, .int .i64 0, .int .i64 0, .int .i64 0, .slice none 0 0, .int .u8 0, .int .i64 0, .int .i64 0, .int .i64 0] rfl rfl (World.news_of_block (cs := #[.int .i64 16777215, .int .i64 0, .int .i64 0, .int .i64 0, .int .i64 0, .int .i64 0, .int .i64 0, .int .i64 0, .slice none 0 0, .int .u8 0, .int .i64 0, .int .i64 0, .int .i64 0]) (heap_alloc_new w.drew _)) (by simp [Value.oneCell']) (by decide) (by omega) (by simp; omega) ?_
      intro v' w2 hown' hgrow _
      obtain ⟨A', cap', rfl, hc', hA'⟩ := ownsRow_form hown'
      obtain ⟨g', rfl, hg'0, hg'1, -, hcell'⟩ := hA' (by omega)
      have xH : w2.heap[H]? = some (.cells #[.int .i64 120, .int .i64 10000, .slice (some ⟨g, 0, none⟩) 1 1] 24 (0, 0)) := (hgrow.block _ (by simp; omega) (fun e => n2 (by simpa [Value.ownBlock] using e))).trans ((Below.heap_alloc w.drew _ _ zH).trans HHD.out)
      have hgne : g' ≠ H := fun e => by
        obtain ⟨-, -, cu, hcu⟩ := ownsRow_own hown' (r := g') rfl
        rw [e, xH] at hcu
        injection hcu with e; injection e with _ e _; revert e; decide
      have y2 : w2.cell? ⟨H, 2, none⟩ = some (.slice (some ⟨g, 0, none⟩) 1 1) := curX xH rfl
      have yf : ∀ i, w2.frozen? ⟨H, i, none⟩ = false := fun i => by simp [World.frozen?, xH]
      have HX := Lib.hid xH
      have HCE : Hid (∀ i u, (crA c0X none 0 ++ crA ⟨16777215, ⟨0, 0, 0⟩, ⟨0, 0, 0⟩, 0, [], 0, 0, 0, 0⟩ none 0)[i]? = some u → w2.cell? ⟨g', i, none⟩ = some u) := Lib.hid (fun i u hu => hcell' i u (by rw [← hu]; rw [← Array.getElem?_toList]; rfl))
      have BG : Hid (Below g w w2) := Lib.hid ((Below.grown ((Below.refl g w).drew.alloc (Nat.le_of_lt zg) (.cells #[.int .i64 16777215, .int .i64 0, .int .i64 0, .int .i64 0, .int .i64 0, .int .i64 0, .int .i64 0, .int .i64 0, .slice none 0 0, .int .u8 0, .int .i64 0, .int .i64 0, .int .i64 0] 63)) hgrow (by show g ≤ _; simp; omega) (fun r hr => by have : g = r := (by simpa [Value.ownBlock] using hr); omega)))
      clear hown' hcell' hA'
      refine hK.out _ _ trivial (fun hS => ?_)
      clear hK K
      refine wpAnyH_ready (rs := [12]) (by kernel_rfl) (by simp) (AllReadyH.cons rfl (fun K hK => ?_) AllReadyH.nil)
      go_simp
      refine hK.out _ _ (hS) (fun hS => ?_)
      clear hK K
      refine wpAnyH_ready (rs := [13]) (by kernel_rfl) (by simp) (AllReadyH.cons rfl (fun K hK => ?_) AllReadyH.nil)
      go_simp
      refine hK.out _ _ (hS) (fun hS => ?_)
      clear hK K
      refine wpAnyH_ready (rs := [14]) (by kernel_rfl) (by simp) (AllReadyH.cons rfl (fun K hK => ?_) AllReadyH.nil)
      go_simp
      refine hK.out _ _ (trivial) (fun hS => ?_)
      clear hK K
      refine wpAnyH_done (by kernel_rfl) ?_ _
      go_wp2_with fail
      go_end0
      exact fin2 HX.out hg'1 hgne hc' HCE.out rfl rfl BG.out o3
    case bA11 =>
      go_simp
      refine hK.out _ _ (trivial) (fun hS => ?_)
      clear hK K
      refine wpAnyH_ready (rs := [4]) (by kernel_rfl) (by simp) (AllReadyH.cons rfl (fun K hK => ?_) AllReadyH.nil)
      go_simp
      refine hK.out _ _ (hS) (fun hS => ?_)
      clear hK K
      refine wpAnyH_ready (rs := [11]) (by kernel_rfl) (by simp) (AllReadyH.cons rfl (fun K hK => ?_) AllReadyH.nil)
      rw [if_pos (by kernel_rfl)]
      refine wp_append_own _ _ _ 22 rfl g 63 i0 _ 13 120 Tryz.underlying22 hi0 hz0 hz1 hz2 rfl (by decide) (.slice (some ⟨g, 0, none⟩) 1 1) 1 _ rfl (HROW.out (.cells #[.int .i64 16777215, .int .i64 0, .int .i64 0, .int .i64 0, .int .i64 0, .int .i64 0, .int .i64 0, .int .i64 0, .slice none 0 0, .int .u8 0, .int .i64 0, .int .i64 0, .int .i64 0] 63)) ⟨w.heap.size, 0, none⟩ 1 1 [.int .i64 16777215, .int .i64 0, .int .i64 0, .int .i64 0, .int .i64 0, .int .i64 0, .int .i64 0, .int .i64 0, .slice none 0 0, .int .u8 0, .int .i64 0, .int .i64 0, .int .i64 0] rfl rfl (World.news_of_block (cs := #[.int .i64 16777215, .int .i64 0, .int .i64 0, .int .i64 0, .int .i64 0, .int .i64 0, .int .i64 0, .int .i64 0, .slice none 0 0, .int .u8 0, .int .i64 0, .int .i64 0, .int .i64 0]) (heap_alloc_new w.drew _)) (by simp [Value.oneCell']) (by decide) (by omega) (by simp; omega) ?_
      intro v' w2 hown' hgrow _
      obtain ⟨A', cap', rfl, hc', hA'⟩ := ownsRow_form hown'
      obtain ⟨g', rfl, hg'0, hg'1, -, hcell'⟩ := hA' (by omega)
      have xH : w2.heap[H]? = some (.cells #[.int .i64 120, .int .i64 10000, .slice (some ⟨g, 0, none⟩) 1 1] 24 (0, 0)) := (hgrow.block _ (by simp; omega) (fun e => n2 (by simpa [Value.ownBlock] using e))).trans ((Below.heap_alloc w.drew _ _ zH).trans HHD.out)
      have hgne : g' ≠ H := fun e => by
        obtain ⟨-, -, cu, hcu⟩ := ownsRow_own hown' (r := g') rfl
        rw [e, xH] at hcu
        injection hcu with e; injection e with _ e _; revert e; decide
      have y2 : w2.cell? ⟨H, 2, none⟩ = some (.slice (some ⟨g, 0, none⟩) 1 1) := curX xH rfl
      have yf : ∀ i, w2.frozen? ⟨H, i, none⟩ = false := fun i => by simp [World.frozen?, xH]
      have HX := Lib.hid xH
      have HCE : Hid (∀ i u, (crA c0X none 0 ++ crA ⟨16777215, ⟨0, 0, 0⟩, ⟨0, 0, 0⟩, 0, [], 0, 0, 0, 0⟩ none 0)[i]? = some u → w2.cell? ⟨g', i, none⟩ = some u) := Lib.hid (fun i u hu => hcell' i u (by rw [← hu]; rw [← Array.getElem?_toList]; rfl))
      have BG : Hid (Below g w w2) := Lib.hid ((Below.grown ((Below.refl g w).drew.alloc (Nat.le_of_lt zg) (.cells #[.int .i64 16777215, .int .i64 0, .int .i64 0, .int .i64 0, .int .i64 0, .int .i64 0, .int .i64 0, .int .i64 0, .slice none 0 0, .int .u8 0, .int .i64 0, .int .i64 0, .int .i64 0] 63)) hgrow (by show g ≤ _; simp; omega) (fun r hr => by have : g = r := (by simpa [Value.ownBlock] using hr); omega)))
      clear hown' hcell' hA'
      refine hK.out _ _ trivial (fun hS => ?_)
      clear hK K
      refine wpAnyH_ready (rs := [12]) (by kernel_rfl) (by simp) (AllReadyH.cons rfl (fun K hK => ?_) AllReadyH.nil)
      go_simp
      refine hK.out _ _ (hS) (fun hS => ?_)
      clear hK K
      refine wpAnyH_ready (rs := [13]) (by kernel_rfl) (by simp) (AllReadyH.cons rfl (fun K hK => ?_) AllReadyH.nil)
      go_simp
      refine hK.out _ _ (hS) (fun hS => ?_)
      clear hK K
      refine wpAnyH_ready (rs := [14]) (by kernel_rfl) (by simp) (AllReadyH.cons rfl (fun K hK => ?_) AllReadyH.nil)
      go_simp
      refine hK.out _ _ (trivial) (fun hS => ?_)
      clear hK K
      refine wpAnyH_done (by kernel_rfl) ?_ _
      go_wp2_with fail
      go_end0
      exact fin2 HX.out hg'1 hgne hc' HCE.out rfl rfl BG.out o3
end Go.Proofs.YtnnnpliigdfipaaGreatDoor
