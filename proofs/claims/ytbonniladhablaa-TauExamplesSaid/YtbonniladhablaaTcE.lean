/- The walk of TauExamples. -/
import Derived.Test.YtbonniladhablaaRows
import Derived.WalkKit
import Derived.WalkLawsBesides
import Derived.WalkSpells
import Derived.ProofKit
import Derived.Below
import Derived.Outline
import Derived.Lib.Hide
import Derived.Deep.RegionWith
import Derived.Deep.RegionHeld3
import Derived.Deep.DrawnRows
import Derived.StillTailTactics
import Derived.BigQuiet
import Derived.Deep.QuietTactic
import Derived.Deep.LoopGhost
import Derived.IntWalk
import Derived.Test.YtbonniladhablaaTcZ
namespace Go.Proofs.Ytbonniladhablaa
open Go.RowKit
attribute [local go_sem ↓] Go.wp_at_zero Go.wp_at_succ
attribute [local go_sem] wrap_lit

theorem zero16 {W : World} {g : Nat} {T : TypeId} (h : W.heap[g]? = some (.cells (madeCells #[.int .i64 0] 16) T (0, 0))) (j : Nat) (hj : j < (List.replicate 16 (0 : Int)).length) : W.cell? ⟨g, 0 + j, none⟩ = some (.int .i64 (nth (List.replicate 16 0) j)) := by
  have hj' : j < 16 := by simpa using hj
  have e : nth (List.replicate 16 0) j = 0 := by
    unfold nth
    rw [List.getD_eq_getElem?_getD, List.getElem?_replicate]
    split <;> rfl
  rw [e]
  simp [World.cell?, h, made_at 16 j hj']
theorem cell5 {W : World} {g : Nat} {a b c d e : Value} {T : TypeId} (h : W.heap[g]? = some (.cells #[a, b, c, d, e] T (0, 0))) : W.cell? ⟨g, 0, none⟩ = some a ∧ W.cell? ⟨g, 1, none⟩ = some b ∧ W.cell? ⟨g, 2, none⟩ = some c ∧ W.cell? ⟨g, 3, none⟩ = some d ∧ W.cell? ⟨g, 4, none⟩ = some e ∧ W.frozen? ⟨g, 2, none⟩ = false := by
  simp [World.cell?, World.frozen?, h]
set_option maxRecDepth 100000 in
set_option maxHeartbeats 16000000 in
theorem examples8 (w : World) : Calls Try.prog 8 #[] w fun e w' => e = .returned (.bool true) ∧ Below w.heap.size w w' := by
  go_enter Try.func8, Try.ntmps8
  go_wp2_with fail
  refine (awake15 _).mono ?_
  rintro e w1 ⟨rfl, hb1⟩
  have hs1 := hb1.size
  go_wp2_with fail
  obtain ⟨X, hX⟩ : ∃ X, X = (w1.alloc (.cells #[.int .i64 7680, .int .i64 (-256), .int .i64 2, .int .i64 500, .int .i64 0] 25)).alloc (.cells #[.int .i64 9999, .int .i64 7680, .int .i64 (-256), .int .i64 2, .int .i64 500, .int .i64 0, .int .u8 1, .int .i64 10000, .int .i64 7680, .int .i64 (-256), .int .i64 2, .int .i64 500, .int .i64 0, .int .u8 3, .int .i64 10000, .int .i64 7680, .int .i64 (-256), .int .i64 2, .int .i64 (-900), .int .i64 0, .int .u8 2, .int .i64 9999, .int .i64 5120, .int .i64 (-256), .int .i64 1, .int .i64 700, .int .i64 0, .int .u8 2, .int .i64 0, .int .i64 98304, .int .i64 0, .int .i64 1, .int .i64 1200, .int .i64 0, .int .u8 1, .int .i64 0, .int .i64 98305, .int .i64 0, .int .i64 1, .int .i64 1200, .int .i64 0, .int .u8 0, .int .i64 0, .int .i64 0, .int .i64 0, .int .i64 1, .int .i64 (-1201), .int .i64 0, .int .u8 0, .int .i64 0, .int .i64 0, .int .i64 0, .int .i64 1, .int .i64 (-400), .int .i64 0, .int .u8 3] 68) := ⟨_, rfl⟩
  have BX : Below w.heap.size w X := by rw [hX]; exact (hb1.alloc hs1 _).alloc (by simp; omega) _
  have sX : X.heap.size = w1.heap.size + 1 + 1 := by rw [hX]; simp
  have k_0 : X.cell? ⟨w1.heap.size + 1, 0, none⟩ = some (.int .i64 9999) := by rw [hX]; exact World.cell?_alloc_at _ _ _ _ (by simp)
  have k_1 : X.cell? ⟨w1.heap.size + 1, 1, none⟩ = some (.int .i64 7680) := by rw [hX]; exact World.cell?_alloc_at _ _ _ _ (by simp)
  have k_2 : X.cell? ⟨w1.heap.size + 1, 2, none⟩ = some (.int .i64 (-256)) := by rw [hX]; exact World.cell?_alloc_at _ _ _ _ (by simp)
  have k_3 : X.cell? ⟨w1.heap.size + 1, 3, none⟩ = some (.int .i64 2) := by rw [hX]; exact World.cell?_alloc_at _ _ _ _ (by simp)
  have k_4 : X.cell? ⟨w1.heap.size + 1, 4, none⟩ = some (.int .i64 500) := by rw [hX]; exact World.cell?_alloc_at _ _ _ _ (by simp)
  have k_5 : X.cell? ⟨w1.heap.size + 1, 5, none⟩ = some (.int .i64 0) := by rw [hX]; exact World.cell?_alloc_at _ _ _ _ (by simp)
  have k_6 : X.cell? ⟨w1.heap.size + 1, 6, none⟩ = some (.int .u8 1) := by rw [hX]; exact World.cell?_alloc_at _ _ _ _ (by simp)
  have k_7 : X.cell? ⟨w1.heap.size + 1, 7, none⟩ = some (.int .i64 10000) := by rw [hX]; exact World.cell?_alloc_at _ _ _ _ (by simp)
  have k_8 : X.cell? ⟨w1.heap.size + 1, 8, none⟩ = some (.int .i64 7680) := by rw [hX]; exact World.cell?_alloc_at _ _ _ _ (by simp)
  have k_9 : X.cell? ⟨w1.heap.size + 1, 9, none⟩ = some (.int .i64 (-256)) := by rw [hX]; exact World.cell?_alloc_at _ _ _ _ (by simp)
  have k_10 : X.cell? ⟨w1.heap.size + 1, 10, none⟩ = some (.int .i64 2) := by rw [hX]; exact World.cell?_alloc_at _ _ _ _ (by simp)
  have k_11 : X.cell? ⟨w1.heap.size + 1, 11, none⟩ = some (.int .i64 500) := by rw [hX]; exact World.cell?_alloc_at _ _ _ _ (by simp)
  have k_12 : X.cell? ⟨w1.heap.size + 1, 12, none⟩ = some (.int .i64 0) := by rw [hX]; exact World.cell?_alloc_at _ _ _ _ (by simp)
  have k_13 : X.cell? ⟨w1.heap.size + 1, 13, none⟩ = some (.int .u8 3) := by rw [hX]; exact World.cell?_alloc_at _ _ _ _ (by simp)
  have k_14 : X.cell? ⟨w1.heap.size + 1, 14, none⟩ = some (.int .i64 10000) := by rw [hX]; exact World.cell?_alloc_at _ _ _ _ (by simp)
  have k_15 : X.cell? ⟨w1.heap.size + 1, 15, none⟩ = some (.int .i64 7680) := by rw [hX]; exact World.cell?_alloc_at _ _ _ _ (by simp)
  have k_16 : X.cell? ⟨w1.heap.size + 1, 16, none⟩ = some (.int .i64 (-256)) := by rw [hX]; exact World.cell?_alloc_at _ _ _ _ (by simp)
  have k_17 : X.cell? ⟨w1.heap.size + 1, 17, none⟩ = some (.int .i64 2) := by rw [hX]; exact World.cell?_alloc_at _ _ _ _ (by simp)
  have k_18 : X.cell? ⟨w1.heap.size + 1, 18, none⟩ = some (.int .i64 (-900)) := by rw [hX]; exact World.cell?_alloc_at _ _ _ _ (by simp)
  have k_19 : X.cell? ⟨w1.heap.size + 1, 19, none⟩ = some (.int .i64 0) := by rw [hX]; exact World.cell?_alloc_at _ _ _ _ (by simp)
  have k_20 : X.cell? ⟨w1.heap.size + 1, 20, none⟩ = some (.int .u8 2) := by rw [hX]; exact World.cell?_alloc_at _ _ _ _ (by simp)
  have k_21 : X.cell? ⟨w1.heap.size + 1, 21, none⟩ = some (.int .i64 9999) := by rw [hX]; exact World.cell?_alloc_at _ _ _ _ (by simp)
  have k_22 : X.cell? ⟨w1.heap.size + 1, 22, none⟩ = some (.int .i64 5120) := by rw [hX]; exact World.cell?_alloc_at _ _ _ _ (by simp)
  have k_23 : X.cell? ⟨w1.heap.size + 1, 23, none⟩ = some (.int .i64 (-256)) := by rw [hX]; exact World.cell?_alloc_at _ _ _ _ (by simp)
  have k_24 : X.cell? ⟨w1.heap.size + 1, 24, none⟩ = some (.int .i64 1) := by rw [hX]; exact World.cell?_alloc_at _ _ _ _ (by simp)
  have k_25 : X.cell? ⟨w1.heap.size + 1, 25, none⟩ = some (.int .i64 700) := by rw [hX]; exact World.cell?_alloc_at _ _ _ _ (by simp)
  have k_26 : X.cell? ⟨w1.heap.size + 1, 26, none⟩ = some (.int .i64 0) := by rw [hX]; exact World.cell?_alloc_at _ _ _ _ (by simp)
  have k_27 : X.cell? ⟨w1.heap.size + 1, 27, none⟩ = some (.int .u8 2) := by rw [hX]; exact World.cell?_alloc_at _ _ _ _ (by simp)
  have k_28 : X.cell? ⟨w1.heap.size + 1, 28, none⟩ = some (.int .i64 0) := by rw [hX]; exact World.cell?_alloc_at _ _ _ _ (by simp)
  have k_29 : X.cell? ⟨w1.heap.size + 1, 29, none⟩ = some (.int .i64 98304) := by rw [hX]; exact World.cell?_alloc_at _ _ _ _ (by simp)
  have k_30 : X.cell? ⟨w1.heap.size + 1, 30, none⟩ = some (.int .i64 0) := by rw [hX]; exact World.cell?_alloc_at _ _ _ _ (by simp)
  have k_31 : X.cell? ⟨w1.heap.size + 1, 31, none⟩ = some (.int .i64 1) := by rw [hX]; exact World.cell?_alloc_at _ _ _ _ (by simp)
  have k_32 : X.cell? ⟨w1.heap.size + 1, 32, none⟩ = some (.int .i64 1200) := by rw [hX]; exact World.cell?_alloc_at _ _ _ _ (by simp)
  have k_33 : X.cell? ⟨w1.heap.size + 1, 33, none⟩ = some (.int .i64 0) := by rw [hX]; exact World.cell?_alloc_at _ _ _ _ (by simp)
  have k_34 : X.cell? ⟨w1.heap.size + 1, 34, none⟩ = some (.int .u8 1) := by rw [hX]; exact World.cell?_alloc_at _ _ _ _ (by simp)
  have k_35 : X.cell? ⟨w1.heap.size + 1, 35, none⟩ = some (.int .i64 0) := by rw [hX]; exact World.cell?_alloc_at _ _ _ _ (by simp)
  have k_36 : X.cell? ⟨w1.heap.size + 1, 36, none⟩ = some (.int .i64 98305) := by rw [hX]; exact World.cell?_alloc_at _ _ _ _ (by simp)
  have k_37 : X.cell? ⟨w1.heap.size + 1, 37, none⟩ = some (.int .i64 0) := by rw [hX]; exact World.cell?_alloc_at _ _ _ _ (by simp)
  have k_38 : X.cell? ⟨w1.heap.size + 1, 38, none⟩ = some (.int .i64 1) := by rw [hX]; exact World.cell?_alloc_at _ _ _ _ (by simp)
  have k_39 : X.cell? ⟨w1.heap.size + 1, 39, none⟩ = some (.int .i64 1200) := by rw [hX]; exact World.cell?_alloc_at _ _ _ _ (by simp)
  have k_40 : X.cell? ⟨w1.heap.size + 1, 40, none⟩ = some (.int .i64 0) := by rw [hX]; exact World.cell?_alloc_at _ _ _ _ (by simp)
  have k_41 : X.cell? ⟨w1.heap.size + 1, 41, none⟩ = some (.int .u8 0) := by rw [hX]; exact World.cell?_alloc_at _ _ _ _ (by simp)
  have k_42 : X.cell? ⟨w1.heap.size + 1, 42, none⟩ = some (.int .i64 0) := by rw [hX]; exact World.cell?_alloc_at _ _ _ _ (by simp)
  have k_43 : X.cell? ⟨w1.heap.size + 1, 43, none⟩ = some (.int .i64 0) := by rw [hX]; exact World.cell?_alloc_at _ _ _ _ (by simp)
  have k_44 : X.cell? ⟨w1.heap.size + 1, 44, none⟩ = some (.int .i64 0) := by rw [hX]; exact World.cell?_alloc_at _ _ _ _ (by simp)
  have k_45 : X.cell? ⟨w1.heap.size + 1, 45, none⟩ = some (.int .i64 1) := by rw [hX]; exact World.cell?_alloc_at _ _ _ _ (by simp)
  have k_46 : X.cell? ⟨w1.heap.size + 1, 46, none⟩ = some (.int .i64 (-1201)) := by rw [hX]; exact World.cell?_alloc_at _ _ _ _ (by simp)
  have k_47 : X.cell? ⟨w1.heap.size + 1, 47, none⟩ = some (.int .i64 0) := by rw [hX]; exact World.cell?_alloc_at _ _ _ _ (by simp)
  have k_48 : X.cell? ⟨w1.heap.size + 1, 48, none⟩ = some (.int .u8 0) := by rw [hX]; exact World.cell?_alloc_at _ _ _ _ (by simp)
  have k_49 : X.cell? ⟨w1.heap.size + 1, 49, none⟩ = some (.int .i64 0) := by rw [hX]; exact World.cell?_alloc_at _ _ _ _ (by simp)
  have k_50 : X.cell? ⟨w1.heap.size + 1, 50, none⟩ = some (.int .i64 0) := by rw [hX]; exact World.cell?_alloc_at _ _ _ _ (by simp)
  have k_51 : X.cell? ⟨w1.heap.size + 1, 51, none⟩ = some (.int .i64 0) := by rw [hX]; exact World.cell?_alloc_at _ _ _ _ (by simp)
  have k_52 : X.cell? ⟨w1.heap.size + 1, 52, none⟩ = some (.int .i64 1) := by rw [hX]; exact World.cell?_alloc_at _ _ _ _ (by simp)
  have k_53 : X.cell? ⟨w1.heap.size + 1, 53, none⟩ = some (.int .i64 (-400)) := by rw [hX]; exact World.cell?_alloc_at _ _ _ _ (by simp)
  have k_54 : X.cell? ⟨w1.heap.size + 1, 54, none⟩ = some (.int .i64 0) := by rw [hX]; exact World.cell?_alloc_at _ _ _ _ (by simp)
  have k_55 : X.cell? ⟨w1.heap.size + 1, 55, none⟩ = some (.int .u8 3) := by rw [hX]; exact World.cell?_alloc_at _ _ _ _ (by simp)
  rw [← hX]
  clear hX
  obtain ⟨g, hg⟩ : ∃ g, g = w1.heap.size + 1 := ⟨_, rfl⟩
  rw [← hg] at k_0 k_1 k_2 k_3 k_4 k_5 k_6 k_7 k_8 k_9 k_10 k_11 k_12 k_13 k_14 k_15 k_16 k_17 k_18 k_19 k_20 k_21 k_22 k_23 k_24 k_25 k_26 k_27 k_28 k_29 k_30 k_31 k_32 k_33 k_34 k_35 k_36 k_37 k_38 k_39 k_40 k_41 k_42 k_43 k_44 k_45 k_46 k_47 k_48 k_49 k_50 k_51 k_52 k_53 k_54 k_55 sX ⊢
  clear hg
  have zX : g < X.heap.size := by omega
  have sw : w.heap.size ≤ X.heap.size := BX.size
  clear hb1
  go_loopw [0, 83] (fun r i wr => ∃ k : Nat, k ≤ 8 ∧ r = .bool false ∧ i = .int .i64 k ∧ Below X.heap.size X wr) (fun _ i _ => 8 - (intOf i).toNat)
  case atStart => exact ⟨0, by omega, rfl, rfl, Below.refl _ _⟩
  case round =>
    obtain ⟨k, hk, rfl, rfl, hB⟩ := hrel
    have hBs := hB.size
    have zr : g < wr.heap.size := by omega
    replace k_0 := (hB.cell (p := ⟨g, 0, none⟩) zX).trans k_0
    replace k_1 := (hB.cell (p := ⟨g, 1, none⟩) zX).trans k_1
    replace k_2 := (hB.cell (p := ⟨g, 2, none⟩) zX).trans k_2
    replace k_3 := (hB.cell (p := ⟨g, 3, none⟩) zX).trans k_3
    replace k_4 := (hB.cell (p := ⟨g, 4, none⟩) zX).trans k_4
    replace k_5 := (hB.cell (p := ⟨g, 5, none⟩) zX).trans k_5
    replace k_6 := (hB.cell (p := ⟨g, 6, none⟩) zX).trans k_6
    replace k_7 := (hB.cell (p := ⟨g, 7, none⟩) zX).trans k_7
    replace k_8 := (hB.cell (p := ⟨g, 8, none⟩) zX).trans k_8
    replace k_9 := (hB.cell (p := ⟨g, 9, none⟩) zX).trans k_9
    replace k_10 := (hB.cell (p := ⟨g, 10, none⟩) zX).trans k_10
    replace k_11 := (hB.cell (p := ⟨g, 11, none⟩) zX).trans k_11
    replace k_12 := (hB.cell (p := ⟨g, 12, none⟩) zX).trans k_12
    replace k_13 := (hB.cell (p := ⟨g, 13, none⟩) zX).trans k_13
    replace k_14 := (hB.cell (p := ⟨g, 14, none⟩) zX).trans k_14
    replace k_15 := (hB.cell (p := ⟨g, 15, none⟩) zX).trans k_15
    replace k_16 := (hB.cell (p := ⟨g, 16, none⟩) zX).trans k_16
    replace k_17 := (hB.cell (p := ⟨g, 17, none⟩) zX).trans k_17
    replace k_18 := (hB.cell (p := ⟨g, 18, none⟩) zX).trans k_18
    replace k_19 := (hB.cell (p := ⟨g, 19, none⟩) zX).trans k_19
    replace k_20 := (hB.cell (p := ⟨g, 20, none⟩) zX).trans k_20
    replace k_21 := (hB.cell (p := ⟨g, 21, none⟩) zX).trans k_21
    replace k_22 := (hB.cell (p := ⟨g, 22, none⟩) zX).trans k_22
    replace k_23 := (hB.cell (p := ⟨g, 23, none⟩) zX).trans k_23
    replace k_24 := (hB.cell (p := ⟨g, 24, none⟩) zX).trans k_24
    replace k_25 := (hB.cell (p := ⟨g, 25, none⟩) zX).trans k_25
    replace k_26 := (hB.cell (p := ⟨g, 26, none⟩) zX).trans k_26
    replace k_27 := (hB.cell (p := ⟨g, 27, none⟩) zX).trans k_27
    replace k_28 := (hB.cell (p := ⟨g, 28, none⟩) zX).trans k_28
    replace k_29 := (hB.cell (p := ⟨g, 29, none⟩) zX).trans k_29
    replace k_30 := (hB.cell (p := ⟨g, 30, none⟩) zX).trans k_30
    replace k_31 := (hB.cell (p := ⟨g, 31, none⟩) zX).trans k_31
    replace k_32 := (hB.cell (p := ⟨g, 32, none⟩) zX).trans k_32
    replace k_33 := (hB.cell (p := ⟨g, 33, none⟩) zX).trans k_33
    replace k_34 := (hB.cell (p := ⟨g, 34, none⟩) zX).trans k_34
    replace k_35 := (hB.cell (p := ⟨g, 35, none⟩) zX).trans k_35
    replace k_36 := (hB.cell (p := ⟨g, 36, none⟩) zX).trans k_36
    replace k_37 := (hB.cell (p := ⟨g, 37, none⟩) zX).trans k_37
    replace k_38 := (hB.cell (p := ⟨g, 38, none⟩) zX).trans k_38
    replace k_39 := (hB.cell (p := ⟨g, 39, none⟩) zX).trans k_39
    replace k_40 := (hB.cell (p := ⟨g, 40, none⟩) zX).trans k_40
    replace k_41 := (hB.cell (p := ⟨g, 41, none⟩) zX).trans k_41
    replace k_42 := (hB.cell (p := ⟨g, 42, none⟩) zX).trans k_42
    replace k_43 := (hB.cell (p := ⟨g, 43, none⟩) zX).trans k_43
    replace k_44 := (hB.cell (p := ⟨g, 44, none⟩) zX).trans k_44
    replace k_45 := (hB.cell (p := ⟨g, 45, none⟩) zX).trans k_45
    replace k_46 := (hB.cell (p := ⟨g, 46, none⟩) zX).trans k_46
    replace k_47 := (hB.cell (p := ⟨g, 47, none⟩) zX).trans k_47
    replace k_48 := (hB.cell (p := ⟨g, 48, none⟩) zX).trans k_48
    replace k_49 := (hB.cell (p := ⟨g, 49, none⟩) zX).trans k_49
    replace k_50 := (hB.cell (p := ⟨g, 50, none⟩) zX).trans k_50
    replace k_51 := (hB.cell (p := ⟨g, 51, none⟩) zX).trans k_51
    replace k_52 := (hB.cell (p := ⟨g, 52, none⟩) zX).trans k_52
    replace k_53 := (hB.cell (p := ⟨g, 53, none⟩) zX).trans k_53
    replace k_54 := (hB.cell (p := ⟨g, 54, none⟩) zX).trans k_54
    replace k_55 := (hB.cell (p := ⟨g, 55, none⟩) zX).trans k_55
    rcases (by omega : k = 0 ∨ k = 1 ∨ k = 2 ∨ k = 3 ∨ k = 4 ∨ k = 5 ∨ k = 6 ∨ k = 7 ∨ k = 8) with rfl | rfl | rfl | rfl | rfl | rfl | rfl | rfl | rfl
    · have HB := Lib.hid hB
      clear hB k_7 k_8 k_9 k_10 k_11 k_12 k_13 k_14 k_15 k_16 k_17 k_18 k_19 k_20 k_21 k_22 k_23 k_24 k_25 k_26 k_27 k_28 k_29 k_30 k_31 k_32 k_33 k_34 k_35 k_36 k_37 k_38 k_39 k_40 k_41 k_42 k_43 k_44 k_45 k_46 k_47 k_48 k_49 k_50 k_51 k_52 k_53 k_54 k_55
      go_wp2_with fail
      obtain ⟨Y, hY⟩ : ∃ Y, Y = wr.alloc (.cells #[.int .i64 9999, .int .i64 7680, .int .i64 (-256), .int .i64 2, .int .i64 500, .int .i64 0, .int .u8 1] 68) := ⟨_, rfl⟩
      have c0 : Y.cell? ⟨wr.heap.size, 0, none⟩ = some (.int .i64 9999) := by rw [hY]; exact World.cell?_alloc_at _ _ _ _ (by simp)
      have c1 : Y.cell? ⟨wr.heap.size, 1, none⟩ = some (.int .i64 7680) := by rw [hY]; exact World.cell?_alloc_at _ _ _ _ (by simp)
      have c2 : Y.cell? ⟨wr.heap.size, 2, none⟩ = some (.int .i64 (-256)) := by rw [hY]; exact World.cell?_alloc_at _ _ _ _ (by simp)
      have c3 : Y.cell? ⟨wr.heap.size, 3, none⟩ = some (.int .i64 2) := by rw [hY]; exact World.cell?_alloc_at _ _ _ _ (by simp)
      have c4 : Y.cell? ⟨wr.heap.size, 4, none⟩ = some (.int .i64 500) := by rw [hY]; exact World.cell?_alloc_at _ _ _ _ (by simp)
      have c5 : Y.cell? ⟨wr.heap.size, 5, none⟩ = some (.int .i64 0) := by rw [hY]; exact World.cell?_alloc_at _ _ _ _ (by simp)
      have c6 : Y.cell? ⟨wr.heap.size, 6, none⟩ = some (.int .u8 1) := by rw [hY]; exact World.cell?_alloc_at _ _ _ _ (by simp)
      have sY : Y.heap.size = wr.heap.size + 1 := by rw [hY]; simp
      have BY : Below X.heap.size X Y := by rw [hY]; exact HB.out.alloc hBs _
      rw [← hY]
      obtain ⟨q, hq⟩ : ∃ q, q = wr.heap.size := ⟨_, rfl⟩
      rw [← hq] at c0 c1 c2 c3 c4 c5 c6 sY ⊢
      have zY : q < Y.heap.size := by omega
      clear hY hq
      go_region_held3 (fun w' => w'.cell? ⟨q, 0, none⟩ = some (.int .i64 9999) ∧ w'.cell? ⟨q, 1, none⟩ = some (.int .i64 7680) ∧ w'.cell? ⟨q, 2, none⟩ = some (.int .i64 (-256)) ∧ w'.cell? ⟨q, 3, none⟩ = some (.int .i64 2) ∧ w'.cell? ⟨q, 4, none⟩ = some (.int .i64 500) ∧ w'.cell? ⟨q, 5, none⟩ = some (.int .i64 0) ∧ w'.cell? ⟨q, 6, none⟩ = some (.int .u8 1)) (first | exact ⟨c0, c1, c2, c3, c4, c5, c6⟩ | exact ⟨d0, d1, d2, d3, d4, d5, d6⟩ | exact ⟨e0, e1, e2, e3, e4, e5, e6⟩) (first
        | ((with_reducible refine (table29 _).mono ?_); rintro e w2 ⟨s, hsS, rfl, T2, hb2⟩; have z2 : q < w2.heap.size := Nat.lt_of_lt_of_le zY hb2.size; have d0 := (hb2.cell (p := ⟨q, 0, none⟩) zY).trans c0; have d1 := (hb2.cell (p := ⟨q, 1, none⟩) zY).trans c1; have d2 := (hb2.cell (p := ⟨q, 2, none⟩) zY).trans c2; have d3 := (hb2.cell (p := ⟨q, 3, none⟩) zY).trans c3; have d4 := (hb2.cell (p := ⟨q, 4, none⟩) zY).trans c4; have d5 := (hb2.cell (p := ⟨q, 5, none⟩) zY).trans c5; have d6 := (hb2.cell (p := ⟨q, 6, none⟩) zY).trans c6; have KC := Lib.hid (exCl T2 9999 7680 (-256) 2 500 0 1 0 (by decide +kernel)); clear T2)
        | ((with_reducible refine KC.out.mono ?_); rintro e w3 ⟨rfl, hb3⟩; have e0 := (hb3.cell (p := ⟨q, 0, none⟩) z2).trans d0; have e1 := (hb3.cell (p := ⟨q, 1, none⟩) z2).trans d1; have e2 := (hb3.cell (p := ⟨q, 2, none⟩) z2).trans d2; have e3 := (hb3.cell (p := ⟨q, 3, none⟩) z2).trans d3; have e4 := (hb3.cell (p := ⟨q, 4, none⟩) z2).trans d4; have e5 := (hb3.cell (p := ⟨q, 5, none⟩) z2).trans d5; have e6 := (hb3.cell (p := ⟨q, 6, none⟩) z2).trans d6))
      have y2 : Y.heap.size ≤ w2.heap.size := hb2.size
      have y1 : X.heap.size ≤ Y.heap.size := BY.size
      have B3 : Below X.heap.size X w3 := BY.drew.trans ((hb2.mono y1).trans (hb3.mono (Nat.le_trans y1 y2)))
      clear c0 c1 c2 c3 c4 c5 c6 d0 d1 d2 d3 d4 d5 d6 hb2 hb3 BY
      go_wp2_with fail
      exact ⟨⟨1, by omega, rfl, rfl, B3⟩, by simp [intOf]⟩
    · have HB := Lib.hid hB
      clear hB k_0 k_1 k_2 k_3 k_4 k_5 k_6 k_14 k_15 k_16 k_17 k_18 k_19 k_20 k_21 k_22 k_23 k_24 k_25 k_26 k_27 k_28 k_29 k_30 k_31 k_32 k_33 k_34 k_35 k_36 k_37 k_38 k_39 k_40 k_41 k_42 k_43 k_44 k_45 k_46 k_47 k_48 k_49 k_50 k_51 k_52 k_53 k_54 k_55
      go_wp2_with fail
      obtain ⟨Y, hY⟩ : ∃ Y, Y = wr.alloc (.cells #[.int .i64 10000, .int .i64 7680, .int .i64 (-256), .int .i64 2, .int .i64 500, .int .i64 0, .int .u8 3] 68) := ⟨_, rfl⟩
      have c0 : Y.cell? ⟨wr.heap.size, 0, none⟩ = some (.int .i64 10000) := by rw [hY]; exact World.cell?_alloc_at _ _ _ _ (by simp)
      have c1 : Y.cell? ⟨wr.heap.size, 1, none⟩ = some (.int .i64 7680) := by rw [hY]; exact World.cell?_alloc_at _ _ _ _ (by simp)
      have c2 : Y.cell? ⟨wr.heap.size, 2, none⟩ = some (.int .i64 (-256)) := by rw [hY]; exact World.cell?_alloc_at _ _ _ _ (by simp)
      have c3 : Y.cell? ⟨wr.heap.size, 3, none⟩ = some (.int .i64 2) := by rw [hY]; exact World.cell?_alloc_at _ _ _ _ (by simp)
      have c4 : Y.cell? ⟨wr.heap.size, 4, none⟩ = some (.int .i64 500) := by rw [hY]; exact World.cell?_alloc_at _ _ _ _ (by simp)
      have c5 : Y.cell? ⟨wr.heap.size, 5, none⟩ = some (.int .i64 0) := by rw [hY]; exact World.cell?_alloc_at _ _ _ _ (by simp)
      have c6 : Y.cell? ⟨wr.heap.size, 6, none⟩ = some (.int .u8 3) := by rw [hY]; exact World.cell?_alloc_at _ _ _ _ (by simp)
      have sY : Y.heap.size = wr.heap.size + 1 := by rw [hY]; simp
      have BY : Below X.heap.size X Y := by rw [hY]; exact HB.out.alloc hBs _
      rw [← hY]
      obtain ⟨q, hq⟩ : ∃ q, q = wr.heap.size := ⟨_, rfl⟩
      rw [← hq] at c0 c1 c2 c3 c4 c5 c6 sY ⊢
      have zY : q < Y.heap.size := by omega
      clear hY hq
      go_region_held3 (fun w' => w'.cell? ⟨q, 0, none⟩ = some (.int .i64 10000) ∧ w'.cell? ⟨q, 1, none⟩ = some (.int .i64 7680) ∧ w'.cell? ⟨q, 2, none⟩ = some (.int .i64 (-256)) ∧ w'.cell? ⟨q, 3, none⟩ = some (.int .i64 2) ∧ w'.cell? ⟨q, 4, none⟩ = some (.int .i64 500) ∧ w'.cell? ⟨q, 5, none⟩ = some (.int .i64 0) ∧ w'.cell? ⟨q, 6, none⟩ = some (.int .u8 3)) (first | exact ⟨c0, c1, c2, c3, c4, c5, c6⟩ | exact ⟨d0, d1, d2, d3, d4, d5, d6⟩ | exact ⟨e0, e1, e2, e3, e4, e5, e6⟩) (first
        | ((with_reducible refine (table29 _).mono ?_); rintro e w2 ⟨s, hsS, rfl, T2, hb2⟩; have z2 : q < w2.heap.size := Nat.lt_of_lt_of_le zY hb2.size; have d0 := (hb2.cell (p := ⟨q, 0, none⟩) zY).trans c0; have d1 := (hb2.cell (p := ⟨q, 1, none⟩) zY).trans c1; have d2 := (hb2.cell (p := ⟨q, 2, none⟩) zY).trans c2; have d3 := (hb2.cell (p := ⟨q, 3, none⟩) zY).trans c3; have d4 := (hb2.cell (p := ⟨q, 4, none⟩) zY).trans c4; have d5 := (hb2.cell (p := ⟨q, 5, none⟩) zY).trans c5; have d6 := (hb2.cell (p := ⟨q, 6, none⟩) zY).trans c6; have KC := Lib.hid (exCl T2 10000 7680 (-256) 2 500 0 3 0 (by decide +kernel)); clear T2)
        | ((with_reducible refine KC.out.mono ?_); rintro e w3 ⟨rfl, hb3⟩; have e0 := (hb3.cell (p := ⟨q, 0, none⟩) z2).trans d0; have e1 := (hb3.cell (p := ⟨q, 1, none⟩) z2).trans d1; have e2 := (hb3.cell (p := ⟨q, 2, none⟩) z2).trans d2; have e3 := (hb3.cell (p := ⟨q, 3, none⟩) z2).trans d3; have e4 := (hb3.cell (p := ⟨q, 4, none⟩) z2).trans d4; have e5 := (hb3.cell (p := ⟨q, 5, none⟩) z2).trans d5; have e6 := (hb3.cell (p := ⟨q, 6, none⟩) z2).trans d6))
      have y2 : Y.heap.size ≤ w2.heap.size := hb2.size
      have y1 : X.heap.size ≤ Y.heap.size := BY.size
      have B3 : Below X.heap.size X w3 := BY.drew.trans ((hb2.mono y1).trans (hb3.mono (Nat.le_trans y1 y2)))
      clear c0 c1 c2 c3 c4 c5 c6 d0 d1 d2 d3 d4 d5 d6 hb2 hb3 BY
      go_wp2_with fail
      exact ⟨⟨2, by omega, rfl, rfl, B3⟩, by simp [intOf]⟩
    · have HB := Lib.hid hB
      clear hB k_0 k_1 k_2 k_3 k_4 k_5 k_6 k_7 k_8 k_9 k_10 k_11 k_12 k_13 k_21 k_22 k_23 k_24 k_25 k_26 k_27 k_28 k_29 k_30 k_31 k_32 k_33 k_34 k_35 k_36 k_37 k_38 k_39 k_40 k_41 k_42 k_43 k_44 k_45 k_46 k_47 k_48 k_49 k_50 k_51 k_52 k_53 k_54 k_55
      go_wp2_with fail
      obtain ⟨Y, hY⟩ : ∃ Y, Y = wr.alloc (.cells #[.int .i64 10000, .int .i64 7680, .int .i64 (-256), .int .i64 2, .int .i64 (-900), .int .i64 0, .int .u8 2] 68) := ⟨_, rfl⟩
      have c0 : Y.cell? ⟨wr.heap.size, 0, none⟩ = some (.int .i64 10000) := by rw [hY]; exact World.cell?_alloc_at _ _ _ _ (by simp)
      have c1 : Y.cell? ⟨wr.heap.size, 1, none⟩ = some (.int .i64 7680) := by rw [hY]; exact World.cell?_alloc_at _ _ _ _ (by simp)
      have c2 : Y.cell? ⟨wr.heap.size, 2, none⟩ = some (.int .i64 (-256)) := by rw [hY]; exact World.cell?_alloc_at _ _ _ _ (by simp)
      have c3 : Y.cell? ⟨wr.heap.size, 3, none⟩ = some (.int .i64 2) := by rw [hY]; exact World.cell?_alloc_at _ _ _ _ (by simp)
      have c4 : Y.cell? ⟨wr.heap.size, 4, none⟩ = some (.int .i64 (-900)) := by rw [hY]; exact World.cell?_alloc_at _ _ _ _ (by simp)
      have c5 : Y.cell? ⟨wr.heap.size, 5, none⟩ = some (.int .i64 0) := by rw [hY]; exact World.cell?_alloc_at _ _ _ _ (by simp)
      have c6 : Y.cell? ⟨wr.heap.size, 6, none⟩ = some (.int .u8 2) := by rw [hY]; exact World.cell?_alloc_at _ _ _ _ (by simp)
      have sY : Y.heap.size = wr.heap.size + 1 := by rw [hY]; simp
      have BY : Below X.heap.size X Y := by rw [hY]; exact HB.out.alloc hBs _
      rw [← hY]
      obtain ⟨q, hq⟩ : ∃ q, q = wr.heap.size := ⟨_, rfl⟩
      rw [← hq] at c0 c1 c2 c3 c4 c5 c6 sY ⊢
      have zY : q < Y.heap.size := by omega
      clear hY hq
      go_region_held3 (fun w' => w'.cell? ⟨q, 0, none⟩ = some (.int .i64 10000) ∧ w'.cell? ⟨q, 1, none⟩ = some (.int .i64 7680) ∧ w'.cell? ⟨q, 2, none⟩ = some (.int .i64 (-256)) ∧ w'.cell? ⟨q, 3, none⟩ = some (.int .i64 2) ∧ w'.cell? ⟨q, 4, none⟩ = some (.int .i64 (-900)) ∧ w'.cell? ⟨q, 5, none⟩ = some (.int .i64 0) ∧ w'.cell? ⟨q, 6, none⟩ = some (.int .u8 2)) (first | exact ⟨c0, c1, c2, c3, c4, c5, c6⟩ | exact ⟨d0, d1, d2, d3, d4, d5, d6⟩ | exact ⟨e0, e1, e2, e3, e4, e5, e6⟩) (first
        | ((with_reducible refine (table29 _).mono ?_); rintro e w2 ⟨s, hsS, rfl, T2, hb2⟩; have z2 : q < w2.heap.size := Nat.lt_of_lt_of_le zY hb2.size; have d0 := (hb2.cell (p := ⟨q, 0, none⟩) zY).trans c0; have d1 := (hb2.cell (p := ⟨q, 1, none⟩) zY).trans c1; have d2 := (hb2.cell (p := ⟨q, 2, none⟩) zY).trans c2; have d3 := (hb2.cell (p := ⟨q, 3, none⟩) zY).trans c3; have d4 := (hb2.cell (p := ⟨q, 4, none⟩) zY).trans c4; have d5 := (hb2.cell (p := ⟨q, 5, none⟩) zY).trans c5; have d6 := (hb2.cell (p := ⟨q, 6, none⟩) zY).trans c6; have KC := Lib.hid (exCl T2 10000 7680 (-256) 2 (-900) 0 2 0 (by decide +kernel)); clear T2)
        | ((with_reducible refine KC.out.mono ?_); rintro e w3 ⟨rfl, hb3⟩; have e0 := (hb3.cell (p := ⟨q, 0, none⟩) z2).trans d0; have e1 := (hb3.cell (p := ⟨q, 1, none⟩) z2).trans d1; have e2 := (hb3.cell (p := ⟨q, 2, none⟩) z2).trans d2; have e3 := (hb3.cell (p := ⟨q, 3, none⟩) z2).trans d3; have e4 := (hb3.cell (p := ⟨q, 4, none⟩) z2).trans d4; have e5 := (hb3.cell (p := ⟨q, 5, none⟩) z2).trans d5; have e6 := (hb3.cell (p := ⟨q, 6, none⟩) z2).trans d6))
      have y2 : Y.heap.size ≤ w2.heap.size := hb2.size
      have y1 : X.heap.size ≤ Y.heap.size := BY.size
      have B3 : Below X.heap.size X w3 := BY.drew.trans ((hb2.mono y1).trans (hb3.mono (Nat.le_trans y1 y2)))
      clear c0 c1 c2 c3 c4 c5 c6 d0 d1 d2 d3 d4 d5 d6 hb2 hb3 BY
      go_wp2_with fail
      exact ⟨⟨3, by omega, rfl, rfl, B3⟩, by simp [intOf]⟩
    · have HB := Lib.hid hB
      clear hB k_0 k_1 k_2 k_3 k_4 k_5 k_6 k_7 k_8 k_9 k_10 k_11 k_12 k_13 k_14 k_15 k_16 k_17 k_18 k_19 k_20 k_28 k_29 k_30 k_31 k_32 k_33 k_34 k_35 k_36 k_37 k_38 k_39 k_40 k_41 k_42 k_43 k_44 k_45 k_46 k_47 k_48 k_49 k_50 k_51 k_52 k_53 k_54 k_55
      go_wp2_with fail
      obtain ⟨Y, hY⟩ : ∃ Y, Y = wr.alloc (.cells #[.int .i64 9999, .int .i64 5120, .int .i64 (-256), .int .i64 1, .int .i64 700, .int .i64 0, .int .u8 2] 68) := ⟨_, rfl⟩
      have c0 : Y.cell? ⟨wr.heap.size, 0, none⟩ = some (.int .i64 9999) := by rw [hY]; exact World.cell?_alloc_at _ _ _ _ (by simp)
      have c1 : Y.cell? ⟨wr.heap.size, 1, none⟩ = some (.int .i64 5120) := by rw [hY]; exact World.cell?_alloc_at _ _ _ _ (by simp)
      have c2 : Y.cell? ⟨wr.heap.size, 2, none⟩ = some (.int .i64 (-256)) := by rw [hY]; exact World.cell?_alloc_at _ _ _ _ (by simp)
      have c3 : Y.cell? ⟨wr.heap.size, 3, none⟩ = some (.int .i64 1) := by rw [hY]; exact World.cell?_alloc_at _ _ _ _ (by simp)
      have c4 : Y.cell? ⟨wr.heap.size, 4, none⟩ = some (.int .i64 700) := by rw [hY]; exact World.cell?_alloc_at _ _ _ _ (by simp)
      have c5 : Y.cell? ⟨wr.heap.size, 5, none⟩ = some (.int .i64 0) := by rw [hY]; exact World.cell?_alloc_at _ _ _ _ (by simp)
      have c6 : Y.cell? ⟨wr.heap.size, 6, none⟩ = some (.int .u8 2) := by rw [hY]; exact World.cell?_alloc_at _ _ _ _ (by simp)
      have sY : Y.heap.size = wr.heap.size + 1 := by rw [hY]; simp
      have BY : Below X.heap.size X Y := by rw [hY]; exact HB.out.alloc hBs _
      rw [← hY]
      obtain ⟨q, hq⟩ : ∃ q, q = wr.heap.size := ⟨_, rfl⟩
      rw [← hq] at c0 c1 c2 c3 c4 c5 c6 sY ⊢
      have zY : q < Y.heap.size := by omega
      clear hY hq
      go_region_held3 (fun w' => w'.cell? ⟨q, 0, none⟩ = some (.int .i64 9999) ∧ w'.cell? ⟨q, 1, none⟩ = some (.int .i64 5120) ∧ w'.cell? ⟨q, 2, none⟩ = some (.int .i64 (-256)) ∧ w'.cell? ⟨q, 3, none⟩ = some (.int .i64 1) ∧ w'.cell? ⟨q, 4, none⟩ = some (.int .i64 700) ∧ w'.cell? ⟨q, 5, none⟩ = some (.int .i64 0) ∧ w'.cell? ⟨q, 6, none⟩ = some (.int .u8 2)) (first | exact ⟨c0, c1, c2, c3, c4, c5, c6⟩ | exact ⟨d0, d1, d2, d3, d4, d5, d6⟩ | exact ⟨e0, e1, e2, e3, e4, e5, e6⟩) (first
        | ((with_reducible refine (table29 _).mono ?_); rintro e w2 ⟨s, hsS, rfl, T2, hb2⟩; have z2 : q < w2.heap.size := Nat.lt_of_lt_of_le zY hb2.size; have d0 := (hb2.cell (p := ⟨q, 0, none⟩) zY).trans c0; have d1 := (hb2.cell (p := ⟨q, 1, none⟩) zY).trans c1; have d2 := (hb2.cell (p := ⟨q, 2, none⟩) zY).trans c2; have d3 := (hb2.cell (p := ⟨q, 3, none⟩) zY).trans c3; have d4 := (hb2.cell (p := ⟨q, 4, none⟩) zY).trans c4; have d5 := (hb2.cell (p := ⟨q, 5, none⟩) zY).trans c5; have d6 := (hb2.cell (p := ⟨q, 6, none⟩) zY).trans c6; have KC := Lib.hid (exCl T2 9999 5120 (-256) 1 700 0 2 0 (by decide +kernel)); clear T2)
        | ((with_reducible refine KC.out.mono ?_); rintro e w3 ⟨rfl, hb3⟩; have e0 := (hb3.cell (p := ⟨q, 0, none⟩) z2).trans d0; have e1 := (hb3.cell (p := ⟨q, 1, none⟩) z2).trans d1; have e2 := (hb3.cell (p := ⟨q, 2, none⟩) z2).trans d2; have e3 := (hb3.cell (p := ⟨q, 3, none⟩) z2).trans d3; have e4 := (hb3.cell (p := ⟨q, 4, none⟩) z2).trans d4; have e5 := (hb3.cell (p := ⟨q, 5, none⟩) z2).trans d5; have e6 := (hb3.cell (p := ⟨q, 6, none⟩) z2).trans d6))
      have y2 : Y.heap.size ≤ w2.heap.size := hb2.size
      have y1 : X.heap.size ≤ Y.heap.size := BY.size
      have B3 : Below X.heap.size X w3 := BY.drew.trans ((hb2.mono y1).trans (hb3.mono (Nat.le_trans y1 y2)))
      clear c0 c1 c2 c3 c4 c5 c6 d0 d1 d2 d3 d4 d5 d6 hb2 hb3 BY
      go_wp2_with fail
      exact ⟨⟨4, by omega, rfl, rfl, B3⟩, by simp [intOf]⟩
    · have HB := Lib.hid hB
      clear hB k_0 k_1 k_2 k_3 k_4 k_5 k_6 k_7 k_8 k_9 k_10 k_11 k_12 k_13 k_14 k_15 k_16 k_17 k_18 k_19 k_20 k_21 k_22 k_23 k_24 k_25 k_26 k_27 k_35 k_36 k_37 k_38 k_39 k_40 k_41 k_42 k_43 k_44 k_45 k_46 k_47 k_48 k_49 k_50 k_51 k_52 k_53 k_54 k_55
      go_wp2_with fail
      obtain ⟨Y, hY⟩ : ∃ Y, Y = wr.alloc (.cells #[.int .i64 0, .int .i64 98304, .int .i64 0, .int .i64 1, .int .i64 1200, .int .i64 0, .int .u8 1] 68) := ⟨_, rfl⟩
      have c0 : Y.cell? ⟨wr.heap.size, 0, none⟩ = some (.int .i64 0) := by rw [hY]; exact World.cell?_alloc_at _ _ _ _ (by simp)
      have c1 : Y.cell? ⟨wr.heap.size, 1, none⟩ = some (.int .i64 98304) := by rw [hY]; exact World.cell?_alloc_at _ _ _ _ (by simp)
      have c2 : Y.cell? ⟨wr.heap.size, 2, none⟩ = some (.int .i64 0) := by rw [hY]; exact World.cell?_alloc_at _ _ _ _ (by simp)
      have c3 : Y.cell? ⟨wr.heap.size, 3, none⟩ = some (.int .i64 1) := by rw [hY]; exact World.cell?_alloc_at _ _ _ _ (by simp)
      have c4 : Y.cell? ⟨wr.heap.size, 4, none⟩ = some (.int .i64 1200) := by rw [hY]; exact World.cell?_alloc_at _ _ _ _ (by simp)
      have c5 : Y.cell? ⟨wr.heap.size, 5, none⟩ = some (.int .i64 0) := by rw [hY]; exact World.cell?_alloc_at _ _ _ _ (by simp)
      have c6 : Y.cell? ⟨wr.heap.size, 6, none⟩ = some (.int .u8 1) := by rw [hY]; exact World.cell?_alloc_at _ _ _ _ (by simp)
      have sY : Y.heap.size = wr.heap.size + 1 := by rw [hY]; simp
      have BY : Below X.heap.size X Y := by rw [hY]; exact HB.out.alloc hBs _
      rw [← hY]
      obtain ⟨q, hq⟩ : ∃ q, q = wr.heap.size := ⟨_, rfl⟩
      rw [← hq] at c0 c1 c2 c3 c4 c5 c6 sY ⊢
      have zY : q < Y.heap.size := by omega
      clear hY hq
      go_region_held3 (fun w' => w'.cell? ⟨q, 0, none⟩ = some (.int .i64 0) ∧ w'.cell? ⟨q, 1, none⟩ = some (.int .i64 98304) ∧ w'.cell? ⟨q, 2, none⟩ = some (.int .i64 0) ∧ w'.cell? ⟨q, 3, none⟩ = some (.int .i64 1) ∧ w'.cell? ⟨q, 4, none⟩ = some (.int .i64 1200) ∧ w'.cell? ⟨q, 5, none⟩ = some (.int .i64 0) ∧ w'.cell? ⟨q, 6, none⟩ = some (.int .u8 1)) (first | exact ⟨c0, c1, c2, c3, c4, c5, c6⟩ | exact ⟨d0, d1, d2, d3, d4, d5, d6⟩ | exact ⟨e0, e1, e2, e3, e4, e5, e6⟩) (first
        | ((with_reducible refine (table29 _).mono ?_); rintro e w2 ⟨s, hsS, rfl, T2, hb2⟩; have z2 : q < w2.heap.size := Nat.lt_of_lt_of_le zY hb2.size; have d0 := (hb2.cell (p := ⟨q, 0, none⟩) zY).trans c0; have d1 := (hb2.cell (p := ⟨q, 1, none⟩) zY).trans c1; have d2 := (hb2.cell (p := ⟨q, 2, none⟩) zY).trans c2; have d3 := (hb2.cell (p := ⟨q, 3, none⟩) zY).trans c3; have d4 := (hb2.cell (p := ⟨q, 4, none⟩) zY).trans c4; have d5 := (hb2.cell (p := ⟨q, 5, none⟩) zY).trans c5; have d6 := (hb2.cell (p := ⟨q, 6, none⟩) zY).trans c6; have KC := Lib.hid (exCl T2 0 98304 0 1 1200 0 1 0 (by decide +kernel)); clear T2)
        | ((with_reducible refine KC.out.mono ?_); rintro e w3 ⟨rfl, hb3⟩; have e0 := (hb3.cell (p := ⟨q, 0, none⟩) z2).trans d0; have e1 := (hb3.cell (p := ⟨q, 1, none⟩) z2).trans d1; have e2 := (hb3.cell (p := ⟨q, 2, none⟩) z2).trans d2; have e3 := (hb3.cell (p := ⟨q, 3, none⟩) z2).trans d3; have e4 := (hb3.cell (p := ⟨q, 4, none⟩) z2).trans d4; have e5 := (hb3.cell (p := ⟨q, 5, none⟩) z2).trans d5; have e6 := (hb3.cell (p := ⟨q, 6, none⟩) z2).trans d6))
      have y2 : Y.heap.size ≤ w2.heap.size := hb2.size
      have y1 : X.heap.size ≤ Y.heap.size := BY.size
      have B3 : Below X.heap.size X w3 := BY.drew.trans ((hb2.mono y1).trans (hb3.mono (Nat.le_trans y1 y2)))
      clear c0 c1 c2 c3 c4 c5 c6 d0 d1 d2 d3 d4 d5 d6 hb2 hb3 BY
      go_wp2_with fail
      exact ⟨⟨5, by omega, rfl, rfl, B3⟩, by simp [intOf]⟩
    · have HB := Lib.hid hB
      clear hB k_0 k_1 k_2 k_3 k_4 k_5 k_6 k_7 k_8 k_9 k_10 k_11 k_12 k_13 k_14 k_15 k_16 k_17 k_18 k_19 k_20 k_21 k_22 k_23 k_24 k_25 k_26 k_27 k_28 k_29 k_30 k_31 k_32 k_33 k_34 k_42 k_43 k_44 k_45 k_46 k_47 k_48 k_49 k_50 k_51 k_52 k_53 k_54 k_55
      go_wp2_with fail
      obtain ⟨Y, hY⟩ : ∃ Y, Y = wr.alloc (.cells #[.int .i64 0, .int .i64 98305, .int .i64 0, .int .i64 1, .int .i64 1200, .int .i64 0, .int .u8 0] 68) := ⟨_, rfl⟩
      have c0 : Y.cell? ⟨wr.heap.size, 0, none⟩ = some (.int .i64 0) := by rw [hY]; exact World.cell?_alloc_at _ _ _ _ (by simp)
      have c1 : Y.cell? ⟨wr.heap.size, 1, none⟩ = some (.int .i64 98305) := by rw [hY]; exact World.cell?_alloc_at _ _ _ _ (by simp)
      have c2 : Y.cell? ⟨wr.heap.size, 2, none⟩ = some (.int .i64 0) := by rw [hY]; exact World.cell?_alloc_at _ _ _ _ (by simp)
      have c3 : Y.cell? ⟨wr.heap.size, 3, none⟩ = some (.int .i64 1) := by rw [hY]; exact World.cell?_alloc_at _ _ _ _ (by simp)
      have c4 : Y.cell? ⟨wr.heap.size, 4, none⟩ = some (.int .i64 1200) := by rw [hY]; exact World.cell?_alloc_at _ _ _ _ (by simp)
      have c5 : Y.cell? ⟨wr.heap.size, 5, none⟩ = some (.int .i64 0) := by rw [hY]; exact World.cell?_alloc_at _ _ _ _ (by simp)
      have c6 : Y.cell? ⟨wr.heap.size, 6, none⟩ = some (.int .u8 0) := by rw [hY]; exact World.cell?_alloc_at _ _ _ _ (by simp)
      have sY : Y.heap.size = wr.heap.size + 1 := by rw [hY]; simp
      have BY : Below X.heap.size X Y := by rw [hY]; exact HB.out.alloc hBs _
      rw [← hY]
      obtain ⟨q, hq⟩ : ∃ q, q = wr.heap.size := ⟨_, rfl⟩
      rw [← hq] at c0 c1 c2 c3 c4 c5 c6 sY ⊢
      have zY : q < Y.heap.size := by omega
      clear hY hq
      go_region_held3 (fun w' => w'.cell? ⟨q, 0, none⟩ = some (.int .i64 0) ∧ w'.cell? ⟨q, 1, none⟩ = some (.int .i64 98305) ∧ w'.cell? ⟨q, 2, none⟩ = some (.int .i64 0) ∧ w'.cell? ⟨q, 3, none⟩ = some (.int .i64 1) ∧ w'.cell? ⟨q, 4, none⟩ = some (.int .i64 1200) ∧ w'.cell? ⟨q, 5, none⟩ = some (.int .i64 0) ∧ w'.cell? ⟨q, 6, none⟩ = some (.int .u8 0)) (first | exact ⟨c0, c1, c2, c3, c4, c5, c6⟩ | exact ⟨d0, d1, d2, d3, d4, d5, d6⟩ | exact ⟨e0, e1, e2, e3, e4, e5, e6⟩) (first
        | ((with_reducible refine (table29 _).mono ?_); rintro e w2 ⟨s, hsS, rfl, T2, hb2⟩; have z2 : q < w2.heap.size := Nat.lt_of_lt_of_le zY hb2.size; have d0 := (hb2.cell (p := ⟨q, 0, none⟩) zY).trans c0; have d1 := (hb2.cell (p := ⟨q, 1, none⟩) zY).trans c1; have d2 := (hb2.cell (p := ⟨q, 2, none⟩) zY).trans c2; have d3 := (hb2.cell (p := ⟨q, 3, none⟩) zY).trans c3; have d4 := (hb2.cell (p := ⟨q, 4, none⟩) zY).trans c4; have d5 := (hb2.cell (p := ⟨q, 5, none⟩) zY).trans c5; have d6 := (hb2.cell (p := ⟨q, 6, none⟩) zY).trans c6; have KC := Lib.hid (exCl T2 0 98305 0 1 1200 0 0 0 (by decide +kernel)); clear T2)
        | ((with_reducible refine KC.out.mono ?_); rintro e w3 ⟨rfl, hb3⟩; have e0 := (hb3.cell (p := ⟨q, 0, none⟩) z2).trans d0; have e1 := (hb3.cell (p := ⟨q, 1, none⟩) z2).trans d1; have e2 := (hb3.cell (p := ⟨q, 2, none⟩) z2).trans d2; have e3 := (hb3.cell (p := ⟨q, 3, none⟩) z2).trans d3; have e4 := (hb3.cell (p := ⟨q, 4, none⟩) z2).trans d4; have e5 := (hb3.cell (p := ⟨q, 5, none⟩) z2).trans d5; have e6 := (hb3.cell (p := ⟨q, 6, none⟩) z2).trans d6))
      have y2 : Y.heap.size ≤ w2.heap.size := hb2.size
      have y1 : X.heap.size ≤ Y.heap.size := BY.size
      have B3 : Below X.heap.size X w3 := BY.drew.trans ((hb2.mono y1).trans (hb3.mono (Nat.le_trans y1 y2)))
      clear c0 c1 c2 c3 c4 c5 c6 d0 d1 d2 d3 d4 d5 d6 hb2 hb3 BY
      go_wp2_with fail
      exact ⟨⟨6, by omega, rfl, rfl, B3⟩, by simp [intOf]⟩
    · have HB := Lib.hid hB
      clear hB k_0 k_1 k_2 k_3 k_4 k_5 k_6 k_7 k_8 k_9 k_10 k_11 k_12 k_13 k_14 k_15 k_16 k_17 k_18 k_19 k_20 k_21 k_22 k_23 k_24 k_25 k_26 k_27 k_28 k_29 k_30 k_31 k_32 k_33 k_34 k_35 k_36 k_37 k_38 k_39 k_40 k_41 k_49 k_50 k_51 k_52 k_53 k_54 k_55
      go_wp2_with fail
      obtain ⟨Y, hY⟩ : ∃ Y, Y = wr.alloc (.cells #[.int .i64 0, .int .i64 0, .int .i64 0, .int .i64 1, .int .i64 (-1201), .int .i64 0, .int .u8 0] 68) := ⟨_, rfl⟩
      have c0 : Y.cell? ⟨wr.heap.size, 0, none⟩ = some (.int .i64 0) := by rw [hY]; exact World.cell?_alloc_at _ _ _ _ (by simp)
      have c1 : Y.cell? ⟨wr.heap.size, 1, none⟩ = some (.int .i64 0) := by rw [hY]; exact World.cell?_alloc_at _ _ _ _ (by simp)
      have c2 : Y.cell? ⟨wr.heap.size, 2, none⟩ = some (.int .i64 0) := by rw [hY]; exact World.cell?_alloc_at _ _ _ _ (by simp)
      have c3 : Y.cell? ⟨wr.heap.size, 3, none⟩ = some (.int .i64 1) := by rw [hY]; exact World.cell?_alloc_at _ _ _ _ (by simp)
      have c4 : Y.cell? ⟨wr.heap.size, 4, none⟩ = some (.int .i64 (-1201)) := by rw [hY]; exact World.cell?_alloc_at _ _ _ _ (by simp)
      have c5 : Y.cell? ⟨wr.heap.size, 5, none⟩ = some (.int .i64 0) := by rw [hY]; exact World.cell?_alloc_at _ _ _ _ (by simp)
      have c6 : Y.cell? ⟨wr.heap.size, 6, none⟩ = some (.int .u8 0) := by rw [hY]; exact World.cell?_alloc_at _ _ _ _ (by simp)
      have sY : Y.heap.size = wr.heap.size + 1 := by rw [hY]; simp
      have BY : Below X.heap.size X Y := by rw [hY]; exact HB.out.alloc hBs _
      rw [← hY]
      obtain ⟨q, hq⟩ : ∃ q, q = wr.heap.size := ⟨_, rfl⟩
      rw [← hq] at c0 c1 c2 c3 c4 c5 c6 sY ⊢
      have zY : q < Y.heap.size := by omega
      clear hY hq
      go_region_held3 (fun w' => w'.cell? ⟨q, 0, none⟩ = some (.int .i64 0) ∧ w'.cell? ⟨q, 1, none⟩ = some (.int .i64 0) ∧ w'.cell? ⟨q, 2, none⟩ = some (.int .i64 0) ∧ w'.cell? ⟨q, 3, none⟩ = some (.int .i64 1) ∧ w'.cell? ⟨q, 4, none⟩ = some (.int .i64 (-1201)) ∧ w'.cell? ⟨q, 5, none⟩ = some (.int .i64 0) ∧ w'.cell? ⟨q, 6, none⟩ = some (.int .u8 0)) (first | exact ⟨c0, c1, c2, c3, c4, c5, c6⟩ | exact ⟨d0, d1, d2, d3, d4, d5, d6⟩ | exact ⟨e0, e1, e2, e3, e4, e5, e6⟩) (first
        | ((with_reducible refine (table29 _).mono ?_); rintro e w2 ⟨s, hsS, rfl, T2, hb2⟩; have z2 : q < w2.heap.size := Nat.lt_of_lt_of_le zY hb2.size; have d0 := (hb2.cell (p := ⟨q, 0, none⟩) zY).trans c0; have d1 := (hb2.cell (p := ⟨q, 1, none⟩) zY).trans c1; have d2 := (hb2.cell (p := ⟨q, 2, none⟩) zY).trans c2; have d3 := (hb2.cell (p := ⟨q, 3, none⟩) zY).trans c3; have d4 := (hb2.cell (p := ⟨q, 4, none⟩) zY).trans c4; have d5 := (hb2.cell (p := ⟨q, 5, none⟩) zY).trans c5; have d6 := (hb2.cell (p := ⟨q, 6, none⟩) zY).trans c6; have KC := Lib.hid (exCl T2 0 0 0 1 (-1201) 0 0 0 (by decide +kernel)); clear T2)
        | ((with_reducible refine KC.out.mono ?_); rintro e w3 ⟨rfl, hb3⟩; have e0 := (hb3.cell (p := ⟨q, 0, none⟩) z2).trans d0; have e1 := (hb3.cell (p := ⟨q, 1, none⟩) z2).trans d1; have e2 := (hb3.cell (p := ⟨q, 2, none⟩) z2).trans d2; have e3 := (hb3.cell (p := ⟨q, 3, none⟩) z2).trans d3; have e4 := (hb3.cell (p := ⟨q, 4, none⟩) z2).trans d4; have e5 := (hb3.cell (p := ⟨q, 5, none⟩) z2).trans d5; have e6 := (hb3.cell (p := ⟨q, 6, none⟩) z2).trans d6))
      have y2 : Y.heap.size ≤ w2.heap.size := hb2.size
      have y1 : X.heap.size ≤ Y.heap.size := BY.size
      have B3 : Below X.heap.size X w3 := BY.drew.trans ((hb2.mono y1).trans (hb3.mono (Nat.le_trans y1 y2)))
      clear c0 c1 c2 c3 c4 c5 c6 d0 d1 d2 d3 d4 d5 d6 hb2 hb3 BY
      go_wp2_with fail
      exact ⟨⟨7, by omega, rfl, rfl, B3⟩, by simp [intOf]⟩
    · have HB := Lib.hid hB
      clear hB k_0 k_1 k_2 k_3 k_4 k_5 k_6 k_7 k_8 k_9 k_10 k_11 k_12 k_13 k_14 k_15 k_16 k_17 k_18 k_19 k_20 k_21 k_22 k_23 k_24 k_25 k_26 k_27 k_28 k_29 k_30 k_31 k_32 k_33 k_34 k_35 k_36 k_37 k_38 k_39 k_40 k_41 k_42 k_43 k_44 k_45 k_46 k_47 k_48
      go_wp2_with fail
      obtain ⟨Y, hY⟩ : ∃ Y, Y = wr.alloc (.cells #[.int .i64 0, .int .i64 0, .int .i64 0, .int .i64 1, .int .i64 (-400), .int .i64 0, .int .u8 3] 68) := ⟨_, rfl⟩
      have c0 : Y.cell? ⟨wr.heap.size, 0, none⟩ = some (.int .i64 0) := by rw [hY]; exact World.cell?_alloc_at _ _ _ _ (by simp)
      have c1 : Y.cell? ⟨wr.heap.size, 1, none⟩ = some (.int .i64 0) := by rw [hY]; exact World.cell?_alloc_at _ _ _ _ (by simp)
      have c2 : Y.cell? ⟨wr.heap.size, 2, none⟩ = some (.int .i64 0) := by rw [hY]; exact World.cell?_alloc_at _ _ _ _ (by simp)
      have c3 : Y.cell? ⟨wr.heap.size, 3, none⟩ = some (.int .i64 1) := by rw [hY]; exact World.cell?_alloc_at _ _ _ _ (by simp)
      have c4 : Y.cell? ⟨wr.heap.size, 4, none⟩ = some (.int .i64 (-400)) := by rw [hY]; exact World.cell?_alloc_at _ _ _ _ (by simp)
      have c5 : Y.cell? ⟨wr.heap.size, 5, none⟩ = some (.int .i64 0) := by rw [hY]; exact World.cell?_alloc_at _ _ _ _ (by simp)
      have c6 : Y.cell? ⟨wr.heap.size, 6, none⟩ = some (.int .u8 3) := by rw [hY]; exact World.cell?_alloc_at _ _ _ _ (by simp)
      have sY : Y.heap.size = wr.heap.size + 1 := by rw [hY]; simp
      have BY : Below X.heap.size X Y := by rw [hY]; exact HB.out.alloc hBs _
      rw [← hY]
      obtain ⟨q, hq⟩ : ∃ q, q = wr.heap.size := ⟨_, rfl⟩
      rw [← hq] at c0 c1 c2 c3 c4 c5 c6 sY ⊢
      have zY : q < Y.heap.size := by omega
      clear hY hq
      go_region_held3 (fun w' => w'.cell? ⟨q, 0, none⟩ = some (.int .i64 0) ∧ w'.cell? ⟨q, 1, none⟩ = some (.int .i64 0) ∧ w'.cell? ⟨q, 2, none⟩ = some (.int .i64 0) ∧ w'.cell? ⟨q, 3, none⟩ = some (.int .i64 1) ∧ w'.cell? ⟨q, 4, none⟩ = some (.int .i64 (-400)) ∧ w'.cell? ⟨q, 5, none⟩ = some (.int .i64 0) ∧ w'.cell? ⟨q, 6, none⟩ = some (.int .u8 3)) (first | exact ⟨c0, c1, c2, c3, c4, c5, c6⟩ | exact ⟨d0, d1, d2, d3, d4, d5, d6⟩ | exact ⟨e0, e1, e2, e3, e4, e5, e6⟩) (first
        | ((with_reducible refine (table29 _).mono ?_); rintro e w2 ⟨s, hsS, rfl, T2, hb2⟩; have z2 : q < w2.heap.size := Nat.lt_of_lt_of_le zY hb2.size; have d0 := (hb2.cell (p := ⟨q, 0, none⟩) zY).trans c0; have d1 := (hb2.cell (p := ⟨q, 1, none⟩) zY).trans c1; have d2 := (hb2.cell (p := ⟨q, 2, none⟩) zY).trans c2; have d3 := (hb2.cell (p := ⟨q, 3, none⟩) zY).trans c3; have d4 := (hb2.cell (p := ⟨q, 4, none⟩) zY).trans c4; have d5 := (hb2.cell (p := ⟨q, 5, none⟩) zY).trans c5; have d6 := (hb2.cell (p := ⟨q, 6, none⟩) zY).trans c6; have KC := Lib.hid (exCl T2 0 0 0 1 (-400) 0 3 0 (by decide +kernel)); clear T2)
        | ((with_reducible refine KC.out.mono ?_); rintro e w3 ⟨rfl, hb3⟩; have e0 := (hb3.cell (p := ⟨q, 0, none⟩) z2).trans d0; have e1 := (hb3.cell (p := ⟨q, 1, none⟩) z2).trans d1; have e2 := (hb3.cell (p := ⟨q, 2, none⟩) z2).trans d2; have e3 := (hb3.cell (p := ⟨q, 3, none⟩) z2).trans d3; have e4 := (hb3.cell (p := ⟨q, 4, none⟩) z2).trans d4; have e5 := (hb3.cell (p := ⟨q, 5, none⟩) z2).trans d5; have e6 := (hb3.cell (p := ⟨q, 6, none⟩) z2).trans d6))
      have y2 : Y.heap.size ≤ w2.heap.size := hb2.size
      have y1 : X.heap.size ≤ Y.heap.size := BY.size
      have B3 : Below X.heap.size X w3 := BY.drew.trans ((hb2.mono y1).trans (hb3.mono (Nat.le_trans y1 y2)))
      clear c0 c1 c2 c3 c4 c5 c6 d0 d1 d2 d3 d4 d5 d6 hb2 hb3 BY
      go_wp2_with fail
      exact ⟨⟨8, by omega, rfl, rfl, B3⟩, by simp [intOf]⟩
    · have HB := Lib.hid hB
      clear hB k_0 k_1 k_2 k_3 k_4 k_5 k_6 k_7 k_8 k_9 k_10 k_11 k_12 k_13 k_14 k_15 k_16 k_17 k_18 k_19 k_20 k_21 k_22 k_23 k_24 k_25 k_26 k_27 k_28 k_29 k_30 k_31 k_32 k_33 k_34 k_35 k_36 k_37 k_38 k_39 k_40 k_41 k_42 k_43 k_44 k_45 k_46 k_47 k_48 k_49 k_50 k_51 k_52 k_53 k_54 k_55 zr zX
      go_wp2_with fail
      have BR : Below X.heap.size X wr := HB.out
      clear HB hBs
      go_loopw [0, 6] (fun r i wq => ∃ k : Nat, k ≤ 9 ∧ r = .bool false ∧ i = .int .i64 k ∧ Below X.heap.size X wq) (fun _ i _ => 9 - (intOf i).toNat)
      case atStart => exact ⟨0, by omega, rfl, rfl, BR⟩
      case round =>
        clear BR
        obtain ⟨k, hk, rfl, rfl, hB⟩ := hrel
        have hBs := hB.size
        rcases (by omega : k = 0 ∨ k = 1 ∨ k = 2 ∨ k = 3 ∨ k = 4 ∨ k = 5 ∨ k = 6 ∨ k = 7 ∨ k = 8 ∨ k = 9) with rfl | rfl | rfl | rfl | rfl | rfl | rfl | rfl | rfl | rfl
        · have HB := Lib.hid hB
          clear hB
          go_wp2_with fail
          refine (table29 _).mono ?_
          rintro e w2 ⟨s, hsS, rfl, T2, hb2⟩
          have B2 : Below X.heap.size X w2 := HB.out.trans (hb2.mono hBs)
          have hX2 : X.heap.size ≤ w2.heap.size := B2.size
          have q0 : s + 1 + 1 + 1 < w2.heap.size := by have := T2.sz; omega
          have q2 : s + 1 + 1 < w2.heap.size := by omega
          have q7 : s + 1 < w2.heap.size := by omega
          have hXs : X.heap.size ≤ s := Nat.le_trans hBs hsS
          clear HB hb2 hsS
          obtain ⟨i0, hi0, hz0, hz1, hz2⟩ := info_parts int_info
          have hmk : ∀ W : World, (Instr.makeSlice 47 (.int .i64 16) (.int .i64 16)).run Try.prog W = .ok (.slice (some ⟨W.heap.size, 0, none⟩) 16 16) (W.alloc (.cells (madeCells #[.int .i64 0] 16) 3)) := fun W => by
            have h := run_makeN (P := Try.prog) 47 3 i0 _ Try.underlying47 hi0 hz0 16 (by omega) (by omega) W
            rw [hz1, Nat.mul_one] at h
            simpa [Value.cells] using h
          go_wp2_with fail
          obtain ⟨Y, hY⟩ : ∃ Y, Y = (w2.alloc (.cells #[.slice (some ⟨w2.heap.size + 1, 0, none⟩) 16 16, .slice (some ⟨s + 1 + 1, 0, none⟩) 2 2, .slice (some ⟨s + 1 + 1 + 1, 0, none⟩) 2 2, .int .i64 384, .int .i64 1200] 50)).alloc (.cells (madeCells #[.int .i64 0] 16) 3) := ⟨_, rfl⟩
          have BY : Below X.heap.size X Y := by rw [hY]; exact ((B2.alloc hX2 _).alloc (by simp; omega) _)
          have t4 : Y.heap[w2.heap.size]? = some (.cells #[.slice (some ⟨w2.heap.size + 1, 0, none⟩) 16 16, .slice (some ⟨s + 1 + 1, 0, none⟩) 2 2, .slice (some ⟨s + 1 + 1 + 1, 0, none⟩) 2 2, .int .i64 384, .int .i64 1200] 50 (0, 0)) := by rw [hY]; exact (heap_alloc_past _ _ _ (by simp)).trans (heap_alloc_new _ _)
          have lY : w2.heap.size < Y.heap.size := by rw [hY]; simp <;> omega
          have yf : Y.heap[w2.heap.size + 1]? = some (.cells (madeCells #[.int .i64 0] 16) 3 (0, 0)) := by rw [hY]; exact heap_alloc_at _ _ _ (by simp)
          have lf : w2.heap.size + 1 < Y.heap.size := by rw [hY]; simp
          have ya : Y.heap[s + 1 + 1]? = some (.cells #[.int .i64 20, .int .i64 10, .int .i64 800, .int .i64 20, .int .i64 40, .int .i64 30, .int .i64 1200, .int .i64 40] 27 (0, 0)) := by rw [hY]; exact (heap_alloc_past _ _ _ (by first | omega | (simp; omega))).trans ((heap_alloc_past _ _ _ (by first | omega | (simp; omega))).trans T2.a)
          have yb : Y.heap[s + 1 + 1 + 1]? = some (.cells #[.int .i64 10, .int .i64 5, .int .i64 400, .int .i64 10, .int .i64 25, .int .i64 15, .int .i64 600, .int .i64 25] 27 (0, 0)) := by rw [hY]; exact (heap_alloc_past _ _ _ (by first | omega | (simp; omega))).trans ((heap_alloc_past _ _ _ (by first | omega | (simp; omega))).trans T2.b)
          have if0 : Is .i64 Y Y.heap.size (some ⟨w2.heap.size + 1, 0, none⟩) (List.replicate 16 0) := fun _ => ⟨_, _, rfl, lf, fun j hj => zero16 yf j hj⟩
          have ia0 := Is.lit (k := .i64) (xs := [20, 10, 800, 20, 40, 30, 1200, 40]) (B := Y.heap.size) ya (by omega)
          have ib0 := Is.lit (k := .i64) (xs := [10, 5, 400, 10, 25, 15, 600, 25]) (B := Y.heap.size) yb (by omega)
          obtain ⟨K1, K2, K3⟩ := bad3 (some ⟨w2.heap.size + 1, 0, none⟩) (some ⟨s + 1 + 1, 0, none⟩) (some ⟨s + 1 + 1 + 1, 0, none⟩) 16 2 2 2 2 (List.replicate 16 0) [20, 10, 800, 20, 40, 30, 1200, 40] [10, 5, 400, 10, 25, 15, 600, 25] 384 1200 4 (by decide) (by decide +kernel) Y if0 ia0 ib0 rfl rfl (by decide) (by decide) (by decide)
          replace K2 := Lib.hid K2
          replace K3 := Lib.hid K3
          rw [← hY]
          clear hY yf ya yb if0 ia0 ib0 lf
          have hXY : X.heap.size ≤ Y.heap.size := BY.size
          refine K1.mono ?_
          rintro e w3 ⟨rfl, hb3⟩
          have t3 := (hb3.block _ lY).trans t4
          have c0 := (cell5 t3).1
          have c1 := (cell5 t3).2.1
          have c2 := (cell5 t3).2.2.1
          have c3 := (cell5 t3).2.2.2.1
          have c5 := (cell5 t3).2.2.2.2.1
          have l3 : w2.heap.size < w3.heap.size := Nat.lt_of_lt_of_le lY hb3.size
          clear t4 K1
          have H3 := Lib.hid t3
          clear t3
          go_wp2_with fail
          refine (K2.out _ hb3).mono ?_
          rintro e w4 ⟨rfl, hb4⟩
          have t4 := (hb4.block _ l3).trans H3.out
          replace c0 := (cell5 t4).1
          replace c1 := (cell5 t4).2.1
          replace c2 := (cell5 t4).2.2.1
          replace c3 := (cell5 t4).2.2.2.1
          replace c5 := (cell5 t4).2.2.2.2.1
          clear t4
          go_wp2_with fail
          refine (K3.out _ (hb3.trans (hb4.mono hb3.size))).mono ?_
          rintro e w5 ⟨rfl, hb5⟩
          have B5 : Below X.heap.size X w5 := BY.trans ((hb3.mono hXY).trans ((hb4.mono (Nat.le_trans hXY hb3.size)).trans (hb5.mono (Nat.le_trans hXY (Nat.le_trans hb3.size hb4.size)))))
          clear c0 c1 c2 c3 c5 hb3 hb4 hb5 K2 K3 H3
          go_wp2_with fail
          refine ⟨?_, by simp [intOf]⟩
          (repeat apply Exists.intro)
          exact ⟨⟨1, by omega, rfl, rfl, B5⟩, rfl⟩
        · have HB := Lib.hid hB
          clear hB
          go_wp2_with fail
          refine (table29 _).mono ?_
          rintro e w2 ⟨s, hsS, rfl, T2, hb2⟩
          have B2 : Below X.heap.size X w2 := HB.out.trans (hb2.mono hBs)
          have hX2 : X.heap.size ≤ w2.heap.size := B2.size
          have q0 : s + 1 + 1 + 1 < w2.heap.size := by have := T2.sz; omega
          have q2 : s + 1 + 1 < w2.heap.size := by omega
          have q7 : s + 1 < w2.heap.size := by omega
          have hXs : X.heap.size ≤ s := Nat.le_trans hBs hsS
          clear HB hb2 hsS
          go_wp2_with fail
          obtain ⟨Y, hY⟩ : ∃ Y, Y = (w2.alloc (.cells #[.slice (some ⟨w2.heap.size + 1, 0, none⟩) 2 2, .slice (some ⟨s + 1 + 1, 0, none⟩) 2 2, .slice (some ⟨s + 1 + 1 + 1, 0, none⟩) 2 2, .int .i64 384, .int .i64 1200] 50)).alloc (.cells #[.int .i64 5, .int .i64 5] 3) := ⟨_, rfl⟩
          have BY : Below X.heap.size X Y := by rw [hY]; exact ((B2.alloc hX2 _).alloc (by simp; omega) _)
          have t4 : Y.heap[w2.heap.size]? = some (.cells #[.slice (some ⟨w2.heap.size + 1, 0, none⟩) 2 2, .slice (some ⟨s + 1 + 1, 0, none⟩) 2 2, .slice (some ⟨s + 1 + 1 + 1, 0, none⟩) 2 2, .int .i64 384, .int .i64 1200] 50 (0, 0)) := by rw [hY]; exact (heap_alloc_past _ _ _ (by simp)).trans (heap_alloc_new _ _)
          have lY : w2.heap.size < Y.heap.size := by rw [hY]; simp <;> omega
          have yf : Y.heap[w2.heap.size + 1]? = some (.cells #[.int .i64 5, .int .i64 5] 3 (0, 0)) := by rw [hY]; exact heap_alloc_at _ _ _ (by simp)
          have lf : w2.heap.size + 1 < Y.heap.size := by rw [hY]; simp
          have ya : Y.heap[s + 1 + 1]? = some (.cells #[.int .i64 20, .int .i64 10, .int .i64 800, .int .i64 20, .int .i64 40, .int .i64 30, .int .i64 1200, .int .i64 40] 27 (0, 0)) := by rw [hY]; exact (heap_alloc_past _ _ _ (by first | omega | (simp; omega))).trans ((heap_alloc_past _ _ _ (by first | omega | (simp; omega))).trans T2.a)
          have yb : Y.heap[s + 1 + 1 + 1]? = some (.cells #[.int .i64 10, .int .i64 5, .int .i64 400, .int .i64 10, .int .i64 25, .int .i64 15, .int .i64 600, .int .i64 25] 27 (0, 0)) := by rw [hY]; exact (heap_alloc_past _ _ _ (by first | omega | (simp; omega))).trans ((heap_alloc_past _ _ _ (by first | omega | (simp; omega))).trans T2.b)
          have if0 := Is.lit (k := .i64) (xs := [5, 5]) (B := Y.heap.size) yf lf
          have ia0 := Is.lit (k := .i64) (xs := [20, 10, 800, 20, 40, 30, 1200, 40]) (B := Y.heap.size) ya (by omega)
          have ib0 := Is.lit (k := .i64) (xs := [10, 5, 400, 10, 25, 15, 600, 25]) (B := Y.heap.size) yb (by omega)
          obtain ⟨K1, K2, K3⟩ := bad3 (some ⟨w2.heap.size + 1, 0, none⟩) (some ⟨s + 1 + 1, 0, none⟩) (some ⟨s + 1 + 1 + 1, 0, none⟩) 2 2 2 2 2 [5, 5] [20, 10, 800, 20, 40, 30, 1200, 40] [10, 5, 400, 10, 25, 15, 600, 25] 384 1200 1 (by decide) (by decide +kernel) Y if0 ia0 ib0 rfl rfl (by decide) (by decide) (by decide)
          replace K2 := Lib.hid K2
          replace K3 := Lib.hid K3
          rw [← hY]
          clear hY yf ya yb if0 ia0 ib0 lf
          have hXY : X.heap.size ≤ Y.heap.size := BY.size
          refine K1.mono ?_
          rintro e w3 ⟨rfl, hb3⟩
          have t3 := (hb3.block _ lY).trans t4
          have c0 := (cell5 t3).1
          have c1 := (cell5 t3).2.1
          have c2 := (cell5 t3).2.2.1
          have c3 := (cell5 t3).2.2.2.1
          have c5 := (cell5 t3).2.2.2.2.1
          have l3 : w2.heap.size < w3.heap.size := Nat.lt_of_lt_of_le lY hb3.size
          clear t4 K1
          have H3 := Lib.hid t3
          clear t3
          go_wp2_with fail
          refine (K2.out _ hb3).mono ?_
          rintro e w4 ⟨rfl, hb4⟩
          have t4 := (hb4.block _ l3).trans H3.out
          replace c0 := (cell5 t4).1
          replace c1 := (cell5 t4).2.1
          replace c2 := (cell5 t4).2.2.1
          replace c3 := (cell5 t4).2.2.2.1
          replace c5 := (cell5 t4).2.2.2.2.1
          clear t4
          go_wp2_with fail
          refine (K3.out _ (hb3.trans (hb4.mono hb3.size))).mono ?_
          rintro e w5 ⟨rfl, hb5⟩
          have B5 : Below X.heap.size X w5 := BY.trans ((hb3.mono hXY).trans ((hb4.mono (Nat.le_trans hXY hb3.size)).trans (hb5.mono (Nat.le_trans hXY (Nat.le_trans hb3.size hb4.size)))))
          clear c0 c1 c2 c3 c5 hb3 hb4 hb5 K2 K3 H3
          go_wp2_with fail
          refine ⟨?_, by simp [intOf]⟩
          (repeat apply Exists.intro)
          exact ⟨⟨2, by omega, rfl, rfl, B5⟩, rfl⟩
        · have HB := Lib.hid hB
          clear hB
          go_wp2_with fail
          refine (table29 _).mono ?_
          rintro e w2 ⟨s, hsS, rfl, T2, hb2⟩
          have B2 : Below X.heap.size X w2 := HB.out.trans (hb2.mono hBs)
          have hX2 : X.heap.size ≤ w2.heap.size := B2.size
          have q0 : s + 1 + 1 + 1 < w2.heap.size := by have := T2.sz; omega
          have q2 : s + 1 + 1 < w2.heap.size := by omega
          have q7 : s + 1 < w2.heap.size := by omega
          have hXs : X.heap.size ≤ s := Nat.le_trans hBs hsS
          clear HB hb2 hsS
          go_wp2_with fail
          obtain ⟨Y, hY⟩ : ∃ Y, Y = (w2.alloc (.cells #[.slice (some ⟨w2.heap.size + 1, 0, none⟩) 1 1, .slice (some ⟨s + 1 + 1, 0, none⟩) 2 2, .slice (some ⟨s + 1 + 1 + 1, 0, none⟩) 2 2, .int .i64 384, .int .i64 1200] 50)).alloc (.cells #[.int .i64 50001] 3) := ⟨_, rfl⟩
          have BY : Below X.heap.size X Y := by rw [hY]; exact ((B2.alloc hX2 _).alloc (by simp; omega) _)
          have t4 : Y.heap[w2.heap.size]? = some (.cells #[.slice (some ⟨w2.heap.size + 1, 0, none⟩) 1 1, .slice (some ⟨s + 1 + 1, 0, none⟩) 2 2, .slice (some ⟨s + 1 + 1 + 1, 0, none⟩) 2 2, .int .i64 384, .int .i64 1200] 50 (0, 0)) := by rw [hY]; exact (heap_alloc_past _ _ _ (by simp)).trans (heap_alloc_new _ _)
          have lY : w2.heap.size < Y.heap.size := by rw [hY]; simp <;> omega
          have yf : Y.heap[w2.heap.size + 1]? = some (.cells #[.int .i64 50001] 3 (0, 0)) := by rw [hY]; exact heap_alloc_at _ _ _ (by simp)
          have lf : w2.heap.size + 1 < Y.heap.size := by rw [hY]; simp
          have ya : Y.heap[s + 1 + 1]? = some (.cells #[.int .i64 20, .int .i64 10, .int .i64 800, .int .i64 20, .int .i64 40, .int .i64 30, .int .i64 1200, .int .i64 40] 27 (0, 0)) := by rw [hY]; exact (heap_alloc_past _ _ _ (by first | omega | (simp; omega))).trans ((heap_alloc_past _ _ _ (by first | omega | (simp; omega))).trans T2.a)
          have yb : Y.heap[s + 1 + 1 + 1]? = some (.cells #[.int .i64 10, .int .i64 5, .int .i64 400, .int .i64 10, .int .i64 25, .int .i64 15, .int .i64 600, .int .i64 25] 27 (0, 0)) := by rw [hY]; exact (heap_alloc_past _ _ _ (by first | omega | (simp; omega))).trans ((heap_alloc_past _ _ _ (by first | omega | (simp; omega))).trans T2.b)
          have if0 := Is.lit (k := .i64) (xs := [50001]) (B := Y.heap.size) yf lf
          have ia0 := Is.lit (k := .i64) (xs := [20, 10, 800, 20, 40, 30, 1200, 40]) (B := Y.heap.size) ya (by omega)
          have ib0 := Is.lit (k := .i64) (xs := [10, 5, 400, 10, 25, 15, 600, 25]) (B := Y.heap.size) yb (by omega)
          obtain ⟨K1, K2, K3⟩ := bad3 (some ⟨w2.heap.size + 1, 0, none⟩) (some ⟨s + 1 + 1, 0, none⟩) (some ⟨s + 1 + 1 + 1, 0, none⟩) 1 2 2 2 2 [50001] [20, 10, 800, 20, 40, 30, 1200, 40] [10, 5, 400, 10, 25, 15, 600, 25] 384 1200 1 (by decide) (by decide +kernel) Y if0 ia0 ib0 rfl rfl (by decide) (by decide) (by decide)
          replace K2 := Lib.hid K2
          replace K3 := Lib.hid K3
          rw [← hY]
          clear hY yf ya yb if0 ia0 ib0 lf
          have hXY : X.heap.size ≤ Y.heap.size := BY.size
          refine K1.mono ?_
          rintro e w3 ⟨rfl, hb3⟩
          have t3 := (hb3.block _ lY).trans t4
          have c0 := (cell5 t3).1
          have c1 := (cell5 t3).2.1
          have c2 := (cell5 t3).2.2.1
          have c3 := (cell5 t3).2.2.2.1
          have c5 := (cell5 t3).2.2.2.2.1
          have l3 : w2.heap.size < w3.heap.size := Nat.lt_of_lt_of_le lY hb3.size
          clear t4 K1
          have H3 := Lib.hid t3
          clear t3
          go_wp2_with fail
          refine (K2.out _ hb3).mono ?_
          rintro e w4 ⟨rfl, hb4⟩
          have t4 := (hb4.block _ l3).trans H3.out
          replace c0 := (cell5 t4).1
          replace c1 := (cell5 t4).2.1
          replace c2 := (cell5 t4).2.2.1
          replace c3 := (cell5 t4).2.2.2.1
          replace c5 := (cell5 t4).2.2.2.2.1
          clear t4
          go_wp2_with fail
          refine (K3.out _ (hb3.trans (hb4.mono hb3.size))).mono ?_
          rintro e w5 ⟨rfl, hb5⟩
          have B5 : Below X.heap.size X w5 := BY.trans ((hb3.mono hXY).trans ((hb4.mono (Nat.le_trans hXY hb3.size)).trans (hb5.mono (Nat.le_trans hXY (Nat.le_trans hb3.size hb4.size)))))
          clear c0 c1 c2 c3 c5 hb3 hb4 hb5 K2 K3 H3
          go_wp2_with fail
          refine ⟨?_, by simp [intOf]⟩
          (repeat apply Exists.intro)
          exact ⟨⟨3, by omega, rfl, rfl, B5⟩, rfl⟩
        · have HB := Lib.hid hB
          clear hB
          go_wp2_with fail
          refine (table29 _).mono ?_
          rintro e w2 ⟨s, hsS, rfl, T2, hb2⟩
          have B2 : Below X.heap.size X w2 := HB.out.trans (hb2.mono hBs)
          have hX2 : X.heap.size ≤ w2.heap.size := B2.size
          have q0 : s + 1 + 1 + 1 < w2.heap.size := by have := T2.sz; omega
          have q2 : s + 1 + 1 < w2.heap.size := by omega
          have q7 : s + 1 < w2.heap.size := by omega
          have hXs : X.heap.size ≤ s := Nat.le_trans hBs hsS
          clear HB hb2 hsS
          go_wp2_with fail
          obtain ⟨Y, hY⟩ : ∃ Y, Y = w2.alloc (.cells #[.slice (some ⟨s + 1, 0, none⟩) 1 1, .slice (some ⟨s + 1 + 1, 4, none⟩) 1 1, .slice (some ⟨s + 1 + 1 + 1, 0, none⟩) 2 2, .int .i64 384, .int .i64 1200] 50) := ⟨_, rfl⟩
          have BY : Below X.heap.size X Y := by rw [hY]; exact (B2.alloc hX2 _)
          have t4 : Y.heap[w2.heap.size]? = some (.cells #[.slice (some ⟨s + 1, 0, none⟩) 1 1, .slice (some ⟨s + 1 + 1, 4, none⟩) 1 1, .slice (some ⟨s + 1 + 1 + 1, 0, none⟩) 2 2, .int .i64 384, .int .i64 1200] 50 (0, 0)) := by rw [hY]; exact heap_alloc_new _ _
          have lY : w2.heap.size < Y.heap.size := by rw [hY]; simp
          have yf : Y.heap[s + 1]? = some (.cells #[.int .i64 10000] 3 (0, 0)) := by rw [hY]; exact (heap_alloc_past _ _ _ (by first | omega | (simp; omega))).trans T2.f
          have lf : s + 1 < Y.heap.size := by omega
          have ya : Y.heap[s + 1 + 1]? = some (.cells #[.int .i64 20, .int .i64 10, .int .i64 800, .int .i64 20, .int .i64 40, .int .i64 30, .int .i64 1200, .int .i64 40] 27 (0, 0)) := by rw [hY]; exact (heap_alloc_past _ _ _ (by first | omega | (simp; omega))).trans T2.a
          have yb : Y.heap[s + 1 + 1 + 1]? = some (.cells #[.int .i64 10, .int .i64 5, .int .i64 400, .int .i64 10, .int .i64 25, .int .i64 15, .int .i64 600, .int .i64 25] 27 (0, 0)) := by rw [hY]; exact (heap_alloc_past _ _ _ (by first | omega | (simp; omega))).trans T2.b
          have if0 := Is.lit (k := .i64) (xs := [10000]) (B := Y.heap.size) yf lf
          have ia0 := Is.lit (k := .i64) (xs := [20, 10, 800, 20, 40, 30, 1200, 40]) (B := Y.heap.size) ya (by omega)
          have ib0 := Is.lit (k := .i64) (xs := [10, 5, 400, 10, 25, 15, 600, 25]) (B := Y.heap.size) yb (by omega)
          replace ia0 : Is .i64 Y Y.heap.size (some ⟨s + 1 + 1, 4, none⟩) [40, 30, 1200, 40] := fun _ => ⟨_, _, rfl, by omega, fun j hj => by simp at hj; rcases (by omega : j = 0 ∨ j = 1 ∨ j = 2 ∨ j = 3) with rfl | rfl | rfl | rfl <;> simp [World.cell?, ya, nth]⟩
          obtain ⟨K1, K2, K3⟩ := bad3 (some ⟨s + 1, 0, none⟩) (some ⟨s + 1 + 1, 4, none⟩) (some ⟨s + 1 + 1 + 1, 0, none⟩) 1 1 1 2 2 [10000] [40, 30, 1200, 40] [10, 5, 400, 10, 25, 15, 600, 25] 384 1200 2 (by decide) (by decide +kernel) Y if0 ia0 ib0 rfl rfl (by decide) (by decide) (by decide)
          replace K2 := Lib.hid K2
          replace K3 := Lib.hid K3
          rw [← hY]
          clear hY yf ya yb if0 ia0 ib0 lf
          have hXY : X.heap.size ≤ Y.heap.size := BY.size
          refine K1.mono ?_
          rintro e w3 ⟨rfl, hb3⟩
          have t3 := (hb3.block _ lY).trans t4
          have c0 := (cell5 t3).1
          have c1 := (cell5 t3).2.1
          have c2 := (cell5 t3).2.2.1
          have c3 := (cell5 t3).2.2.2.1
          have c5 := (cell5 t3).2.2.2.2.1
          have l3 : w2.heap.size < w3.heap.size := Nat.lt_of_lt_of_le lY hb3.size
          clear t4 K1
          have H3 := Lib.hid t3
          clear t3
          go_wp2_with fail
          refine (K2.out _ hb3).mono ?_
          rintro e w4 ⟨rfl, hb4⟩
          have t4 := (hb4.block _ l3).trans H3.out
          replace c0 := (cell5 t4).1
          replace c1 := (cell5 t4).2.1
          replace c2 := (cell5 t4).2.2.1
          replace c3 := (cell5 t4).2.2.2.1
          replace c5 := (cell5 t4).2.2.2.2.1
          clear t4
          go_wp2_with fail
          refine (K3.out _ (hb3.trans (hb4.mono hb3.size))).mono ?_
          rintro e w5 ⟨rfl, hb5⟩
          have B5 : Below X.heap.size X w5 := BY.trans ((hb3.mono hXY).trans ((hb4.mono (Nat.le_trans hXY hb3.size)).trans (hb5.mono (Nat.le_trans hXY (Nat.le_trans hb3.size hb4.size)))))
          clear c0 c1 c2 c3 c5 hb3 hb4 hb5 K2 K3 H3
          go_wp2_with fail
          refine ⟨?_, by simp [intOf]⟩
          (repeat apply Exists.intro)
          exact ⟨⟨4, by omega, rfl, rfl, B5⟩, rfl⟩
        · have HB := Lib.hid hB
          clear hB
          go_wp2_with fail
          refine (table29 _).mono ?_
          rintro e w2 ⟨s, hsS, rfl, T2, hb2⟩
          have B2 : Below X.heap.size X w2 := HB.out.trans (hb2.mono hBs)
          have hX2 : X.heap.size ≤ w2.heap.size := B2.size
          have q0 : s + 1 + 1 + 1 < w2.heap.size := by have := T2.sz; omega
          have q2 : s + 1 + 1 < w2.heap.size := by omega
          have q7 : s + 1 < w2.heap.size := by omega
          have hXs : X.heap.size ≤ s := Nat.le_trans hBs hsS
          clear HB hb2 hsS
          obtain ⟨i0, hi0, hz0, hz1, hz2⟩ := info_parts Lv_info
          have W4 : (w2.alloc (.cells #[.slice (some ⟨s + 1, 0, none⟩) 1 1, .slice (some ⟨s + 1 + 1, 0, none⟩) 2 2, .slice (some ⟨s + 1 + 1 + 1, 0, none⟩) 2 2, .int .i64 384, .int .i64 1200] 50)).heap[w2.heap.size]? = some (.cells #[.slice (some ⟨s + 1, 0, none⟩) 1 1, .slice (some ⟨s + 1 + 1, 0, none⟩) 2 2, .slice (some ⟨s + 1 + 1 + 1, 0, none⟩) 2 2, .int .i64 384, .int .i64 1200] 50 (0, 0)) := heap_alloc_new _ _
          have HAcc : Acc .i64 (w2.alloc (.cells #[.slice (some ⟨s + 1, 0, none⟩) 1 1, .slice (some ⟨s + 1 + 1, 0, none⟩) 2 2, .slice (some ⟨s + 1 + 1 + 1, 0, none⟩) 2 2, .int .i64 384, .int .i64 1200] 50)) (s + 1 + 1 + 1) 27 4 (.slice (some ⟨s + 1 + 1 + 1, 0, none⟩) 2 2) 2 xb0 := World.ownsRow.alloc ⟨rfl, .inr ⟨_, 2, _, rfl, Nat.le_refl _, T2.b, by decide, by decide, rfl, rfl⟩⟩ _
          have HAcc := Lib.hid HAcc
          go_wp2_with (at_builtin; go_loud (refine wpList_appG rfl _ _ 48 rfl .i64 (s + 1 + 1 + 1) 27 i0 _ 4 32 Try.underlying48 hi0 hz0 hz1 hz2 rfl (by decide) (.slice (some ⟨s + 1 + 1 + 1, 0, none⟩) 2 2) 2 xb0 [-1, 0, 0, 0] rfl HAcc.out _ rfl (w2.heap.size + 1) rfl (by simp) rfl (by decide) (by decide) (by simp; omega) ?_); go_loud (intro v4 w4 o4 hg4 hb4; have t4 := (hg4.block w2.heap.size (by simp; omega) (fun h => by injection h with h; replace h : w2.heap.size = s + 1 + 1 + 1 := h; omega)).trans ((heap_alloc_past _ _ _ (by simp)).trans W4); obtain ⟨g4, c4, rfl, ne4, lt4, is4⟩ := o4.other (by decide) t4 (by decide); have d0 := (cell5 t4).1; have d1 := (cell5 t4).2.1; have d2 := (cell5 t4).2.2.1; have d3 := (cell5 t4).2.2.2.1; have d4 := (cell5 t4).2.2.2.2.1; have fz := (cell5 t4).2.2.2.2.2; clear W4 o4 hg4))
          obtain ⟨Y, hY⟩ : ∃ Y, Y = w4.setCell ⟨w2.heap.size, 2, none⟩ (.slice (some ⟨g4, 0, none⟩) 3 c4) := ⟨_, rfl⟩
          have B4 : Below X.heap.size X w4 := (B2.alloc hX2 _).trans (hb4.mono (by omega))
          have BY : Below X.heap.size X Y := by rw [hY]; exact B4.setCell (p := ⟨w2.heap.size, 2, none⟩) hX2 _
          have sYY : Y.heap.size = w4.heap.size := by rw [hY]; simp [World.setCell]
          replace t4 : Y.heap[w2.heap.size]? = some (.cells #[.slice (some ⟨s + 1, 0, none⟩) 1 1, .slice (some ⟨s + 1 + 1, 0, none⟩) 2 2, .slice (some ⟨g4, 0, none⟩) 3 c4, .int .i64 384, .int .i64 1200] 50 (0, 0)) := by rw [hY]; simp [World.setCell, Array.getElem?_modify, t4]
          have lY : w2.heap.size < Y.heap.size := by rcases Nat.lt_or_ge w2.heap.size Y.heap.size with h | h; exact h; rw [Array.getElem?_eq_none h] at t4; cases t4
          have yf : Y.heap[s + 1]? = some (.cells #[.int .i64 10000] 3 (0, 0)) := by rw [hY]; refine (show _ = w4.heap[s + 1]? from ?_).trans ((hb4.block _ (by omega)).trans ((heap_alloc_past _ _ _ q7).trans T2.f)); simp [World.setCell, Array.getElem?_modify]; omega
          have ya : Y.heap[s + 1 + 1]? = some (.cells #[.int .i64 20, .int .i64 10, .int .i64 800, .int .i64 20, .int .i64 40, .int .i64 30, .int .i64 1200, .int .i64 40] 27 (0, 0)) := by rw [hY]; refine (show _ = w4.heap[s + 1 + 1]? from ?_).trans ((hb4.block _ (by omega)).trans ((heap_alloc_past _ _ _ q2).trans T2.a)); simp [World.setCell, Array.getElem?_modify]; omega
          have if0 := Is.lit (k := .i64) (xs := [10000]) (B := Y.heap.size) yf (by omega)
          have ia0 := Is.lit (k := .i64) (xs := [20, 10, 800, 20, 40, 30, 1200, 40]) (B := Y.heap.size) ya (by omega)
          have ib0 : Is .i64 Y Y.heap.size (some ⟨g4, 0, none⟩) [10, 5, 400, 10, 25, 15, 600, 25, (-1), 0, 0, 0] := by rw [sYY, hY]; exact is4.setOther (p := ⟨w2.heap.size, 2, none⟩) ne4 _
          clear d0 d1 d2 d3 d4 fz is4 hb4 B4
          obtain ⟨K1, K2, K3⟩ := bad3 (some ⟨s + 1, 0, none⟩) (some ⟨s + 1 + 1, 0, none⟩) (some ⟨g4, 0, none⟩) 1 2 2 3 c4 [10000] [20, 10, 800, 20, 40, 30, 1200, 40] [10, 5, 400, 10, 25, 15, 600, 25, (-1), 0, 0, 0] 384 1200 2 (by decide) (by decide +kernel) Y if0 ia0 ib0 rfl rfl (by decide) (by decide) (by decide)
          replace K2 := Lib.hid K2
          replace K3 := Lib.hid K3
          rw [← hY]
          clear hY yf ya if0 ia0 ib0
          have hXY : X.heap.size ≤ Y.heap.size := BY.size
          refine K1.mono ?_
          rintro e w3 ⟨rfl, hb3⟩
          have t3 := (hb3.block _ lY).trans t4
          have c0 := (cell5 t3).1
          have c1 := (cell5 t3).2.1
          have c2 := (cell5 t3).2.2.1
          have c3 := (cell5 t3).2.2.2.1
          have c5 := (cell5 t3).2.2.2.2.1
          have l3 : w2.heap.size < w3.heap.size := Nat.lt_of_lt_of_le lY hb3.size
          clear t4 K1
          have H3 := Lib.hid t3
          clear t3
          go_wp2_with fail
          refine (K2.out _ hb3).mono ?_
          rintro e w4 ⟨rfl, hb4⟩
          have t4 := (hb4.block _ l3).trans H3.out
          replace c0 := (cell5 t4).1
          replace c1 := (cell5 t4).2.1
          replace c2 := (cell5 t4).2.2.1
          replace c3 := (cell5 t4).2.2.2.1
          replace c5 := (cell5 t4).2.2.2.2.1
          clear t4
          go_wp2_with fail
          refine (K3.out _ (hb3.trans (hb4.mono hb3.size))).mono ?_
          rintro e w5 ⟨rfl, hb5⟩
          have B5 : Below X.heap.size X w5 := BY.trans ((hb3.mono hXY).trans ((hb4.mono (Nat.le_trans hXY hb3.size)).trans (hb5.mono (Nat.le_trans hXY (Nat.le_trans hb3.size hb4.size)))))
          clear c0 c1 c2 c3 c5 hb3 hb4 hb5 K2 K3 H3
          go_wp2_with fail
          refine ⟨?_, by simp [intOf]⟩
          (repeat apply Exists.intro)
          exact ⟨⟨5, by omega, rfl, rfl, B5⟩, rfl⟩
        · have HB := Lib.hid hB
          clear hB
          go_wp2_with fail
          refine (table29 _).mono ?_
          rintro e w2 ⟨s, hsS, rfl, T2, hb2⟩
          have B2 : Below X.heap.size X w2 := HB.out.trans (hb2.mono hBs)
          have hX2 : X.heap.size ≤ w2.heap.size := B2.size
          have q0 : s + 1 + 1 + 1 < w2.heap.size := by have := T2.sz; omega
          have q2 : s + 1 + 1 < w2.heap.size := by omega
          have q7 : s + 1 < w2.heap.size := by omega
          have hXs : X.heap.size ≤ s := Nat.le_trans hBs hsS
          clear HB hb2 hsS
          have q1 : w2.frozen? ⟨s + 1 + 1 + 1, 4, none⟩ = false := (cell_in T2.b (i := 4) (by decide)).2
          have q6 : w2.cell? ⟨s + 1 + 1 + 1, 4, none⟩ = some (.int .i64 25) := by simp [World.cell?, T2.b]
          go_wp2_with fail
          obtain ⟨Y, hY⟩ : ∃ Y, Y = (w2.setCell ⟨s + 1 + 1 + 1, 4, none⟩ (.int .i64 121)).alloc (.cells #[.slice (some ⟨s + 1, 0, none⟩) 1 1, .slice (some ⟨s + 1 + 1, 0, none⟩) 2 2, .slice (some ⟨s + 1 + 1 + 1, 0, none⟩) 2 2, .int .i64 384, .int .i64 1200] 50) := ⟨_, rfl⟩
          have BY : Below X.heap.size X Y := by rw [hY]; exact ((B2.setCell (p := ⟨s + 1 + 1 + 1, 4, none⟩) (show X.heap.size ≤ s + 1 + 1 + 1 by omega) _).alloc (by simp [World.setCell]; omega) _)
          have t4 : Y.heap[w2.heap.size]? = some (.cells #[.slice (some ⟨s + 1, 0, none⟩) 1 1, .slice (some ⟨s + 1 + 1, 0, none⟩) 2 2, .slice (some ⟨s + 1 + 1 + 1, 0, none⟩) 2 2, .int .i64 384, .int .i64 1200] 50 (0, 0)) := by rw [hY]; exact heap_alloc_at _ _ _ (by simp [World.setCell])
          have lY : w2.heap.size < Y.heap.size := by rw [hY]; simp [World.setCell]
          have yf : Y.heap[s + 1]? = some (.cells #[.int .i64 10000] 3 (0, 0)) := by rw [hY]; exact (heap_alloc_past _ _ _ (by simp [World.setCell]; omega)).trans (by simp [World.setCell, Array.getElem?_modify, T2.f])
          have lf : s + 1 < Y.heap.size := by omega
          have ya : Y.heap[s + 1 + 1]? = some (.cells #[.int .i64 20, .int .i64 10, .int .i64 800, .int .i64 20, .int .i64 40, .int .i64 30, .int .i64 1200, .int .i64 40] 27 (0, 0)) := by rw [hY]; exact (heap_alloc_past _ _ _ (by simp [World.setCell]; omega)).trans (by simp [World.setCell, Array.getElem?_modify, T2.a])
          have yb : Y.heap[s + 1 + 1 + 1]? = some (.cells #[.int .i64 10, .int .i64 5, .int .i64 400, .int .i64 10, .int .i64 121, .int .i64 15, .int .i64 600, .int .i64 25] 27 (0, 0)) := by rw [hY]; exact (heap_alloc_past _ _ _ (by simp [World.setCell]; omega)).trans (by simp [World.setCell, Array.getElem?_modify, T2.b])
          have if0 := Is.lit (k := .i64) (xs := [10000]) (B := Y.heap.size) yf lf
          have ia0 := Is.lit (k := .i64) (xs := [20, 10, 800, 20, 40, 30, 1200, 40]) (B := Y.heap.size) ya (by omega)
          have ib0 := Is.lit (k := .i64) (xs := [10, 5, 400, 10, 121, 15, 600, 25]) (B := Y.heap.size) yb (by omega)
          obtain ⟨K1, K2, K3⟩ := bad3 (some ⟨s + 1, 0, none⟩) (some ⟨s + 1 + 1, 0, none⟩) (some ⟨s + 1 + 1 + 1, 0, none⟩) 1 2 2 2 2 [10000] [20, 10, 800, 20, 40, 30, 1200, 40] [10, 5, 400, 10, 121, 15, 600, 25] 384 1200 1 (by decide) (by decide +kernel) Y if0 ia0 ib0 rfl rfl (by decide) (by decide) (by decide)
          replace K2 := Lib.hid K2
          replace K3 := Lib.hid K3
          rw [← hY]
          clear hY yf ya yb if0 ia0 ib0 lf
          have hXY : X.heap.size ≤ Y.heap.size := BY.size
          refine K1.mono ?_
          rintro e w3 ⟨rfl, hb3⟩
          have t3 := (hb3.block _ lY).trans t4
          have c0 := (cell5 t3).1
          have c1 := (cell5 t3).2.1
          have c2 := (cell5 t3).2.2.1
          have c3 := (cell5 t3).2.2.2.1
          have c5 := (cell5 t3).2.2.2.2.1
          have l3 : w2.heap.size < w3.heap.size := Nat.lt_of_lt_of_le lY hb3.size
          clear t4 K1
          have H3 := Lib.hid t3
          clear t3
          go_wp2_with fail
          refine (K2.out _ hb3).mono ?_
          rintro e w4 ⟨rfl, hb4⟩
          have t4 := (hb4.block _ l3).trans H3.out
          replace c0 := (cell5 t4).1
          replace c1 := (cell5 t4).2.1
          replace c2 := (cell5 t4).2.2.1
          replace c3 := (cell5 t4).2.2.2.1
          replace c5 := (cell5 t4).2.2.2.2.1
          clear t4
          go_wp2_with fail
          refine (K3.out _ (hb3.trans (hb4.mono hb3.size))).mono ?_
          rintro e w5 ⟨rfl, hb5⟩
          have B5 : Below X.heap.size X w5 := BY.trans ((hb3.mono hXY).trans ((hb4.mono (Nat.le_trans hXY hb3.size)).trans (hb5.mono (Nat.le_trans hXY (Nat.le_trans hb3.size hb4.size)))))
          clear c0 c1 c2 c3 c5 hb3 hb4 hb5 K2 K3 H3
          go_wp2_with fail
          refine ⟨?_, by simp [intOf]⟩
          (repeat apply Exists.intro)
          exact ⟨⟨6, by omega, rfl, rfl, B5⟩, rfl⟩
        · have HB := Lib.hid hB
          clear hB
          go_wp2_with fail
          refine (table29 _).mono ?_
          rintro e w2 ⟨s, hsS, rfl, T2, hb2⟩
          have B2 : Below X.heap.size X w2 := HB.out.trans (hb2.mono hBs)
          have hX2 : X.heap.size ≤ w2.heap.size := B2.size
          have q0 : s + 1 + 1 + 1 < w2.heap.size := by have := T2.sz; omega
          have q2 : s + 1 + 1 < w2.heap.size := by omega
          have q7 : s + 1 < w2.heap.size := by omega
          have hXs : X.heap.size ≤ s := Nat.le_trans hBs hsS
          clear HB hb2 hsS
          have q1 : w2.frozen? ⟨s + 1 + 1, 1, none⟩ = false := (cell_in T2.a (i := 1) (by decide)).2
          have q6 : w2.cell? ⟨s + 1 + 1, 1, none⟩ = some (.int .i64 10) := by simp [World.cell?, T2.a]
          go_wp2_with fail
          obtain ⟨Y, hY⟩ : ∃ Y, Y = (w2.setCell ⟨s + 1 + 1, 1, none⟩ (.int .i64 1025)).alloc (.cells #[.slice (some ⟨s + 1, 0, none⟩) 1 1, .slice (some ⟨s + 1 + 1, 0, none⟩) 2 2, .slice (some ⟨s + 1 + 1 + 1, 0, none⟩) 2 2, .int .i64 384, .int .i64 1200] 50) := ⟨_, rfl⟩
          have BY : Below X.heap.size X Y := by rw [hY]; exact ((B2.setCell (p := ⟨s + 1 + 1, 1, none⟩) (show X.heap.size ≤ s + 1 + 1 by omega) _).alloc (by simp [World.setCell]; omega) _)
          have t4 : Y.heap[w2.heap.size]? = some (.cells #[.slice (some ⟨s + 1, 0, none⟩) 1 1, .slice (some ⟨s + 1 + 1, 0, none⟩) 2 2, .slice (some ⟨s + 1 + 1 + 1, 0, none⟩) 2 2, .int .i64 384, .int .i64 1200] 50 (0, 0)) := by rw [hY]; exact heap_alloc_at _ _ _ (by simp [World.setCell])
          have lY : w2.heap.size < Y.heap.size := by rw [hY]; simp [World.setCell]
          have yf : Y.heap[s + 1]? = some (.cells #[.int .i64 10000] 3 (0, 0)) := by rw [hY]; exact (heap_alloc_past _ _ _ (by simp [World.setCell]; omega)).trans (by simp [World.setCell, Array.getElem?_modify, T2.f])
          have lf : s + 1 < Y.heap.size := by omega
          have ya : Y.heap[s + 1 + 1]? = some (.cells #[.int .i64 20, .int .i64 1025, .int .i64 800, .int .i64 20, .int .i64 40, .int .i64 30, .int .i64 1200, .int .i64 40] 27 (0, 0)) := by rw [hY]; exact (heap_alloc_past _ _ _ (by simp [World.setCell]; omega)).trans (by simp [World.setCell, Array.getElem?_modify, T2.a])
          have yb : Y.heap[s + 1 + 1 + 1]? = some (.cells #[.int .i64 10, .int .i64 5, .int .i64 400, .int .i64 10, .int .i64 25, .int .i64 15, .int .i64 600, .int .i64 25] 27 (0, 0)) := by rw [hY]; exact (heap_alloc_past _ _ _ (by simp [World.setCell]; omega)).trans (by simp [World.setCell, Array.getElem?_modify, T2.b])
          have if0 := Is.lit (k := .i64) (xs := [10000]) (B := Y.heap.size) yf lf
          have ia0 := Is.lit (k := .i64) (xs := [20, 1025, 800, 20, 40, 30, 1200, 40]) (B := Y.heap.size) ya (by omega)
          have ib0 := Is.lit (k := .i64) (xs := [10, 5, 400, 10, 25, 15, 600, 25]) (B := Y.heap.size) yb (by omega)
          obtain ⟨K1, K2, K3⟩ := bad3 (some ⟨s + 1, 0, none⟩) (some ⟨s + 1 + 1, 0, none⟩) (some ⟨s + 1 + 1 + 1, 0, none⟩) 1 2 2 2 2 [10000] [20, 1025, 800, 20, 40, 30, 1200, 40] [10, 5, 400, 10, 25, 15, 600, 25] 384 1200 1 (by decide) (by decide +kernel) Y if0 ia0 ib0 rfl rfl (by decide) (by decide) (by decide)
          replace K2 := Lib.hid K2
          replace K3 := Lib.hid K3
          rw [← hY]
          clear hY yf ya yb if0 ia0 ib0 lf
          have hXY : X.heap.size ≤ Y.heap.size := BY.size
          refine K1.mono ?_
          rintro e w3 ⟨rfl, hb3⟩
          have t3 := (hb3.block _ lY).trans t4
          have c0 := (cell5 t3).1
          have c1 := (cell5 t3).2.1
          have c2 := (cell5 t3).2.2.1
          have c3 := (cell5 t3).2.2.2.1
          have c5 := (cell5 t3).2.2.2.2.1
          have l3 : w2.heap.size < w3.heap.size := Nat.lt_of_lt_of_le lY hb3.size
          clear t4 K1
          have H3 := Lib.hid t3
          clear t3
          go_wp2_with fail
          refine (K2.out _ hb3).mono ?_
          rintro e w4 ⟨rfl, hb4⟩
          have t4 := (hb4.block _ l3).trans H3.out
          replace c0 := (cell5 t4).1
          replace c1 := (cell5 t4).2.1
          replace c2 := (cell5 t4).2.2.1
          replace c3 := (cell5 t4).2.2.2.1
          replace c5 := (cell5 t4).2.2.2.2.1
          clear t4
          go_wp2_with fail
          refine (K3.out _ (hb3.trans (hb4.mono hb3.size))).mono ?_
          rintro e w5 ⟨rfl, hb5⟩
          have B5 : Below X.heap.size X w5 := BY.trans ((hb3.mono hXY).trans ((hb4.mono (Nat.le_trans hXY hb3.size)).trans (hb5.mono (Nat.le_trans hXY (Nat.le_trans hb3.size hb4.size)))))
          clear c0 c1 c2 c3 c5 hb3 hb4 hb5 K2 K3 H3
          go_wp2_with fail
          refine ⟨?_, by simp [intOf]⟩
          (repeat apply Exists.intro)
          exact ⟨⟨7, by omega, rfl, rfl, B5⟩, rfl⟩
        · have HB := Lib.hid hB
          clear hB
          go_wp2_with fail
          refine (table29 _).mono ?_
          rintro e w2 ⟨s, hsS, rfl, T2, hb2⟩
          have B2 : Below X.heap.size X w2 := HB.out.trans (hb2.mono hBs)
          have hX2 : X.heap.size ≤ w2.heap.size := B2.size
          have q0 : s + 1 + 1 + 1 < w2.heap.size := by have := T2.sz; omega
          have q2 : s + 1 + 1 < w2.heap.size := by omega
          have q7 : s + 1 < w2.heap.size := by omega
          have hXs : X.heap.size ≤ s := Nat.le_trans hBs hsS
          clear HB hb2 hsS
          go_wp2_with fail
          obtain ⟨Y, hY⟩ : ∃ Y, Y = w2.alloc (.cells #[.slice (some ⟨s + 1, 0, none⟩) 1 1, .slice (some ⟨s + 1 + 1, 0, none⟩) 2 2, .slice (some ⟨s + 1 + 1 + 1, 0, none⟩) 2 2, .int .i64 8193, .int .i64 1200] 50) := ⟨_, rfl⟩
          have BY : Below X.heap.size X Y := by rw [hY]; exact (B2.alloc hX2 _)
          have t4 : Y.heap[w2.heap.size]? = some (.cells #[.slice (some ⟨s + 1, 0, none⟩) 1 1, .slice (some ⟨s + 1 + 1, 0, none⟩) 2 2, .slice (some ⟨s + 1 + 1 + 1, 0, none⟩) 2 2, .int .i64 8193, .int .i64 1200] 50 (0, 0)) := by rw [hY]; exact heap_alloc_new _ _
          have lY : w2.heap.size < Y.heap.size := by rw [hY]; simp
          have yf : Y.heap[s + 1]? = some (.cells #[.int .i64 10000] 3 (0, 0)) := by rw [hY]; exact (heap_alloc_past _ _ _ (by first | omega | (simp; omega))).trans T2.f
          have lf : s + 1 < Y.heap.size := by omega
          have ya : Y.heap[s + 1 + 1]? = some (.cells #[.int .i64 20, .int .i64 10, .int .i64 800, .int .i64 20, .int .i64 40, .int .i64 30, .int .i64 1200, .int .i64 40] 27 (0, 0)) := by rw [hY]; exact (heap_alloc_past _ _ _ (by first | omega | (simp; omega))).trans T2.a
          have yb : Y.heap[s + 1 + 1 + 1]? = some (.cells #[.int .i64 10, .int .i64 5, .int .i64 400, .int .i64 10, .int .i64 25, .int .i64 15, .int .i64 600, .int .i64 25] 27 (0, 0)) := by rw [hY]; exact (heap_alloc_past _ _ _ (by first | omega | (simp; omega))).trans T2.b
          have if0 := Is.lit (k := .i64) (xs := [10000]) (B := Y.heap.size) yf lf
          have ia0 := Is.lit (k := .i64) (xs := [20, 10, 800, 20, 40, 30, 1200, 40]) (B := Y.heap.size) ya (by omega)
          have ib0 := Is.lit (k := .i64) (xs := [10, 5, 400, 10, 25, 15, 600, 25]) (B := Y.heap.size) yb (by omega)
          obtain ⟨K1, K2, K3⟩ := bad3 (some ⟨s + 1, 0, none⟩) (some ⟨s + 1 + 1, 0, none⟩) (some ⟨s + 1 + 1 + 1, 0, none⟩) 1 2 2 2 2 [10000] [20, 10, 800, 20, 40, 30, 1200, 40] [10, 5, 400, 10, 25, 15, 600, 25] 8193 1200 1 (by decide) (by decide +kernel) Y if0 ia0 ib0 rfl rfl (by decide) (by decide) (by decide)
          replace K2 := Lib.hid K2
          replace K3 := Lib.hid K3
          rw [← hY]
          clear hY yf ya yb if0 ia0 ib0 lf
          have hXY : X.heap.size ≤ Y.heap.size := BY.size
          refine K1.mono ?_
          rintro e w3 ⟨rfl, hb3⟩
          have t3 := (hb3.block _ lY).trans t4
          have c0 := (cell5 t3).1
          have c1 := (cell5 t3).2.1
          have c2 := (cell5 t3).2.2.1
          have c3 := (cell5 t3).2.2.2.1
          have c5 := (cell5 t3).2.2.2.2.1
          have l3 : w2.heap.size < w3.heap.size := Nat.lt_of_lt_of_le lY hb3.size
          clear t4 K1
          have H3 := Lib.hid t3
          clear t3
          go_wp2_with fail
          refine (K2.out _ hb3).mono ?_
          rintro e w4 ⟨rfl, hb4⟩
          have t4 := (hb4.block _ l3).trans H3.out
          replace c0 := (cell5 t4).1
          replace c1 := (cell5 t4).2.1
          replace c2 := (cell5 t4).2.2.1
          replace c3 := (cell5 t4).2.2.2.1
          replace c5 := (cell5 t4).2.2.2.2.1
          clear t4
          go_wp2_with fail
          refine (K3.out _ (hb3.trans (hb4.mono hb3.size))).mono ?_
          rintro e w5 ⟨rfl, hb5⟩
          have B5 : Below X.heap.size X w5 := BY.trans ((hb3.mono hXY).trans ((hb4.mono (Nat.le_trans hXY hb3.size)).trans (hb5.mono (Nat.le_trans hXY (Nat.le_trans hb3.size hb4.size)))))
          clear c0 c1 c2 c3 c5 hb3 hb4 hb5 K2 K3 H3
          go_wp2_with fail
          refine ⟨?_, by simp [intOf]⟩
          (repeat apply Exists.intro)
          exact ⟨⟨8, by omega, rfl, rfl, B5⟩, rfl⟩
        · have HB := Lib.hid hB
          clear hB
          go_wp2_with fail
          refine (table29 _).mono ?_
          rintro e w2 ⟨s, hsS, rfl, T2, hb2⟩
          have B2 : Below X.heap.size X w2 := HB.out.trans (hb2.mono hBs)
          have hX2 : X.heap.size ≤ w2.heap.size := B2.size
          have q0 : s + 1 + 1 + 1 < w2.heap.size := by have := T2.sz; omega
          have q2 : s + 1 + 1 < w2.heap.size := by omega
          have q7 : s + 1 < w2.heap.size := by omega
          have hXs : X.heap.size ≤ s := Nat.le_trans hBs hsS
          clear HB hb2 hsS
          go_wp2_with fail
          obtain ⟨Y, hY⟩ : ∃ Y, Y = w2.alloc (.cells #[.slice (some ⟨s + 1, 0, none⟩) 1 1, .slice (some ⟨s + 1 + 1, 0, none⟩) 2 2, .slice (some ⟨s + 1 + 1 + 1, 0, none⟩) 2 2, .int .i64 384, .int .i64 (-1)] 50) := ⟨_, rfl⟩
          have BY : Below X.heap.size X Y := by rw [hY]; exact (B2.alloc hX2 _)
          have t4 : Y.heap[w2.heap.size]? = some (.cells #[.slice (some ⟨s + 1, 0, none⟩) 1 1, .slice (some ⟨s + 1 + 1, 0, none⟩) 2 2, .slice (some ⟨s + 1 + 1 + 1, 0, none⟩) 2 2, .int .i64 384, .int .i64 (-1)] 50 (0, 0)) := by rw [hY]; exact heap_alloc_new _ _
          have lY : w2.heap.size < Y.heap.size := by rw [hY]; simp
          have yf : Y.heap[s + 1]? = some (.cells #[.int .i64 10000] 3 (0, 0)) := by rw [hY]; exact (heap_alloc_past _ _ _ (by first | omega | (simp; omega))).trans T2.f
          have lf : s + 1 < Y.heap.size := by omega
          have ya : Y.heap[s + 1 + 1]? = some (.cells #[.int .i64 20, .int .i64 10, .int .i64 800, .int .i64 20, .int .i64 40, .int .i64 30, .int .i64 1200, .int .i64 40] 27 (0, 0)) := by rw [hY]; exact (heap_alloc_past _ _ _ (by first | omega | (simp; omega))).trans T2.a
          have yb : Y.heap[s + 1 + 1 + 1]? = some (.cells #[.int .i64 10, .int .i64 5, .int .i64 400, .int .i64 10, .int .i64 25, .int .i64 15, .int .i64 600, .int .i64 25] 27 (0, 0)) := by rw [hY]; exact (heap_alloc_past _ _ _ (by first | omega | (simp; omega))).trans T2.b
          have if0 := Is.lit (k := .i64) (xs := [10000]) (B := Y.heap.size) yf lf
          have ia0 := Is.lit (k := .i64) (xs := [20, 10, 800, 20, 40, 30, 1200, 40]) (B := Y.heap.size) ya (by omega)
          have ib0 := Is.lit (k := .i64) (xs := [10, 5, 400, 10, 25, 15, 600, 25]) (B := Y.heap.size) yb (by omega)
          obtain ⟨K1, K2, K3⟩ := bad3 (some ⟨s + 1, 0, none⟩) (some ⟨s + 1 + 1, 0, none⟩) (some ⟨s + 1 + 1 + 1, 0, none⟩) 1 2 2 2 2 [10000] [20, 10, 800, 20, 40, 30, 1200, 40] [10, 5, 400, 10, 25, 15, 600, 25] 384 (-1) 1 (by decide) (by decide +kernel) Y if0 ia0 ib0 rfl rfl (by decide) (by decide) (by decide)
          replace K2 := Lib.hid K2
          replace K3 := Lib.hid K3
          rw [← hY]
          clear hY yf ya yb if0 ia0 ib0 lf
          have hXY : X.heap.size ≤ Y.heap.size := BY.size
          refine K1.mono ?_
          rintro e w3 ⟨rfl, hb3⟩
          have t3 := (hb3.block _ lY).trans t4
          have c0 := (cell5 t3).1
          have c1 := (cell5 t3).2.1
          have c2 := (cell5 t3).2.2.1
          have c3 := (cell5 t3).2.2.2.1
          have c5 := (cell5 t3).2.2.2.2.1
          have l3 : w2.heap.size < w3.heap.size := Nat.lt_of_lt_of_le lY hb3.size
          clear t4 K1
          have H3 := Lib.hid t3
          clear t3
          go_wp2_with fail
          refine (K2.out _ hb3).mono ?_
          rintro e w4 ⟨rfl, hb4⟩
          have t4 := (hb4.block _ l3).trans H3.out
          replace c0 := (cell5 t4).1
          replace c1 := (cell5 t4).2.1
          replace c2 := (cell5 t4).2.2.1
          replace c3 := (cell5 t4).2.2.2.1
          replace c5 := (cell5 t4).2.2.2.2.1
          clear t4
          go_wp2_with fail
          refine (K3.out _ (hb3.trans (hb4.mono hb3.size))).mono ?_
          rintro e w5 ⟨rfl, hb5⟩
          have B5 : Below X.heap.size X w5 := BY.trans ((hb3.mono hXY).trans ((hb4.mono (Nat.le_trans hXY hb3.size)).trans (hb5.mono (Nat.le_trans hXY (Nat.le_trans hb3.size hb4.size)))))
          clear c0 c1 c2 c3 c5 hb3 hb4 hb5 K2 K3 H3
          go_wp2_with fail
          refine ⟨?_, by simp [intOf]⟩
          (repeat apply Exists.intro)
          exact ⟨⟨9, by omega, rfl, rfl, B5⟩, rfl⟩
        · have HB := Lib.hid hB
          clear hB
          go_wp2_with fail
          obtain ⟨Y, hY⟩ : ∃ Y, Y = wr.alloc (.cells #[.int .i64 1, .int .i64 0, .int .i64 1] 23) := ⟨_, rfl⟩
          obtain ⟨q, hq⟩ : ∃ q, q = wr.heap.size := ⟨_, rfl⟩
          have a0 : Y.cell? ⟨q, 0, none⟩ = some (.int .i64 1) := by rw [hY, hq]; exact World.cell?_alloc_at _ _ _ _ (by simp)
          have a1 : Y.cell? ⟨q, 1, none⟩ = some (.int .i64 0) := by rw [hY, hq]; exact World.cell?_alloc_at _ _ _ _ (by simp)
          have a2 : Y.cell? ⟨q, 2, none⟩ = some (.int .i64 1) := by rw [hY, hq]; exact World.cell?_alloc_at _ _ _ _ (by simp)
          have BY : Below X.heap.size X Y := by rw [hY]; exact HB.out.alloc hBs _
          have zY : q < Y.heap.size := by rw [hY, hq]; simp
          rw [← hY, ← hq]
          clear hY hq HB
          refine (table29 _).mono ?_
          rintro e v1 ⟨s, -, rfl, T, h1⟩
          have Bv1 : Below X.heap.size X v1 := BY.trans (h1.mono BY.size)
          have zv1 : q < v1.heap.size := Nat.lt_of_lt_of_le zY h1.size
          have av10 := (h1.cell (p := ⟨q, 0, none⟩) zY).trans a0
          have av11 := (h1.cell (p := ⟨q, 1, none⟩) zY).trans a1
          have av12 := (h1.cell (p := ⟨q, 2, none⟩) zY).trans a2
          clear h1 BY a0 a1 a2
          clear zY
          go_wp2_with fail
          refine (exIx T 50001 0 1 (by decide +kernel)).mono ?_
          rintro e v2 ⟨rfl, h2⟩
          have Bv2 : Below X.heap.size X v2 := Bv1.trans (h2.mono Bv1.size)
          have zv2 : q < v2.heap.size := Nat.lt_of_lt_of_le zv1 h2.size
          have av20 := (h2.cell (p := ⟨q, 0, none⟩) zv1).trans av10
          have av21 := (h2.cell (p := ⟨q, 1, none⟩) zv1).trans av11
          have av22 := (h2.cell (p := ⟨q, 2, none⟩) zv1).trans av12
          clear h2 Bv1 av10 av11 av12
          clear zv1
          go_wp2_with fail
          clear T
          refine (time9' 0 0 0 (-1) (p := 0) (q := 0) (e := 1) (by decide +kernel) _).mono ?_
          rintro e v3 ⟨rfl, h3⟩
          have Bv3 : Below X.heap.size X v3 := Bv2.trans (h3.mono Bv2.size)
          have zv3 : q < v3.heap.size := Nat.lt_of_lt_of_le zv2 h3.size
          have av30 := (h3.cell (p := ⟨q, 0, none⟩) zv2).trans av20
          have av31 := (h3.cell (p := ⟨q, 1, none⟩) zv2).trans av21
          have av32 := (h3.cell (p := ⟨q, 2, none⟩) zv2).trans av22
          clear h3 Bv2 av20 av21 av22
          clear zv2
          go_wp2_with fail
          refine (time9' 1 0 1 8193 (p := 0) (q := 0) (e := 1) (by decide +kernel) _).mono ?_
          rintro e v4 ⟨rfl, h4⟩
          have Bv4 : Below X.heap.size X v4 := Bv3.trans (h4.mono Bv3.size)
          have zv4 : q < v4.heap.size := Nat.lt_of_lt_of_le zv3 h4.size
          have av40 := (h4.cell (p := ⟨q, 0, none⟩) zv3).trans av30
          have av41 := (h4.cell (p := ⟨q, 1, none⟩) zv3).trans av31
          have av42 := (h4.cell (p := ⟨q, 2, none⟩) zv3).trans av32
          clear h4 Bv3 av30 av31 av32
          clear zv3
          go_wp2_with fail
          refine (horiz11' 0 0 0 0 0 0 0 (b := false) (e := 1) (by decide +kernel) (by decide +kernel) _).mono ?_
          rintro e v5 ⟨rfl, h5⟩
          have Bv5 : Below X.heap.size X v5 := Bv4.trans (h5.mono Bv4.size)
          have zv5 : q < v5.heap.size := Nat.lt_of_lt_of_le zv4 h5.size
          have av50 := (h5.cell (p := ⟨q, 0, none⟩) zv4).trans av40
          have av51 := (h5.cell (p := ⟨q, 1, none⟩) zv4).trans av41
          have av52 := (h5.cell (p := ⟨q, 2, none⟩) zv4).trans av42
          clear h5 Bv4 av40 av41 av42
          clear zv4
          go_wp2_with fail
          refine (horiz11' 1 0 1 0 0 10001 0 (b := false) (e := 1) (by decide +kernel) (by decide +kernel) _).mono ?_
          rintro e v6 ⟨rfl, h6⟩
          have Bv6 : Below X.heap.size X v6 := Bv5.trans (h6.mono Bv5.size)
          have zv6 : q < v6.heap.size := Nat.lt_of_lt_of_le zv5 h6.size
          have av60 := (h6.cell (p := ⟨q, 0, none⟩) zv5).trans av50
          have av61 := (h6.cell (p := ⟨q, 1, none⟩) zv5).trans av51
          have av62 := (h6.cell (p := ⟨q, 2, none⟩) zv5).trans av52
          clear h6 Bv5 av50 av51 av52
          clear zv5
          go_wp2_with fail
          refine (vert13' 51001 0 0 0 0 0 (b := false) (e := 1) (by decide +kernel) (by decide +kernel) _).mono ?_
          rintro e v7 ⟨rfl, h7⟩
          have Bv7 : Below X.heap.size X v7 := Bv6.trans (h7.mono Bv6.size)
          have zv7 : q < v7.heap.size := Nat.lt_of_lt_of_le zv6 h7.size
          have av70 := (h7.cell (p := ⟨q, 0, none⟩) zv6).trans av60
          have av71 := (h7.cell (p := ⟨q, 1, none⟩) zv6).trans av61
          have av72 := (h7.cell (p := ⟨q, 2, none⟩) zv6).trans av62
          clear h7 Bv6 av60 av61 av62
          clear zv6
          go_wp2_with fail
          refine (vert13' 0 (-201) 0 0 0 0 (b := false) (e := 1) (by decide +kernel) (by decide +kernel) _).mono ?_
          rintro e v8 ⟨rfl, h8⟩
          have Bv8 : Below X.heap.size X v8 := Bv7.trans (h8.mono Bv7.size)
          have zv8 : q < v8.heap.size := Nat.lt_of_lt_of_le zv7 h8.size
          have av80 := (h8.cell (p := ⟨q, 0, none⟩) zv7).trans av70
          have av81 := (h8.cell (p := ⟨q, 1, none⟩) zv7).trans av71
          have av82 := (h8.cell (p := ⟨q, 2, none⟩) zv7).trans av72
          clear h8 Bv7 av70 av71 av72
          clear zv7
          go_wp2_with fail
          refine (vert13' 0 0 0 0 0 121 (b := false) (e := 1) (by decide +kernel) (by decide +kernel) _).mono ?_
          rintro e v9 ⟨rfl, h9⟩
          have Bv9 : Below X.heap.size X v9 := Bv8.trans (h9.mono Bv8.size)
          have zv9 : q < v9.heap.size := Nat.lt_of_lt_of_le zv8 h9.size
          have av90 := (h9.cell (p := ⟨q, 0, none⟩) zv8).trans av80
          have av91 := (h9.cell (p := ⟨q, 1, none⟩) zv8).trans av81
          have av92 := (h9.cell (p := ⟨q, 2, none⟩) zv8).trans av82
          clear h9 Bv8 av80 av81 av82
          clear zv8
          go_wp2_with fail
          refine (table29 _).mono ?_
          rintro e v10 ⟨s2, -, rfl, T2, h10⟩
          have Bv10 : Below X.heap.size X v10 := Bv9.trans (h10.mono Bv9.size)
          have zv10 : q < v10.heap.size := Nat.lt_of_lt_of_le zv9 h10.size
          have av100 := (h10.cell (p := ⟨q, 0, none⟩) zv9).trans av90
          have av101 := (h10.cell (p := ⟨q, 1, none⟩) zv9).trans av91
          have av102 := (h10.cell (p := ⟨q, 2, none⟩) zv9).trans av92
          clear h10 Bv9 av90 av91 av92
          clear zv9
          go_wp2_with fail
          refine (exCl T2 0 0 0 0 0 0 0 1 (by decide +kernel)).mono ?_
          rintro e v11 ⟨rfl, h11⟩
          have Bv11 : Below X.heap.size X v11 := Bv10.trans (h11.mono Bv10.size)
          have zv11 : q < v11.heap.size := Nat.lt_of_lt_of_le zv10 h11.size
          have av110 := (h11.cell (p := ⟨q, 0, none⟩) zv10).trans av100
          have av111 := (h11.cell (p := ⟨q, 1, none⟩) zv10).trans av101
          have av112 := (h11.cell (p := ⟨q, 2, none⟩) zv10).trans av102
          clear h11 Bv10 av100 av101 av102
          clear zv10
          go_wp2_with fail
          clear T2
          have B0 := Bv11
          have z0 := zv11
          have b0 := av110
          have b1 := av111
          have b2 := av112
          clear Bv11 zv11 av110 av111 av112
          go_region_held3 (fun w' => w'.cell? ⟨q, 0, none⟩ = some (.int .i64 1) ∧ w'.cell? ⟨q, 1, none⟩ = some (.int .i64 0) ∧ w'.cell? ⟨q, 2, none⟩ = some (.int .i64 1)) (first | exact ⟨b0, b1, b2⟩ | exact ⟨d0, d1, d2⟩ | exact ⟨e0, e1, e2⟩) (first
            | ((with_reducible refine (table29 _).mono ?_); rintro e y2 ⟨s3, hs3, rfl, T3, hy2⟩; have z2 : q < y2.heap.size := Nat.lt_of_lt_of_le z0 hy2.size; have d0 := (hy2.cell (p := ⟨q, 0, none⟩) z0).trans b0; have d1 := (hy2.cell (p := ⟨q, 1, none⟩) z0).trans b1; have d2 := (hy2.cell (p := ⟨q, 2, none⟩) z0).trans b2; have KC := Lib.hid (exCl T3 0 1 0 1 (-51001) 0 0 1 (by decide +kernel)); clear T3)
            | ((with_reducible refine KC.out.mono ?_); rintro e y3 ⟨rfl, hy3⟩; have e0 := (hy3.cell (p := ⟨q, 0, none⟩) z2).trans d0; have e1 := (hy3.cell (p := ⟨q, 1, none⟩) z2).trans d1; have e2 := (hy3.cell (p := ⟨q, 2, none⟩) z2).trans d2))
          have By3 : Below X.heap.size X y3 := B0.drew.trans ((hy2.mono B0.size).trans (hy3.mono (Nat.le_trans B0.size hy2.size)))
          have zy3 : q < y3.heap.size := Nat.lt_of_lt_of_le z2 hy3.size
          have ay30 := e0
          have ay31 := e1
          have ay32 := e2
          clear d0 d1 d2 e0 e1 e2 b0 b1 b2 hy2 hy3 z2 z0 KC B0
          go_wp2_with fail
          refine (hold16' 4 (-1) 0 0 (x := 0) (y := 0) (e := 6) (by decide +kernel) _).mono ?_
          rintro e v12 ⟨rfl, h12⟩
          have Bv12 : Below X.heap.size X v12 := By3.trans (h12.mono By3.size)
          have zv12 : q < v12.heap.size := Nat.lt_of_lt_of_le zy3 h12.size
          have av120 := (h12.cell (p := ⟨q, 0, none⟩) zy3).trans ay30
          have av121 := (h12.cell (p := ⟨q, 1, none⟩) zy3).trans ay31
          have av122 := (h12.cell (p := ⟨q, 2, none⟩) zy3).trans ay32
          clear h12 By3 ay30 ay31 ay32
          clear zy3
          go_wp2_with fail
          obtain ⟨A12, hA⟩ : ∃ A, A = v12.alloc (.cells #[.int .u8 0, .int .i64 0] 41) := ⟨_, rfl⟩
          have BA12 : Below X.heap.size X A12 := by rw [hA]; exact Bv12.alloc Bv12.size _
          have zA12 : q < A12.heap.size := by rw [hA]; simp; omega
          have aA120 : A12.cell? ⟨q, 0, none⟩ = some (.int .i64 1) := by rw [hA]; exact (((Below.refl v12.heap.size v12).alloc (Nat.le_refl _) _).cell (p := ⟨q, 0, none⟩) zv12).trans av120
          have aA121 : A12.cell? ⟨q, 1, none⟩ = some (.int .i64 0) := by rw [hA]; exact (((Below.refl v12.heap.size v12).alloc (Nat.le_refl _) _).cell (p := ⟨q, 1, none⟩) zv12).trans av121
          have aA122 : A12.cell? ⟨q, 2, none⟩ = some (.int .i64 1) := by rw [hA]; exact (((Below.refl v12.heap.size v12).alloc (Nat.le_refl _) _).cell (p := ⟨q, 2, none⟩) zv12).trans av122
          rw [← hA]
          clear hA Bv12 zv12 av120 av121 av122
          refine (hold16' 0 0 4 0 (x := 0) (y := 0) (e := 6) (by decide +kernel) _).mono ?_
          rintro e v13 ⟨rfl, h13⟩
          have Bv13 : Below X.heap.size X v13 := BA12.trans (h13.mono BA12.size)
          have zv13 : q < v13.heap.size := Nat.lt_of_lt_of_le zA12 h13.size
          have av130 := (h13.cell (p := ⟨q, 0, none⟩) zA12).trans aA120
          have av131 := (h13.cell (p := ⟨q, 1, none⟩) zA12).trans aA121
          have av132 := (h13.cell (p := ⟨q, 2, none⟩) zA12).trans aA122
          clear h13 BA12 aA120 aA121 aA122
          clear zA12
          go_wp2_with fail
          obtain ⟨A13, hA⟩ : ∃ A, A = v13.alloc (.cells #[.int .u8 0, .int .i64 0] 41) := ⟨_, rfl⟩
          have BA13 : Below X.heap.size X A13 := by rw [hA]; exact Bv13.alloc Bv13.size _
          have zA13 : q < A13.heap.size := by rw [hA]; simp; omega
          have aA130 : A13.cell? ⟨q, 0, none⟩ = some (.int .i64 1) := by rw [hA]; exact (((Below.refl v13.heap.size v13).alloc (Nat.le_refl _) _).cell (p := ⟨q, 0, none⟩) zv13).trans av130
          have aA131 : A13.cell? ⟨q, 1, none⟩ = some (.int .i64 0) := by rw [hA]; exact (((Below.refl v13.heap.size v13).alloc (Nat.le_refl _) _).cell (p := ⟨q, 1, none⟩) zv13).trans av131
          have aA132 : A13.cell? ⟨q, 2, none⟩ = some (.int .i64 1) := by rw [hA]; exact (((Below.refl v13.heap.size v13).alloc (Nat.le_refl _) _).cell (p := ⟨q, 2, none⟩) zv13).trans av132
          rw [← hA]
          clear hA Bv13 zv13 av130 av131 av132
          refine (hold16' 0 61 0 0 (x := 0) (y := 0) (e := 1) (by decide +kernel) _).mono ?_
          rintro e v14 ⟨rfl, h14⟩
          have Bv14 : Below X.heap.size X v14 := BA13.trans (h14.mono BA13.size)
          have zv14 : q < v14.heap.size := Nat.lt_of_lt_of_le zA13 h14.size
          have av140 := (h14.cell (p := ⟨q, 0, none⟩) zA13).trans aA130
          have av141 := (h14.cell (p := ⟨q, 1, none⟩) zA13).trans aA131
          have av142 := (h14.cell (p := ⟨q, 2, none⟩) zA13).trans aA132
          clear h14 BA13 aA130 aA131 aA132
          clear zA13
          go_wp2_with fail
          obtain ⟨A14, hA⟩ : ∃ A, A = v14.alloc (.cells #[.int .u8 0, .int .i64 0] 41) := ⟨_, rfl⟩
          have BA14 : Below X.heap.size X A14 := by rw [hA]; exact Bv14.alloc Bv14.size _
          have zA14 : q < A14.heap.size := by rw [hA]; simp; omega
          have aA140 : A14.cell? ⟨q, 0, none⟩ = some (.int .i64 1) := by rw [hA]; exact (((Below.refl v14.heap.size v14).alloc (Nat.le_refl _) _).cell (p := ⟨q, 0, none⟩) zv14).trans av140
          have aA141 : A14.cell? ⟨q, 1, none⟩ = some (.int .i64 0) := by rw [hA]; exact (((Below.refl v14.heap.size v14).alloc (Nat.le_refl _) _).cell (p := ⟨q, 1, none⟩) zv14).trans av141
          have aA142 : A14.cell? ⟨q, 2, none⟩ = some (.int .i64 1) := by rw [hA]; exact (((Below.refl v14.heap.size v14).alloc (Nat.le_refl _) _).cell (p := ⟨q, 2, none⟩) zv14).trans av142
          rw [← hA]
          clear hA Bv14 zv14 av140 av141 av142
          refine (hold16' 0 0 0 61 (x := 0) (y := 0) (e := 1) (by decide +kernel) _).mono ?_
          rintro e v15 ⟨rfl, h15⟩
          have Bv15 : Below X.heap.size X v15 := BA14.trans (h15.mono BA14.size)
          have zv15 : q < v15.heap.size := Nat.lt_of_lt_of_le zA14 h15.size
          have av150 := (h15.cell (p := ⟨q, 0, none⟩) zA14).trans aA140
          have av151 := (h15.cell (p := ⟨q, 1, none⟩) zA14).trans aA141
          have av152 := (h15.cell (p := ⟨q, 2, none⟩) zA14).trans aA142
          clear h15 BA14 aA140 aA141 aA142
          clear zA14
          go_wp2_with fail
          obtain ⟨A15, hA⟩ : ∃ A, A = v15.alloc (.cells #[.int .u8 0, .int .i64 0] 41) := ⟨_, rfl⟩
          have BA15 : Below X.heap.size X A15 := by rw [hA]; exact Bv15.alloc Bv15.size _
          have zA15 : q < A15.heap.size := by rw [hA]; simp; omega
          have aA150 : A15.cell? ⟨q, 0, none⟩ = some (.int .i64 1) := by rw [hA]; exact (((Below.refl v15.heap.size v15).alloc (Nat.le_refl _) _).cell (p := ⟨q, 0, none⟩) zv15).trans av150
          have aA151 : A15.cell? ⟨q, 1, none⟩ = some (.int .i64 0) := by rw [hA]; exact (((Below.refl v15.heap.size v15).alloc (Nat.le_refl _) _).cell (p := ⟨q, 1, none⟩) zv15).trans av151
          have aA152 : A15.cell? ⟨q, 2, none⟩ = some (.int .i64 1) := by rw [hA]; exact (((Below.refl v15.heap.size v15).alloc (Nat.le_refl _) _).cell (p := ⟨q, 2, none⟩) zv15).trans av152
          rw [← hA]
          clear hA Bv15 zv15 av150 av151 av152
          refine (timed30 2097152 (-1) 1 8191 16383 32 tm30 _).mono ?_
          rintro e v16 ⟨rfl, h16⟩
          have Bv16 : Below X.heap.size X v16 := BA15.trans (h16.mono BA15.size)
          have zv16 : q < v16.heap.size := Nat.lt_of_lt_of_le zA15 h16.size
          have av160 := (h16.cell (p := ⟨q, 0, none⟩) zA15).trans aA150
          have av161 := (h16.cell (p := ⟨q, 1, none⟩) zA15).trans aA151
          have av162 := (h16.cell (p := ⟨q, 2, none⟩) zA15).trans aA152
          clear h16 BA15 aA150 aA151 aA152
          clear zA15
          go_wp2_with fail
          go_ret
          exact ⟨rfl, BX.trans (Bv16.mono sw)⟩
end Go.Proofs.Ytbonniladhablaa
