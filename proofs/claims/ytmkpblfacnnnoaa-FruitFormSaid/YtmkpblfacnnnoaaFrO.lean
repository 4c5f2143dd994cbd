/- The laws of chapter 12: matches, and the values of the chapter's examples. -/
import Derived.Test.YtmkpblfacnnnoaaFrK
namespace Go.Proofs.Ytmkpblfacnnnoaa
open Go.RowKit
attribute [local go_sem ↓] Go.wp_at_zero Go.wp_at_succ
attribute [local go_sem] wrap_lit

theorem heap_alloc_at (w : World) (o : Obj) (n : Nat) (h : n = w.heap.size) : (w.alloc o).heap[n]? = some o := by subst h; exact heap_alloc_new w o
theorem Is.lit {k : IntKind} {w : World} {B g : Nat} {T : TypeId} {xs : List Int} (h : w.heap[g]? = some (.cells (xs.map (Value.int k)).toArray T (0, 0))) (hg : g < B) : Is k w B (some ⟨g, 0, none⟩) xs := fun _ =>
  ⟨g, 0, rfl, hg, fun j hj => by simp [World.cell?, h, hj, nth, List.getD_eq_getElem?_getD]⟩
set_option maxHeartbeats 1000000 in
theorem matches30 (A A' A'' : Option Addr) (cap cap' cap'' : Nat) (a b : List Int) (u : Int) (l : List (Nat × Nat)) (B : Nat) (w : World) (hBw : B ≤ w.heap.size) (hA : Is .i64 w B A a) (hA' : Is .i64 w B A' b) (hA'' : Is .i64 w B A'' (flat l)) (hl : a.length ≤ 1000000) (hl' : b.length ≤ 1000000) (hE : mtE a b u = 0) (hL : mtL a b u = l) :
    Calls Try.prog 30 #[.slice A a.length cap, .slice A' b.length cap', .int .i64 u, .slice A'' l.length cap''] w fun e w' => e = .returned (.bool true) ∧ Below w.heap.size w w' := by
  have C := match13 A A' cap cap' a b u B w hBw hA hA' hl hl'
  have hl64 := mtL_64 a b u
  rw [hE, hL] at C
  rw [hL] at hl64
  have D := Lib.hid C
  have HA'' := Lib.hid hA''
  clear C hE hL hA hA' hA''
  go_enter Try.func30, Try.ntmps30
  go_wp2_with fail
  refine D.out.mono ?_
  rintro e w1 ⟨v, rfl, hv, hb1⟩
  obtain ⟨A3, cap3, rfl, hown⟩ := hv.own
  have E := equalPairs A3 A'' cap3 cap'' l l w1.heap.size w1 hown.is ((HA''.out.below (hb1.mono hBw)).mono (by have := hb1.size; omega)) (by omega)
  have HE := Lib.hid E
  have HB := Lib.hid hb1
  clear hv hown hb1 E
  go_wp2_with fail
  refine HE.out.mono ?_
  rintro e w2 ⟨rfl, n2, rfl⟩
  go_wp2_with fail
  go_ret
  exact ⟨by simp, below_drewN HB.out n2⟩

theorem exE1 : mtE [10, 20, 30] [12, 29, 50] 2 = 0 := by decide
theorem exL1 : mtL [10, 20, 30] [12, 29, 50] 2 = [(0, 0), (2, 1)] := by rw [mtL_ok exE1]; simp [gr, nth]
theorem exE2 : mtE [10, 11] [11, 12] 1 = 0 := by decide
theorem exL2 : mtL [10, 11] [11, 12] 1 = [(0, 0), (1, 1)] := by rw [mtL_ok exE2]; simp [gr, nth]
theorem exE3 : mtE [10, 11] [11, 12] 0 = 0 := by decide
theorem exL3 : mtL [10, 11] [11, 12] 0 = [(1, 0)] := by rw [mtL_ok exE3]; simp [gr, nth]
theorem exE4 : mtE [5, 5] [5] 0 = 0 := by decide
theorem exL4 : mtL [5, 5] [5] 0 = [(0, 0)] := by rw [mtL_ok exE4]; simp [gr, nth]
def X3 : List (List Int) := [[10, 40], [11, 70], [12, 71, 90]]
theorem exE5 : lfE X3 1 = 0 := by decide
theorem exL5 : lfL X3 1 = [3, 2, 1] := by
  rw [lfL_ok exE5]
  simp [X3, lfA, lfS, prv, row, lfP, gr, nth]
theorem exE6 : stE X3 1 2 = 0 := by decide
theorem exL6 : stL X3 1 2 = [0, 1] := by
  unfold stL
  rw [if_pos exE6, exL5]
  decide

theorem mX (xs ys : List Int) (l : List (Nat × Nat)) (u : Int) (W : World) (hE : mtE xs ys u = 0) (hL : mtL xs ys u = l) (hx : xs.length ≤ 1000000) (hy : ys.length ≤ 1000000) :
    Calls Try.prog 30 #[.slice (some ⟨W.heap.size, 0, none⟩) xs.length xs.length, .slice (some ⟨W.heap.size + 1, 0, none⟩) ys.length ys.length, .int .i64 u, .slice (some ⟨W.heap.size + 1 + 1, 0, none⟩) l.length l.length]
      (((W.alloc (.cells (xs.map (Value.int .i64)).toArray 3)).alloc (.cells (ys.map (Value.int .i64)).toArray 3)).alloc (.cells ((flat l).map (Value.int .i64)).toArray 46)) fun e w' => e = .returned (.bool true) ∧ Below W.heap.size W w' := by
  obtain ⟨w1, h1⟩ : ∃ w1, w1 = W.alloc (.cells (xs.map (Value.int .i64)).toArray 3) := ⟨_, rfl⟩
  obtain ⟨w2, h2⟩ : ∃ w2, w2 = w1.alloc (.cells (ys.map (Value.int .i64)).toArray 3) := ⟨_, rfl⟩
  obtain ⟨w3, h3⟩ : ∃ w3, w3 = w2.alloc (.cells ((flat l).map (Value.int .i64)).toArray 46) := ⟨_, rfl⟩
  rw [← h1, ← h2, ← h3]
  have s1 : w1.heap.size = W.heap.size + 1 := by rw [h1]; simp
  have s2 : w2.heap.size = W.heap.size + 1 + 1 := by rw [h2]; simp [s1]
  have s3 : w3.heap.size = W.heap.size + 1 + 1 + 1 := by rw [h3]; simp [s2]
  have e1 : w3.heap[W.heap.size]? = some (.cells (xs.map (Value.int .i64)).toArray 3 (0, 0)) := by
    rw [h3, Below.heap_alloc w2 _ _ (by omega), h2, Below.heap_alloc w1 _ _ (by omega), h1]; exact heap_alloc_new W _
  have e2 : w3.heap[W.heap.size + 1]? = some (.cells (ys.map (Value.int .i64)).toArray 3 (0, 0)) := by
    rw [h3, Below.heap_alloc w2 _ _ (by omega), h2, ← s1]; exact heap_alloc_new w1 _
  have e3 : w3.heap[W.heap.size + 1 + 1]? = some (.cells ((flat l).map (Value.int .i64)).toArray 46 (0, 0)) := by
    rw [h3, ← s2]; exact heap_alloc_new w2 _
  have hB : Below W.heap.size W w3 := by
    rw [h3, h2, h1]
    exact (((Below.refl _ _).alloc (Nat.le_refl _) _).alloc (by simp) _).alloc (by simp; omega) _
  exact (matches30 _ _ _ _ _ _ xs ys u l w3.heap.size w3 (Nat.le_refl _) (Is.lit e1 (by omega)) (Is.lit e2 (by omega)) (Is.lit e3 (by omega)) hx hy hE hL).mono fun e w' h => ⟨h.1, hB.trans (h.2.mono (by omega))⟩
/-- The three sweeps of the example lie at the blocks g0, g1, g2, their headers at g. -/
structure X3At (W : World) (g0 g1 g2 g : Nat) : Prop where
  h0 : W.heap[g0]? = some (.cells #[.int .i64 10, .int .i64 40] 3 (0, 0))
  h1 : W.heap[g1]? = some (.cells #[.int .i64 11, .int .i64 70] 3 (0, 0))
  h2 : W.heap[g2]? = some (.cells #[.int .i64 12, .int .i64 71, .int .i64 90] 3 (0, 0))
  h3 : W.heap[g]? = some (.cells #[.slice (some ⟨g0, 0, none⟩) 2 2, .slice (some ⟨g1, 0, none⟩) 2 2, .slice (some ⟨g2, 0, none⟩) 3 3] 22 (0, 0))
theorem X3At.ris {W : World} {g0 g1 g2 g : Nat} (h : X3At W g0 g1 g2 g) : RIs .i64 W W.heap.size (some ⟨g, 0, none⟩) X3 := fun _ => by
  refine ⟨g, 0, rfl, heap_lt h.h3, fun r hr => ?_⟩
  have hr' : r < 3 := hr
  rcases (by omega : r = 0 ∨ r = 1 ∨ r = 2) with rfl | rfl | rfl
  · exact ⟨_, 2, by simp [World.cell?, h.h3]; rfl, Is.lit (T := 3) h.h0 (heap_lt h.h0)⟩
  · exact ⟨_, 2, by simp [World.cell?, h.h3]; rfl, Is.lit (T := 3) h.h1 (heap_lt h.h1)⟩
  · exact ⟨_, 3, by simp [World.cell?, h.h3]; rfl, Is.lit (T := 3) h.h2 (heap_lt h.h2)⟩
theorem X3At.below {W W' : World} {g0 g1 g2 g : Nat} (h : X3At W g0 g1 g2 g) (hb : Below W.heap.size W W') : X3At W' g0 g1 g2 g :=
  ⟨(hb.block g0 (heap_lt h.h0)).trans h.h0, (hb.block g1 (heap_lt h.h1)).trans h.h1, (hb.block g2 (heap_lt h.h2)).trans h.h2, (hb.block g (heap_lt h.h3)).trans h.h3⟩
theorem lX {W : World} {g0 g1 g2 g : Nat} (h : X3At W g0 g1 g2 g) : Calls Try.prog 21 #[.slice (some ⟨g, 0, none⟩) 3 3, .int .i64 1] W (LfP W 0 [3, 2, 1]) := by
  have H := life21 (some ⟨g, 0, none⟩) 3 X3 1 W.heap.size W (Nat.le_refl _) h.ris (by decide) (fun r hr => by
    have hr' : r < 3 := hr
    rcases (by omega : r = 0 ∨ r = 1 ∨ r = 2) with rfl | rfl | rfl <;> decide)
  rw [exE5, exL5] at H
  exact H
theorem sX {W : World} {g0 g1 g2 g : Nat} (h : X3At W g0 g1 g2 g) : Calls Try.prog 23 #[.slice (some ⟨g, 0, none⟩) 3 3, .int .i64 1, .int .i64 2] W (StP W 0 [0, 1]) := by
  have H := steady23 (some ⟨g, 0, none⟩) 3 X3 1 2 W.heap.size W (Nat.le_refl _) h.ris (by decide) (fun r hr => by
    have hr' : r < 3 := hr
    rcases (by omega : r = 0 ∨ r = 1 ∨ r = 2) with rfl | rfl | rfl <;> decide)
  rw [exE6, exL6] at H
  exact H
theorem X3At.made (w : World) : X3At ((((w.alloc (.cells #[.int .i64 10, .int .i64 40] 3)).alloc (.cells #[.int .i64 11, .int .i64 70] 3)).alloc (.cells #[.int .i64 12, .int .i64 71, .int .i64 90] 3)).alloc
    (.cells #[.slice (some ⟨w.heap.size, 0, none⟩) 2 2, .slice (some ⟨w.heap.size + 1, 0, none⟩) 2 2, .slice (some ⟨w.heap.size + 1 + 1, 0, none⟩) 3 3] 22)) w.heap.size (w.heap.size + 1) (w.heap.size + 1 + 1) (w.heap.size + 1 + 1 + 1) := by
  refine ⟨?_, ?_, ?_, ?_⟩
  · rw [Below.heap_alloc _ _ _ (by simp <;> omega), Below.heap_alloc _ _ _ (by simp <;> omega), Below.heap_alloc _ _ _ (by simp)]; exact heap_alloc_new w _
  · rw [Below.heap_alloc _ _ _ (by simp <;> omega), Below.heap_alloc _ _ _ (by simp)]; exact heap_alloc_at _ _ _ (by simp)
  · rw [Below.heap_alloc _ _ _ (by simp)]; exact heap_alloc_at _ _ _ (by simp)
  · exact heap_alloc_at _ _ _ (by simp)

set_option maxRecDepth 100000 in
set_option maxHeartbeats 4000000 in
theorem awake11 (w : World) : Calls Try.prog 11 #[] w fun e w' => e = .returned (.bool true) ∧ Below w.heap.size w w' := by
  have X0 := X3At.made w
  go_enter Try.func11, Try.ntmps11
  go_wp2_with fail
  obtain ⟨W, hW⟩ : ∃ W, W = ((((w.alloc (.cells #[.int .i64 10, .int .i64 40] 3)).alloc (.cells #[.int .i64 11, .int .i64 70] 3)).alloc (.cells #[.int .i64 12, .int .i64 71, .int .i64 90] 3)).alloc
    (.cells #[.slice (some ⟨w.heap.size, 0, none⟩) 2 2, .slice (some ⟨w.heap.size + 1, 0, none⟩) 2 2, .slice (some ⟨w.heap.size + 1 + 1, 0, none⟩) 3 3] 22)) := ⟨_, rfl⟩
  have B0 : Below w.heap.size w W := by rw [hW]; exact ((((Below.refl _ _).alloc (Nat.le_refl _) _).alloc (by simp) _).alloc (by simp <;> omega) _).alloc (by simp <;> omega) _
  rw [← hW] at X0 ⊢
  clear hW
  refine (lX X0).mono ?_
  rintro e w1 ⟨A1, cap1, rfl, own1, hb1⟩
  have X1 := X0.below hb1
  have I1 := Lib.hid own1.is
  have B1 : Below w.heap.size w w1 := B0.trans (hb1.mono B0.size)
  clear own1 hb1 X0 B0
  go_wp2_with fail
  refine (sX X1).mono ?_
  rintro e w2 ⟨v2, rfl, hv2, hb2⟩
  obtain ⟨A2, cap2, rfl, own2⟩ := hv2.own
  have I1' := Lib.hid (I1.out.below hb2)
  have I2 := Lib.hid own2.is
  have B2 : Below w.heap.size w w2 := B1.trans (hb2.mono B1.size)
  have h12 := hb2.size
  clear own2 hb2 hv2 X1 I1 B1
  go_wp2_with fail
  refine (mX [10, 20, 30] [12, 29, 50] [(0, 0), (2, 1)] 2 w2 exE1 exL1 (by decide) (by decide)).mono ?_
  rintro e w3 ⟨rfl, hb3⟩
  have B3 : Below w.heap.size w w3 := B2.trans (hb3.mono B2.size)
  have hs3 := hb3.size
  have I1'3 := Lib.hid ((I1'.out.mono (by omega)).below hb3)
  have I2'3 := Lib.hid ((I2.out.mono (by omega)).below hb3)
  clear hb3
  go_wp2_with fail
  refine (mX [10, 11] [11, 12] [(0, 0), (1, 1)] 1 w3 exE2 exL2 (by decide) (by decide)).mono ?_
  rintro e w4 ⟨rfl, hb4⟩
  have B4 : Below w.heap.size w w4 := B3.trans (hb4.mono B3.size)
  have hs4 := hb4.size
  have I1'4 := Lib.hid ((I1'3.out.mono (by omega)).below hb4)
  have I2'4 := Lib.hid ((I2'3.out.mono (by omega)).below hb4)
  clear hb4
  go_wp2_with fail
  refine (mX [10, 11] [11, 12] [(1, 0)] 0 w4 exE3 exL3 (by decide) (by decide)).mono ?_
  rintro e w5 ⟨rfl, hb5⟩
  have B5 : Below w.heap.size w w5 := B4.trans (hb5.mono B4.size)
  have hs5 := hb5.size
  have I1'5 := Lib.hid ((I1'4.out.mono (by omega)).below hb5)
  have I2'5 := Lib.hid ((I2'4.out.mono (by omega)).below hb5)
  clear hb5
  go_wp2_with fail
  refine (mX [5, 5] [5] [(0, 0)] 0 w5 exE4 exL4 (by decide) (by decide)).mono ?_
  rintro e w6 ⟨rfl, hb6⟩
  have B6 : Below w.heap.size w w6 := B5.trans (hb6.mono B5.size)
  have hs6 := hb6.size
  have I1'6 := Lib.hid ((I1'5.out.mono (by omega)).below hb6)
  have I2'6 := Lib.hid ((I2'5.out.mono (by omega)).below hb6)
  clear hb6
  go_wp2_with fail
  obtain ⟨Y, hY⟩ : ∃ Y, Y = w6.alloc (.cells #[.int .i64 3, .int .i64 2, .int .i64 1] 3) := ⟨_, rfl⟩
  have y1 : Is .i64 Y Y.heap.size (some ⟨w6.heap.size, 0, none⟩) [3, 2, 1] := by rw [hY]; exact Is.lit (T := 3) (heap_alloc_new w6 _) (by simp)
  have yB : Below w6.heap.size w6 Y := by rw [hY]; exact (Below.refl _ _).alloc (Nat.le_refl _) _
  rw [← hY]
  clear hY
  have hsy := yB.size
  have E1 := equalInts A1 (some ⟨w6.heap.size, 0, none⟩) cap1 3 [3, 2, 1] [3, 2, 1] Y.heap.size Y ((I1'6.out.mono (by omega) : Is .i64 w6 w6.heap.size A1 [3, 2, 1]).below yB |>.mono (by omega)) y1 (by decide)
  have HE1 := Lib.hid E1
  have B7 : Below w.heap.size w Y := B6.trans (yB.mono B6.size)
  have I27 := Lib.hid ((I2'6.out.mono (by omega) : Is .i64 w6 w6.heap.size A2 [0, 1]).below yB)
  clear E1 y1 yB
  refine HE1.out.mono ?_
  rintro e w8 ⟨rfl, n8, rfl⟩
  go_wp2_with fail
  obtain ⟨V, hV⟩ : ∃ V, V = Y.drewN n8 := ⟨_, rfl⟩
  have hVs : V.heap.size = Y.heap.size := by rw [hV]; rfl
  have I28 : Is .i64 V w6.heap.size A2 [0, 1] := by rw [hV]; exact I27.out
  have B8 : Below w.heap.size w V := by rw [hV]; exact below_drewN B7 n8
  rw [← hVs]
  rw [← hV]
  clear hV
  obtain ⟨Z, hZ⟩ : ∃ Z, Z = V.alloc (.cells #[.int .i64 0, .int .i64 1] 3) := ⟨_, rfl⟩
  have z1 : Is .i64 Z Z.heap.size (some ⟨V.heap.size, 0, none⟩) [0, 1] := by rw [hZ]; exact Is.lit (T := 3) (heap_alloc_new V _) (by simp)
  have zB : Below V.heap.size V Z := by rw [hZ]; exact (Below.refl _ _).alloc (Nat.le_refl _) _
  rw [← hZ]
  clear hZ
  have hsz := zB.size
  have E2 := equalInts A2 (some ⟨V.heap.size, 0, none⟩) cap2 2 [0, 1] [0, 1] Z.heap.size Z (((I28.mono (by omega) : Is .i64 V V.heap.size A2 [0, 1]).below zB).mono (by omega)) z1 (by decide)
  have HE2 := Lib.hid E2
  have B9 : Below w.heap.size w Z := B8.trans (zB.mono B8.size)
  clear E2 z1 zB
  refine HE2.out.mono ?_
  rintro e w9 ⟨rfl, n9, rfl⟩
  go_wp2_with fail
  go_ret
  exact ⟨by simp, below_drewN B9 n9⟩
end Go.Proofs.Ytmkpblfacnnnoaa
