/- The chapter's examples hold: awake. -/
import Derived.Test.YtfpogcdffccldaaChE
namespace Go.Proofs.Ytfpogcdffccldaa
open Go.RowKit
attribute [local go_sem ↓] Go.wp_at_zero Go.wp_at_succ
attribute [local go_sem] wrap_lit

theorem Src.grown {w w' : World} {g g' : Nat} {x : Int} {m : Bool} (h : Src w g x m) (hg : w.grownBy w' (some g')) (hne : g ≠ g') : Src w' g x m :=
  (hg.block g h.lt (by simpa using hne)).trans h
theorem next12m (g : Nat) (x : Int) (w : World) (h : Src w g x true) (h0 : 0 ≤ x) (h1 : x < 2147483647) : Calls Try.prog 12 #[.pointer (some ⟨g, 0, none⟩)] w fun e w' => e = .returned (.tuple #[.int .i64 (tms x 48271), .int .i64 0]) ∧ Moved w g (tms x 48271) w' :=
  (next12 g x w h h0 h1).mono fun _ _ ⟨he, hw⟩ => by subst hw; exact ⟨he, h.set _, grown_set (grown_refl _ _) _⟩
theorem back19m (g : Nat) (x : Int) (w : World) (h : Src w g x true) (h0 : 0 ≤ x) (h1 : x < 2147483647) : Calls Try.prog 19 #[.pointer (some ⟨g, 0, none⟩)] w fun e w' => e = .returned (.tuple #[.int .i64 (tms x 1899818559), .int .i64 0]) ∧ Moved w g (tms x 1899818559) w' :=
  (back19 g x w h h0 h1).mono fun _ _ ⟨he, hw⟩ => by subst hw; exact ⟨he, h.set _, grown_set (grown_refl _ _) _⟩
theorem skip21m (g : Nat) (x : Int) (k : Nat) (w : World) (h : Src w g x true) (h0 : 0 ≤ x) (h1 : x < 2147483647) (hk : (k : Int) ≤ 9223372036854775807) :
    Calls Try.prog 21 #[.pointer (some ⟨g, 0, none⟩), .int .i64 k] w fun e w' => e = .returned (.tuple #[.int .i64 (pws x k), .int .i64 0]) ∧ Moved w g (pws x k) w' :=
  (skip21 g x k w h h0 h1 hk).mono fun _ _ ⟨he, hs, hg, _⟩ => ⟨he, hs, hg⟩
theorem below_grown {B : Nat} {a w w' : World} {g : Nat} (h : Below B a w) (hg : w.grownBy w' (some g)) (hB : B ≤ w.heap.size) (hgB : B ≤ g) : Below B a w' :=
  h.grown hg hB fun k hk => by injection hk with hk; omega
theorem shuf1 : shuf 1 5 = ([0], 5) := by decide +kernel

set_option maxHeartbeats 2000000 in
set_option maxRecDepth 100000 in
theorem awake9 (w : World) : Calls Try.prog 9 #[] w fun e w' => e = .returned (.bool true) ∧ Below w.heap.size w w' := by
  go_enter Try.func9, Try.ntmps9
  go_wp2_with fail
  refine (source10y 1 _ (by omega) (by omega)).mono ?_
  rintro e w1 ⟨rfl, rfl⟩
  go_wp2_with fail
  refine (source10y 1 _ (by omega) (by omega)).mono ?_
  rintro e w1 ⟨rfl, rfl⟩
  go_wp2_with fail
  refine (source10y 1 _ (by omega) (by omega)).mono ?_
  rintro e w1 ⟨rfl, rfl⟩
  go_wp2_with fail
  have a1 : Src (((w.alloc (.cells #[.int .i64 1, .bool true] 55)).alloc (.cells #[.int .i64 1, .bool true] 55)).alloc (.cells #[.int .i64 1, .bool true] 55)) w.heap.size 1 true := Src.alloc (Src.alloc (heap_alloc_new w _) _) _
  have a2 : Src (((w.alloc (.cells #[.int .i64 1, .bool true] 55)).alloc (.cells #[.int .i64 1, .bool true] 55)).alloc (.cells #[.int .i64 1, .bool true] 55)) (w.heap.size + 1) 1 true := by
    have := Src.alloc (g := (w.alloc (.cells #[.int .i64 1, .bool true] 55)).heap.size) (x := 1) (m := true) (heap_alloc_new (w.alloc (.cells #[.int .i64 1, .bool true] 55)) (.cells #[.int .i64 1, .bool true] 55)) (.cells #[.int .i64 1, .bool true] 55)
    rw [World.size_alloc] at this; exact this
  have a3 : Src (((w.alloc (.cells #[.int .i64 1, .bool true] 55)).alloc (.cells #[.int .i64 1, .bool true] 55)).alloc (.cells #[.int .i64 1, .bool true] 55)) (w.heap.size + 1 + 1) 1 true := by
    have := heap_alloc_new ((w.alloc (.cells #[.int .i64 1, .bool true] 55)).alloc (.cells #[.int .i64 1, .bool true] 55)) (.cells #[.int .i64 1, .bool true] 55)
    rw [World.size_alloc, World.size_alloc] at this; exact this
  have b0 : Below w.heap.size w (((w.alloc (.cells #[.int .i64 1, .bool true] 55)).alloc (.cells #[.int .i64 1, .bool true] 55)).alloc (.cells #[.int .i64 1, .bool true] 55)) := (((Below.refl _ _).alloc (Nat.le_refl _) _).alloc (by simp) _).alloc (by simp; omega) _
  generalize (((w.alloc (.cells #[.int .i64 1, .bool true] 55)).alloc (.cells #[.int .i64 1, .bool true] 55)).alloc (.cells #[.int .i64 1, .bool true] 55)) = W at *
  have A1 := Lib.hid a1; have A2 := Lib.hid a2; have A3 := Lib.hid a3
  clear a1 a2 a3
  refine (next12m _ 1 W A1.out (by omega) (by omega)).mono ?_
  rintro e w1 ⟨rfl, m1⟩
  have b1 := below_grown b0 m1.2 b0.size (Nat.le_refl _)
  go_wp2_with fail
  refine (next12m _ (tms 1 48271) w1 m1.1 (by decide) (by decide)).mono ?_
  rintro e w2 ⟨rfl, m2⟩
  have b2 := below_grown b1 m2.2 b1.size (Nat.le_refl _)
  have A22 := (A2.out.grown m1.2 (by omega)).grown m2.2 (by omega)
  have A32 := (A3.out.grown m1.2 (by omega)).grown m2.2 (by omega)
  have B22 := Lib.hid A22; have B32 := Lib.hid A32; clear A22 A32
  go_wp2_with fail
  refine (skip21m _ 1 2 w2 B22.out (by omega) (by omega) (by omega)).mono ?_
  rintro e w3 ⟨rfl, m3⟩
  have b3 := below_grown b2 m3.2 b2.size (by omega)
  go_wp2_with fail
  refine (back19m _ (pws 1 2) w3 m3.1 (by decide) (by decide)).mono ?_
  rintro e w4 ⟨rfl, m4⟩
  have b4 := below_grown b3 m4.2 b3.size (by omega)
  have C3 := Lib.hid ((B32.out.grown m3.2 (by omega)).grown m4.2 (by omega))
  go_wp2_with fail
  refine (below24y _ 1 10 w4 C3.out (by omega) (by omega) (by omega) (by omega)).mono ?_
  rintro e w5 ⟨rfl, m5⟩
  have b5 := below_grown b4 m5.2 b4.size (by omega)
  go_wp2_with fail
  refine (below24y _ (tms 1 48271) 10 w5 m5.1 (by decide) (by decide) (by omega) (by omega)).mono ?_
  rintro e w6 ⟨rfl, m6⟩
  have b6 := below_grown b5 m6.2 b5.size (by omega)
  go_wp2_with fail
  refine (source10y 5 _ (by omega) (by omega)).mono ?_
  rintro e w7 ⟨rfl, rfl⟩
  go_wp2_with fail
  have hs5 : Src (w6.alloc (.cells #[.int .i64 5, .bool true] 55)) w6.heap.size 5 true := heap_alloc_new w6 _
  refine (shuffle11y _ 5 1 _ hs5 (by omega) (by omega) (by omega)).mono ?_
  rintro e w7 ⟨A, cap, rfl, ho, hs7, hg7⟩
  rw [shuf1] at ho
  have b7 : Below w.heap.size w w7 := below_grown (b6.alloc b6.size _) hg7 (by simp; have := b6.size; omega) b6.size
  clear hs7 hg7 hs5
  have v1 : (tms 1 48271 == 48271) = true := by decide
  have v2 : (tms (tms 1 48271) 48271 == 182605794) = true := by decide
  have v3 : (pws 1 2 == 182605794) = true := by decide
  have v4 : (tms (pws 1 2) 1899818559 == 48271) = true := by decide
  have v5 : (drw 1 10 == 0) = true := by decide
  have v6 : (drw (tms 1 48271) 10 == 3) = true := by decide
  go_wp2_with fail
  refine (equalInts A (some ⟨w7.heap.size, 0, none⟩) cap 1 [0] [0] (w7.heap.size + 1) _ (((ho.is.mono (Nat.le_refl _)).below ((Below.refl _ _).alloc (Nat.le_refl _) _)).mono (by omega)) (fun _ => ⟨w7.heap.size, 0, rfl, by omega, fun j hj => ?_⟩) (by decide)).mono ?_
  · obtain rfl : j = 0 := by simpa using hj
    rw [World.cell?_alloc_at _ _ _ _ rfl]; rfl
  rintro e w8 ⟨rfl, nd, rfl⟩
  have hdt : decide (([0] : List Int) = [0]) = true := by decide
  go_wp2_with fail
  go_ret
  exact ⟨rfl, below_drewN (b7.alloc b7.size _) _⟩
end Go.Proofs.Ytfpogcdffccldaa
