/- Laws of chapter 16: turned, same. -/
import Derived.Test.YtdflamblbhpngaaRows
import Derived.WalkKit
import Derived.WalkLawsBesides
import Derived.WalkSpells
import Derived.ProofKit
import Derived.Below
import Derived.Outline
import Derived.Lib.Hide
import Derived.Deep.RegionWith
import Derived.Deep.RegionHeld3
import Derived.Deep.DrawnRows
import Derived.StillTailTactics
import Derived.BigQuiet
import Derived.Deep.QuietTactic
import Derived.Deep.LoopGhost
import Derived.IntWalk
import Derived.Test.YtdflamblbhpngaaGeW
namespace Go.Proofs.Ytdflamblbhpngaa
open Go.RowKit
attribute [local go_sem ↓] Go.wp_at_zero Go.wp_at_succ
attribute [local go_sem] wrap_lit

set_option maxHeartbeats 2000000 in
theorem turnXY (p q v u : V3) (w : World) : Calls Try.prog 20 #[.agg #[.int .i64 p.x, .int .i64 p.y, .int .i64 p.z, .int .i64 q.x, .int .i64 q.y, .int .i64 q.z, .int .i64 v.x, .int .i64 v.y, .int .i64 v.z, .int .i64 u.x, .int .i64 u.y, .int .i64 u.z], .bool false] w fun e w' => e = .returned (.agg #[.int .i64 p.y, .int .i64 p.x, .int .i64 p.z, .int .i64 q.y, .int .i64 q.x, .int .i64 q.z, .int .i64 v.y, .int .i64 v.x, .int .i64 v.z, .int .i64 u.y, .int .i64 u.x, .int .i64 u.z]) ∧ Below w.heap.size w w' := by
  go_enter Try.func20, Try.ntmps20
  go_wp2_with fail
  refine bodyPost_ret (v := .agg #[.int .i64 p.y, .int .i64 p.x, .int .i64 p.z, .int .i64 q.y, .int .i64 q.x, .int .i64 q.z, .int .i64 v.y, .int .i64 v.x, .int .i64 v.z, .int .i64 u.y, .int .i64 u.x, .int .i64 u.z]) ?_ rfl ⟨rfl, ((Below.refl _ _).alloc (Nat.le_refl _) _).alloc (by first | omega | (simp; omega) | simp) _⟩
  have hr : Try.f20.results = #[.cell 4 26] := rfl
  simp only [results, hr]
  go_simp

set_option maxHeartbeats 2000000 in
theorem turnSg (p q v u : V3) (w : World) (h : okG p q v u) : Calls Try.prog 20 #[.agg #[.int .i64 p.x, .int .i64 p.y, .int .i64 p.z, .int .i64 q.x, .int .i64 q.y, .int .i64 q.z, .int .i64 v.x, .int .i64 v.y, .int .i64 v.z, .int .i64 u.x, .int .i64 u.y, .int .i64 u.z], .bool true] w fun e w' => e = .returned (.agg #[.int .i64 (-p.x), .int .i64 p.y, .int .i64 p.z, .int .i64 (-q.x), .int .i64 q.y, .int .i64 q.z, .int .i64 (-v.x), .int .i64 v.y, .int .i64 v.z, .int .i64 (-u.x), .int .i64 u.y, .int .i64 u.z]) ∧ Below w.heap.size w w' := by
  obtain ⟨h1, h2, h3, h4⟩ := h
  have np : IntKind.i64.wrap (-p.x) = -p.x := IntWalk.i64_in _ (by have := h1.1; have := h1.2.1; omega)
  have nq : IntKind.i64.wrap (-q.x) = -q.x := IntWalk.i64_in _ (by have := h2.1; have := h2.2.1; omega)
  have nv : IntKind.i64.wrap (-v.x) = -v.x := IntWalk.i64_in _ (by have := h3.1; have := h3.2.1; omega)
  have nu : IntKind.i64.wrap (-u.x) = -u.x := IntWalk.i64_in _ (by have := h4.1; have := h4.2.1; omega)
  clear h1 h2 h3 h4
  go_enter Try.func20, Try.ntmps20
  go_wp2_with fail
  refine bodyPost_ret (v := .agg #[.int .i64 (-p.x), .int .i64 p.y, .int .i64 p.z, .int .i64 (-q.x), .int .i64 q.y, .int .i64 q.z, .int .i64 (-v.x), .int .i64 v.y, .int .i64 v.z, .int .i64 (-u.x), .int .i64 u.y, .int .i64 u.z]) ?_ rfl ⟨rfl, ((Below.refl _ _).alloc (Nat.le_refl _) _).alloc (by first | omega | (simp; omega) | simp) _⟩
  have hr : Try.f20.results = #[.cell 4 26] := rfl
  simp only [results, hr]
  go_simp

set_option maxRecDepth 100000 in
set_option maxHeartbeats 4000000 in
theorem sameG (p q v u p' q' v' u' : V3) (c0 c1 c2 c3 c4 c5 c6 : Int) (w : World)
    (T0 : Hid (∀ w, Calls Try.prog 25 #[.agg #[.int .i64 p.x, .int .i64 p.y, .int .i64 p.z], .agg #[.int .i64 q.x, .int .i64 q.y, .int .i64 q.z]] w fun e w' => e = .returned (.tuple #[.int .i64 c0, .int .i64 c1]) ∧ Below w.heap.size w w'))
    (T1 : Hid (∀ w, Calls Try.prog 25 #[.agg #[.int .i64 p'.x, .int .i64 p'.y, .int .i64 p'.z], .agg #[.int .i64 q'.x, .int .i64 q'.y, .int .i64 q'.z]] w fun e w' => e = .returned (.tuple #[.int .i64 c0, .int .i64 c1]) ∧ Below w.heap.size w w'))
    (T2 : Hid (∀ w, Calls Try.prog 10 #[.agg #[.int .i64 p.x, .int .i64 p.y, .int .i64 p.z], .agg #[.int .i64 q.x, .int .i64 q.y, .int .i64 q.z], .agg #[.int .i64 v.x, .int .i64 v.y, .int .i64 v.z], .agg #[.int .i64 u.x, .int .i64 u.y, .int .i64 u.z]] w fun e w' => e = .returned (.tuple #[.int .i64 c2, .int .i64 c3]) ∧ Below w.heap.size w w'))
    (T3 : Hid (∀ w, Calls Try.prog 10 #[.agg #[.int .i64 p'.x, .int .i64 p'.y, .int .i64 p'.z], .agg #[.int .i64 q'.x, .int .i64 q'.y, .int .i64 q'.z], .agg #[.int .i64 v'.x, .int .i64 v'.y, .int .i64 v'.z], .agg #[.int .i64 u'.x, .int .i64 u'.y, .int .i64 u'.z]] w fun e w' => e = .returned (.tuple #[.int .i64 c2, .int .i64 c3]) ∧ Below w.heap.size w w'))
    (T4 : Hid (∀ w, Calls Try.prog 12 #[.agg #[.int .i64 p.x, .int .i64 p.y, .int .i64 p.z], .agg #[.int .i64 q.x, .int .i64 q.y, .int .i64 q.z], .agg #[.int .i64 v.x, .int .i64 v.y, .int .i64 v.z], .agg #[.int .i64 u.x, .int .i64 u.y, .int .i64 u.z]] w fun e w' => e = .returned (.tuple #[.int .i64 c4, .int .i64 c5, .int .i64 c3]) ∧ Below w.heap.size w w'))
    (T5 : Hid (∀ w, Calls Try.prog 12 #[.agg #[.int .i64 p'.x, .int .i64 p'.y, .int .i64 p'.z], .agg #[.int .i64 q'.x, .int .i64 q'.y, .int .i64 q'.z], .agg #[.int .i64 v'.x, .int .i64 v'.y, .int .i64 v'.z], .agg #[.int .i64 u'.x, .int .i64 u'.y, .int .i64 u'.z]] w fun e w' => e = .returned (.tuple #[.int .i64 c4, .int .i64 c5, .int .i64 c3]) ∧ Below w.heap.size w w'))
    (T6 : Hid (∀ w, Calls Try.prog 14 #[.agg #[.int .i64 p.x, .int .i64 p.y, .int .i64 p.z], .agg #[.int .i64 q.x, .int .i64 q.y, .int .i64 q.z], .agg #[.int .i64 v.x, .int .i64 v.y, .int .i64 v.z], .agg #[.int .i64 u.x, .int .i64 u.y, .int .i64 u.z]] w fun e w' => e = .returned (.tuple #[.int .i64 c6, .int .i64 c3]) ∧ Below w.heap.size w w'))
    (T7 : Hid (∀ w, Calls Try.prog 14 #[.agg #[.int .i64 p'.x, .int .i64 p'.y, .int .i64 p'.z], .agg #[.int .i64 q'.x, .int .i64 q'.y, .int .i64 q'.z], .agg #[.int .i64 v'.x, .int .i64 v'.y, .int .i64 v'.z], .agg #[.int .i64 u'.x, .int .i64 u'.y, .int .i64 u'.z]] w fun e w' => e = .returned (.tuple #[.int .i64 c6, .int .i64 c3]) ∧ Below w.heap.size w w')) : Calls Try.prog 21 #[.agg #[.int .i64 p.x, .int .i64 p.y, .int .i64 p.z, .int .i64 q.x, .int .i64 q.y, .int .i64 q.z, .int .i64 v.x, .int .i64 v.y, .int .i64 v.z, .int .i64 u.x, .int .i64 u.y, .int .i64 u.z], .agg #[.int .i64 p'.x, .int .i64 p'.y, .int .i64 p'.z, .int .i64 q'.x, .int .i64 q'.y, .int .i64 q'.z, .int .i64 v'.x, .int .i64 v'.y, .int .i64 v'.z, .int .i64 u'.x, .int .i64 u'.y, .int .i64 u'.z]] w fun e w' => e = .returned (.bool true) ∧ Below w.heap.size w w' := by
  go_enter Try.func21, Try.ntmps21
  go_wp2_with fail
  refine (T0.out _).mono ?_
  rintro e w1 ⟨rfl, hb1⟩
  have hc1 := (bcell hb1).1
  have hf1 := (bcell hb1).2
  have hs1 := hb1.size
  try simp at hs1
  have hz1_0 : w.heap.size < w1.heap.size := by omega
  have hz1_1 : w.heap.size + 1 < w1.heap.size := by omega
  have B1 : Below w.heap.size w w1 := (((Below.refl _ _).alloc (Nat.le_refl _) _).alloc (by first | omega | (simp; omega) | simp) _).trans (hb1.mono (by first | omega | (simp; omega) | simp))
  go_wp2_with fail
  refine (T1.out _).mono ?_
  rintro e w2 ⟨rfl, hb2⟩
  have hc2 := (bcell hb2).1
  have hf2 := (bcell hb2).2
  have hs2 := hb2.size
  try simp at hs2
  have hz2_0 : w.heap.size < w2.heap.size := by omega
  have hz2_1 : w.heap.size + 1 < w2.heap.size := by omega
  have B2 : Below w.heap.size w w2 := (B1).trans (hb2.mono (by first | omega | (simp; omega) | simp))
  go_wp2_with fail
  refine (T2.out _).mono ?_
  rintro e w3 ⟨rfl, hb3⟩
  have hc3 := (bcell hb3).1
  have hf3 := (bcell hb3).2
  have hs3 := hb3.size
  try simp at hs3
  have hz3_0 : w.heap.size < w3.heap.size := by omega
  have hz3_1 : w.heap.size + 1 < w3.heap.size := by omega
  have B3 : Below w.heap.size w w3 := (B2).trans (hb3.mono (by first | omega | (simp; omega) | simp))
  go_wp2_with fail
  refine (T3.out _).mono ?_
  rintro e w4 ⟨rfl, hb4⟩
  have hc4 := (bcell hb4).1
  have hf4 := (bcell hb4).2
  have hs4 := hb4.size
  try simp at hs4
  have hz4_0 : w.heap.size < w4.heap.size := by omega
  have hz4_1 : w.heap.size + 1 < w4.heap.size := by omega
  have B4 : Below w.heap.size w w4 := (B3).trans (hb4.mono (by first | omega | (simp; omega) | simp))
  go_wp2_with fail
  refine (T4.out _).mono ?_
  rintro e w5 ⟨rfl, hb5⟩
  have hc5 := (bcell hb5).1
  have hf5 := (bcell hb5).2
  have hs5 := hb5.size
  try simp at hs5
  have hz5_0 : w.heap.size < w5.heap.size := by omega
  have hz5_1 : w.heap.size + 1 < w5.heap.size := by omega
  have B5 : Below w.heap.size w w5 := (B4).trans (hb5.mono (by first | omega | (simp; omega) | simp))
  go_wp2_with fail
  refine (T5.out _).mono ?_
  rintro e w6 ⟨rfl, hb6⟩
  have hc6 := (bcell hb6).1
  have hf6 := (bcell hb6).2
  have hs6 := hb6.size
  try simp at hs6
  have hz6_0 : w.heap.size < w6.heap.size := by omega
  have hz6_1 : w.heap.size + 1 < w6.heap.size := by omega
  have B6 : Below w.heap.size w w6 := (B5).trans (hb6.mono (by first | omega | (simp; omega) | simp))
  go_wp2_with fail
  refine (T6.out _).mono ?_
  rintro e w7 ⟨rfl, hb7⟩
  have hc7 := (bcell hb7).1
  have hf7 := (bcell hb7).2
  have hs7 := hb7.size
  try simp at hs7
  have hz7_0 : w.heap.size < w7.heap.size := by omega
  have hz7_1 : w.heap.size + 1 < w7.heap.size := by omega
  have B7 : Below w.heap.size w w7 := (B6).trans (hb7.mono (by first | omega | (simp; omega) | simp))
  go_wp2_with fail
  refine (T7.out _).mono ?_
  rintro e w8 ⟨rfl, hb8⟩
  have hc8 := (bcell hb8).1
  have hf8 := (bcell hb8).2
  have hs8 := hb8.size
  try simp at hs8
  have hz8_0 : w.heap.size < w8.heap.size := by omega
  have hz8_1 : w.heap.size + 1 < w8.heap.size := by omega
  have B8 : Below w.heap.size w w8 := (B7).trans (hb8.mono (by first | omega | (simp; omega) | simp))
  go_wp2_with fail
  go_ret
  exact ⟨rfl, B8⟩
theorem same21 (p q v u p' q' v' u' : V3) (w : World) (h : Same p q v u p' q' v' u') : Calls Try.prog 21 #[.agg #[.int .i64 p.x, .int .i64 p.y, .int .i64 p.z, .int .i64 q.x, .int .i64 q.y, .int .i64 q.z, .int .i64 v.x, .int .i64 v.y, .int .i64 v.z, .int .i64 u.x, .int .i64 u.y, .int .i64 u.z], .agg #[.int .i64 p'.x, .int .i64 p'.y, .int .i64 p'.z, .int .i64 q'.x, .int .i64 q'.y, .int .i64 q'.z, .int .i64 v'.x, .int .i64 v'.y, .int .i64 v'.z, .int .i64 u'.x, .int .i64 u'.y, .int .i64 u'.z]] w fun e w' => e = .returned (.bool true) ∧ Below w.heap.size w w' := by
  obtain ⟨h0, h1, h2, h3, h4, h5, h6, -, -⟩ := h
  have T0 := fun w => slant25 p q w
  have T1 := fun w => slant25 p' q' w
  have T2 := fun w => clos10 p q v u w
  have T3 := fun w => clos10 p' q' v' u' w
  have T4 := fun w => closest12 p q v u w
  have T5 := fun w => closest12 p' q' v' u' w
  have T6 := fun w => miss14 p q v u w
  have T7 := fun w => miss14 p' q' v' u' w
  rw [h0, h1] at T1
  rw [h2, h3] at T3
  rw [h4, h5, h3] at T5
  rw [h6, h3] at T7
  exact sameG p q v u p' q' v' u' _ _ _ _ _ _ _ w (Lib.hid T0) (Lib.hid T1) (Lib.hid T2) (Lib.hid T3) (Lib.hid T4) (Lib.hid T5) (Lib.hid T6) (Lib.hid T7)
end Go.Proofs.Ytdflamblbhpngaa
