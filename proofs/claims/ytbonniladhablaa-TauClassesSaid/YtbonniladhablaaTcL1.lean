/- TauClasses returns true for every input. -/
import Derived.Test.YtbonniladhablaaRows
import Derived.WalkKit
import Derived.WalkLawsBesides
import Derived.WalkSpells
import Derived.ProofKit
import Derived.Below
import Derived.Outline
import Derived.Lib.Hide
import Derived.Deep.RegionWith
import Derived.Deep.RegionHeld3
import Derived.Deep.DrawnRows
import Derived.StillTailTactics
import Derived.BigQuiet
import Derived.Deep.QuietTactic
import Derived.Deep.LoopGhost
import Derived.IntWalk
import Derived.Test.YtbonniladhablaaTcY
import Derived.Test.YtbonniladhablaaTcO
import Derived.WalkKit
import Derived.ProofKit
import Derived.OpenShut
import Derived.ShutString
import Derived.ChangeOld
import Derived.Below
import Derived.Lib.SmallJoins
namespace Go.Proofs.Ytbonniladhablaa
open Go.RowKit
attribute [local go_sem ↓] Go.wp_at_zero Go.wp_at_succ
attribute [local go_sem] wrap_lit

theorem classesR (A0 A1 A2 : Option Addr) (l0 l1 l2 k0 k1 k2 : Nat) (x0 x1 x2 : List Int) (far tall own R V N a r k ag now hold : Int) (w : World) (e0 : x0.length = l0 * 1) (e1 : x1.length = l1 * 4) (e2 : x2.length = l2 * 4) (i0 : Is .i64 w w.heap.size A0 x0) (i1 : Is .i64 w w.heap.size A1 x1) (i2 : Is .i64 w w.heap.size A2 x2) (n1 : A1 = none → k1 = 0) (n2 : A2 = none → k2 = 0) :
    Calls Try.prog 7 #[.agg #[.slice A0 l0 k0, .slice A1 l1 k1, .slice A2 l2 k2, .int .i64 far, .int .i64 tall], .int .i64 own, .agg #[.int .i64 R, .int .i64 V, .int .i64 N, .int .i64 a, .int .i64 r], .agg #[.int .u8 k, .int .i64 ag], .int .u8 now, .int .i64 hold] w fun e w' => e = .returned (.bool true) ∧ Below w.heap.size w w' := by
  obtain rfl : l0 = x0.length := by omega
  cases hl : (decide (30 < x0.length) || (decide (30 < l1) || decide (30 < l2))) with
  | true => exact classesL A0 A1 A2 k0 l1 k1 l2 k2 x0 x1 x2 far tall own R V N a r k ag now hold _ w (Nat.le_refl _) i0 i1 i2 hl
  | false =>
    simp at hl
    exact classesS A0 A1 A2 k0 l1 k1 l2 k2 x0 x1 x2 far tall own R V N a r k ag now hold _ w (Nat.le_refl _) i0 i1 i2 e1 e2 (by omega) (by omega) (by omega) n1 n2 (by simp; omega)
namespace tauClassesRow
open Go.ChangeShapes Go.WideShapes Go.ChangeAt Go.RowKit
open Go.ChangeMaps (open_string shut_string)
set_option linter.unusedVariables false
theorem own : ownKnob Try.prog.godebug = none := by kernel_rfl
theorem laidOut : laidOutB Try.prog = true := by kernel_rfl
set_option maxRecDepth 100000 in
theorem lifted (os : Os) (started : os.Started) (H : Type) (enc : TypeId × Value → H) :
    ReturnsInHanded {} Try.checked os 7 .any (Rows.tauClassesSpec.pre6 enc Try.prog Try.f7 Rows.tauClassesRow.domain false) (Rows.tauClassesSpec.post enc Try.prog Try.f7 false true false false) := by
  refine returnsInHanded_of_change (C := Try.checked) own started (by kernel_rfl) Try.func7
    (ChangeSpec.witness6 (enc := enc) (C := Try.checked) false ⟨#[], #[.agg #[.slice none 0 0, .slice none 0 0, .slice none 0 0, .int .i64 0, .int .i64 0], .int .i64 0, .agg #[.int .i64 0, .int .i64 0, .int .i64 0, .int .i64 0, .int .i64 0], .agg #[.int .u8 0, .int .i64 0], .int .u8 0, .int .i64 0], []⟩ 8 (by kernel_rfl) (by kernel_rfl) (by kernel_rfl) (by kernel_rfl)) ?_
  intro W base args ds gs before hval0 hW hcnd _hsz
  have hval : ∀ (j : Nat) t v, Try.f7.params[j]? = some t → args[j]? = some v → Value.okWide Try.prog W .any base t v := hval0
  have hW' := hW
  obtain ⟨p, q, hA0, hV, rfl, hfz, hnd⟩ := hW
  have hA : DataW.TrodAll enc Try.prog W 0 (fun _ => true) true Try.f7.params.toList args.toList ds p := hA0
  rw [Try.params7] at hA hval
  obtain ⟨v0, vs0, d0, ds0, p0, q0, hargs, rfl, rfl, h0, r0⟩ := trodAll_cons hA
  obtain ⟨v1, vs1, d1, ds1, p1, q1, rfl, rfl, rfl, h1, r1⟩ := trodAll_cons r0
  obtain ⟨v2, vs2, d2, ds2, p2, q2, rfl, rfl, rfl, h2, r2⟩ := trodAll_cons r1
  obtain ⟨v3, vs3, d3, ds3, p3, q3, rfl, rfl, rfl, h3, r3⟩ := trodAll_cons r2
  obtain ⟨v4, vs4, d4, ds4, p4, q4, rfl, rfl, rfl, h4, r4⟩ := trodAll_cons r3
  obtain ⟨v5, vs5, d5, ds5, p5, q5, rfl, rfl, rfl, h5, r5⟩ := trodAll_cons r4
  obtain ⟨rfl, rfl, rfl⟩ := trodAll_nil r5
  obtain rfl : args = #[v0, v1, v2, v3, v4, v5] := by cases args; simp_all
  obtain ⟨rfl, rfl⟩ := trodVars_none hV
  have k0 := h0
  have lt0 : ∀ x ∈ p0, x.block < W.heap.size := by obtain ⟨m, hm⟩ := k0; exact DataW.trod_lt m _ _ _ hm
  have k1 := h1
  have lt1 : ∀ x ∈ p1, x.block < W.heap.size := by obtain ⟨m, hm⟩ := k1; exact DataW.trod_lt m _ _ _ hm
  have k2 := h2
  have lt2 : ∀ x ∈ p2, x.block < W.heap.size := by obtain ⟨m, hm⟩ := k2; exact DataW.trod_lt m _ _ _ hm
  have k3 := h3
  have lt3 : ∀ x ∈ p3, x.block < W.heap.size := by obtain ⟨m, hm⟩ := k3; exact DataW.trod_lt m _ _ _ hm
  have k4 := h4
  have lt4 : ∀ x ∈ p4, x.block < W.heap.size := by obtain ⟨m, hm⟩ := k4; exact DataW.trod_lt m _ _ _ hm
  have k5 := h5
  have lt5 : ∀ x ∈ p5, x.block < W.heap.size := by obtain ⟨m, hm⟩ := k5; exact DataW.trod_lt m _ _ _ hm
  obtain ⟨c0_0, c0_1, c0_2, c0_3, c0_4, y0_0, y0_1, y0_2, y0_3, y0_4, m0, rfl, z0_0, z0_1, z0_2, z0_3, z0_4⟩ := open_five Try.underlying50 (by kernel_rfl) (hval 0 50 v0 rfl rfl) h0
  obtain ⟨A0_0, l0_0, k0_0, x0_0, rfl, e0_0, i0_0, n0_0, w0_0⟩ := flat_ex (open_flat (n := 9) .i64 1 (by decide) (by kernel_rfl) (by kernel_rfl) Try.underlying47 z0_0)
  obtain ⟨A0_1, l0_1, k0_1, x0_1, rfl, e0_1, i0_1, n0_1, w0_1⟩ := flat_ex (open_flat (n := 9) .i64 4 (by decide) (by kernel_rfl) (by kernel_rfl) Try.underlying48 z0_1)
  obtain ⟨A0_2, l0_2, k0_2, x0_2, rfl, e0_2, i0_2, n0_2, w0_2⟩ := flat_ex (open_flat (n := 9) .i64 4 (by decide) (by kernel_rfl) (by kernel_rfl) Try.underlying48 z0_2)
  obtain ⟨a0_3, e0_3, -, w0_3⟩ := DataW.trod_int Try.underlying3 z0_3
  simp only [List.cons.injEq, and_true] at e0_3; subst e0_3
  obtain ⟨a0_4, e0_4, -, w0_4⟩ := DataW.trod_int Try.underlying3 z0_4
  simp only [List.cons.injEq, and_true] at e0_4; subst e0_4
  obtain ⟨a1, rfl, -, -, w1⟩ := open_int Try.underlying3 (hval 1 3 v1 rfl rfl) h1
  obtain ⟨cs2, rfl, i2⟩ := open_leaves 9 [.i64, .i64, .i64, .i64, .i64] (by kernel_rfl) (by kernel_rfl) (hval 2 25 v2 rfl rfl) h2
  obtain ⟨a2_0, c2_0, rfl, w2_0, i2_0⟩ := i2
  obtain ⟨a2_1, c2_1, rfl, w2_1, i2_1⟩ := i2_0
  obtain ⟨a2_2, c2_2, rfl, w2_2, i2_2⟩ := i2_1
  obtain ⟨a2_3, c2_3, rfl, w2_3, i2_3⟩ := i2_2
  obtain ⟨a2_4, c2_4, rfl, w2_4, i2_4⟩ := i2_3
  obtain rfl : c2_4 = [] := i2_4
  obtain ⟨cs3, rfl, i3⟩ := open_leaves 9 [.u8, .i64] (by kernel_rfl) (by kernel_rfl) (hval 3 41 v3 rfl rfl) h3
  obtain ⟨a3_0, c3_0, rfl, w3_0, i3_0⟩ := i3
  obtain ⟨a3_1, c3_1, rfl, w3_1, i3_1⟩ := i3_0
  obtain rfl : c3_1 = [] := i3_1
  obtain ⟨a4, rfl, -, -, w4⟩ := open_int Try.underlying5 (hval 4 5 v4 rfl rfl) h4
  obtain ⟨a5, rfl, -, -, w5⟩ := open_int Try.underlying3 (hval 5 3 v5 rfl rfl) h5
  clear hA0 hval0
  refine (classesR A0_0 A0_1 A0_2 l0_0 l0_1 l0_2 k0_0 k0_1 k0_2 x0_0 x0_1 x0_2 a0_3 a0_4 a1 a2_0 a2_1 a2_2 a2_3 a2_4 a3_0 a3_1 a4 a5 W e0_0 e0_1 e0_2 i0_0 i0_1 i0_2 n0_1 n0_2).mono fun e W' ⟨he, bel⟩ => ?_
  subst he
  exact ⟨_, rfl, _, _, _, [], _, [], hW', trodAll_mk1 (shut_bool Try.underlying4 _), (trodAll_cons_mk (Below.trod laidOut (by kernel_rfl) (of_decide_eq_true (by kernel_rfl)) k0 bel lt0) (trodAll_cons_mk (Below.trod laidOut (by kernel_rfl) (of_decide_eq_true (by kernel_rfl)) k1 bel lt1) (trodAll_cons_mk (Below.trod laidOut (by kernel_rfl) (of_decide_eq_true (by kernel_rfl)) k2 bel lt2) (trodAll_cons_mk (Below.trod laidOut (by kernel_rfl) (of_decide_eq_true (by kernel_rfl)) k3 bel lt3) (trodAll_cons_mk (Below.trod laidOut (by kernel_rfl) (of_decide_eq_true (by kernel_rfl)) k4 bel lt4) (trodAll_cons_mk (Below.trod laidOut (by kernel_rfl) (of_decide_eq_true (by kernel_rfl)) k5 bel lt5) trodAll_mk0)))))), rfl, bel.frame _, fun h => by cases h⟩

theorem over : Rows.tauClassesRow.holds Try.pinned (OpenSpec.ofChange Rows.tauClassesSpec) :=
  OpenClaim.holds_of_wide 7 Try.f7 rfl rfl rfl rfl rfl rfl rfl ⟨rfl, rfl, rfl, rfl, rfl⟩ rfl rfl rfl rfl rfl (by kernel_rfl) Try.func7 (by kernel_rfl)
    (of_decide_eq_true (by kernel_rfl)) (by unfold Func.isWrapper; first | (rw [if_pos (by decide +kernel)]; kernel_rfl) | (rw [if_neg (by decide +kernel)]; exact ⟨rfl, rfl⟩))
    (fun os started H enc _ => lifted os started H enc)
theorem proved : Rows.TauClassesSaid := over
end tauClassesRow
end Go.Proofs.Ytbonniladhablaa
