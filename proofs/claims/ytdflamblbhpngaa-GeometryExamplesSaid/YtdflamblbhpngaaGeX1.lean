/- GeometryApproach returns true for every input. -/
import Derived.Test.YtdflamblbhpngaaRows
import Derived.WalkKit
import Derived.WalkLawsBesides
import Derived.WalkSpells
import Derived.ProofKit
import Derived.Below
import Derived.Outline
import Derived.Lib.Hide
import Derived.Deep.RegionWith
import Derived.Deep.RegionHeld3
import Derived.Deep.DrawnRows
import Derived.StillTailTactics
import Derived.BigQuiet
import Derived.Deep.QuietTactic
import Derived.Deep.LoopGhost
import Derived.IntWalk
import Derived.Test.YtdflamblbhpngaaGeV
import Derived.Test.YtdflamblbhpngaaKO
import Derived.WalkKit
import Derived.ProofKit
import Derived.OpenShut
import Derived.ShutString
import Derived.ChangeOld
import Derived.Below
import Derived.Lib.SmallJoins
namespace Go.Proofs.Ytdflamblbhpngaa
open Go.RowKit
attribute [local go_sem ↓] Go.wp_at_zero Go.wp_at_succ
attribute [local go_sem] wrap_lit

set_option maxRecDepth 100000 in
set_option maxHeartbeats 4000000 in
theorem approach3 (p q v u : V3) (d t : Int) (w : World) : Calls Try.prog 3 #[.agg #[.int .i64 p.x, .int .i64 p.y, .int .i64 p.z, .int .i64 q.x, .int .i64 q.y, .int .i64 q.z, .int .i64 v.x, .int .i64 v.y, .int .i64 v.z, .int .i64 u.x, .int .i64 u.y, .int .i64 u.z], .int .i64 d, .int .i64 t] w fun e w' => e = .returned (.bool true) ∧ Below w.heap.size w w' := by
  have T0 := Lib.hid (clos10 p q v u)
  have T1 := Lib.hid (clos11 p q v u)
  have T2 := Lib.hid (closest12 p q v u)
  have T3 := Lib.hid (closest13 p q v u)
  have T4 := Lib.hid (miss14 p q v u)
  have T5 := Lib.hid (miss15 p q v u)
  have T6 := Lib.hid (within16 p q v u d t)
  have T7 := Lib.hid (within17 p q v u d t)
  generalize clG p q v u = c1 at *
  generalize coN p q v u = c2 at *
  generalize coD p q v u = c3 at *
  generalize missG p q v u = c4 at *
  generalize wiB p q v u d t = c5 at *
  generalize wiE p q v u d t = c6 at *
  generalize erG p q v u = c7 at *
  go_enter Try.func3, Try.ntmps3
  go_wp2_with fail
  refine (T0.out _).mono ?_
  rintro e w1 ⟨rfl, hb1⟩
  have hc1 := (bcell hb1).1
  have hf1 := (bcell hb1).2
  have hs1 := hb1.size
  try simp at hs1
  have hz1_0 : w.heap.size < w1.heap.size := by omega
  have B1 : Below w.heap.size w w1 := ((Below.refl _ _).alloc (Nat.le_refl _) _).trans (hb1.mono (by first | omega | (simp; omega) | simp))
  go_wp2_with fail
  refine (T1.out _).mono ?_
  rintro e w2 ⟨rfl, hb2⟩
  have hc2 := (bcell hb2).1
  have hf2 := (bcell hb2).2
  have hs2 := hb2.size
  try simp at hs2
  have hz2_0 : w.heap.size < w2.heap.size := by omega
  have B2 : Below w.heap.size w w2 := (B1).trans (hb2.mono (by first | omega | (simp; omega) | simp))
  go_wp2_with fail
  refine (T2.out _).mono ?_
  rintro e w3 ⟨rfl, hb3⟩
  have hc3 := (bcell hb3).1
  have hf3 := (bcell hb3).2
  have hs3 := hb3.size
  try simp at hs3
  have hz3_0 : w.heap.size < w3.heap.size := by omega
  have B3 : Below w.heap.size w w3 := (B2).trans (hb3.mono (by first | omega | (simp; omega) | simp))
  go_wp2_with fail
  refine (T3.out _).mono ?_
  rintro e w4 ⟨rfl, hb4⟩
  have hc4 := (bcell hb4).1
  have hf4 := (bcell hb4).2
  have hs4 := hb4.size
  try simp at hs4
  have hz4_0 : w.heap.size < w4.heap.size := by omega
  have B4 : Below w.heap.size w w4 := (B3).trans (hb4.mono (by first | omega | (simp; omega) | simp))
  go_wp2_with fail
  refine (T4.out _).mono ?_
  rintro e w5 ⟨rfl, hb5⟩
  have hc5 := (bcell hb5).1
  have hf5 := (bcell hb5).2
  have hs5 := hb5.size
  try simp at hs5
  have hz5_0 : w.heap.size < w5.heap.size := by omega
  have B5 : Below w.heap.size w w5 := (B4).trans (hb5.mono (by first | omega | (simp; omega) | simp))
  go_wp2_with fail
  refine (T5.out _).mono ?_
  rintro e w6 ⟨rfl, hb6⟩
  have hc6 := (bcell hb6).1
  have hf6 := (bcell hb6).2
  have hs6 := hb6.size
  try simp at hs6
  have hz6_0 : w.heap.size < w6.heap.size := by omega
  have B6 : Below w.heap.size w w6 := (B5).trans (hb6.mono (by first | omega | (simp; omega) | simp))
  go_wp2_with fail
  refine (T6.out _).mono ?_
  rintro e w7 ⟨rfl, hb7⟩
  have hc7 := (bcell hb7).1
  have hf7 := (bcell hb7).2
  have hs7 := hb7.size
  try simp at hs7
  have hz7_0 : w.heap.size < w7.heap.size := by omega
  have B7 : Below w.heap.size w w7 := (B6).trans (hb7.mono (by first | omega | (simp; omega) | simp))
  go_wp2_with fail
  refine (T7.out _).mono ?_
  rintro e w8 ⟨rfl, hb8⟩
  have hc8 := (bcell hb8).1
  have hf8 := (bcell hb8).2
  have hs8 := hb8.size
  try simp at hs8
  have hz8_0 : w.heap.size < w8.heap.size := by omega
  have B8 : Below w.heap.size w w8 := (B7).trans (hb8.mono (by first | omega | (simp; omega) | simp))
  go_wp2_with fail
  refine (awake18 _).mono ?_
  rintro e w9 ⟨rfl, hb9⟩
  have hc9 := (bcell hb9).1
  have hf9 := (bcell hb9).2
  have hs9 := hb9.size
  try simp at hs9
  have hz9_0 : w.heap.size < w9.heap.size := by omega
  have B9 : Below w.heap.size w w9 := (B8).trans (hb9.mono (by first | omega | (simp; omega) | simp))
  go_wp2_with fail
  go_ret
  exact ⟨rfl, B9⟩

namespace geometryApproachRow
open Go.ChangeShapes Go.WideShapes Go.ChangeAt Go.RowKit
open Go.ChangeMaps (open_string shut_string)
set_option linter.unusedVariables false
theorem own : ownKnob Try.prog.godebug = none := by kernel_rfl
theorem laidOut : laidOutB Try.prog = true := by kernel_rfl
set_option maxRecDepth 100000 in
theorem lifted (os : Os) (started : os.Started) (H : Type) (enc : TypeId × Value → H) :
    ReturnsInHanded {} Try.checked os 3 .any (Rows.geometryApproachSpec.pre6 enc Try.prog Try.f3 Rows.geometryApproachRow.domain false) (Rows.geometryApproachSpec.post enc Try.prog Try.f3 false true false false) := by
  refine returnsInHanded_of_change (C := Try.checked) own started (by kernel_rfl) Try.func3
    (ChangeSpec.witness6 (enc := enc) (C := Try.checked) false ⟨#[], #[.agg #[.int .i64 0, .int .i64 0, .int .i64 0, .int .i64 0, .int .i64 0, .int .i64 0, .int .i64 0, .int .i64 0, .int .i64 0, .int .i64 0, .int .i64 0, .int .i64 0], .int .i64 0, .int .i64 0], []⟩ 8 (by kernel_rfl) (by kernel_rfl) (by kernel_rfl) (by kernel_rfl)) ?_
  intro W base args ds gs before hval0 hW hcnd _hsz
  have hval : ∀ (j : Nat) t v, Try.f3.params[j]? = some t → args[j]? = some v → Value.okWide Try.prog W .any base t v := hval0
  have hW' := hW
  obtain ⟨p, q, hA0, hV, rfl, hfz, hnd⟩ := hW
  have hA : DataW.TrodAll enc Try.prog W 0 (fun _ => true) true Try.f3.params.toList args.toList ds p := hA0
  rw [Try.params3] at hA hval
  obtain ⟨v0, vs0, d0, ds0, p0, q0, hargs, rfl, rfl, h0, r0⟩ := trodAll_cons hA
  obtain ⟨v1, vs1, d1, ds1, p1, q1, rfl, rfl, rfl, h1, r1⟩ := trodAll_cons r0
  obtain ⟨v2, vs2, d2, ds2, p2, q2, rfl, rfl, rfl, h2, r2⟩ := trodAll_cons r1
  obtain ⟨rfl, rfl, rfl⟩ := trodAll_nil r2
  obtain rfl : args = #[v0, v1, v2] := by cases args; simp_all
  obtain ⟨rfl, rfl⟩ := trodVars_none hV
  have k0 := h0
  have lt0 : ∀ x ∈ p0, x.block < W.heap.size := by obtain ⟨m, hm⟩ := k0; exact DataW.trod_lt m _ _ _ hm
  have k1 := h1
  have lt1 : ∀ x ∈ p1, x.block < W.heap.size := by obtain ⟨m, hm⟩ := k1; exact DataW.trod_lt m _ _ _ hm
  have k2 := h2
  have lt2 : ∀ x ∈ p2, x.block < W.heap.size := by obtain ⟨m, hm⟩ := k2; exact DataW.trod_lt m _ _ _ hm
  obtain ⟨cs0, rfl, i0⟩ := open_leaves 9 [.i64, .i64, .i64, .i64, .i64, .i64, .i64, .i64, .i64, .i64, .i64, .i64] (by kernel_rfl) (by kernel_rfl) (hval 0 26 v0 rfl rfl) h0
  obtain ⟨a0_0, c0_0, rfl, w0_0, i0_0⟩ := i0
  obtain ⟨a0_1, c0_1, rfl, w0_1, i0_1⟩ := i0_0
  obtain ⟨a0_2, c0_2, rfl, w0_2, i0_2⟩ := i0_1
  obtain ⟨a0_3, c0_3, rfl, w0_3, i0_3⟩ := i0_2
  obtain ⟨a0_4, c0_4, rfl, w0_4, i0_4⟩ := i0_3
  obtain ⟨a0_5, c0_5, rfl, w0_5, i0_5⟩ := i0_4
  obtain ⟨a0_6, c0_6, rfl, w0_6, i0_6⟩ := i0_5
  obtain ⟨a0_7, c0_7, rfl, w0_7, i0_7⟩ := i0_6
  obtain ⟨a0_8, c0_8, rfl, w0_8, i0_8⟩ := i0_7
  obtain ⟨a0_9, c0_9, rfl, w0_9, i0_9⟩ := i0_8
  obtain ⟨a0_10, c0_10, rfl, w0_10, i0_10⟩ := i0_9
  obtain ⟨a0_11, c0_11, rfl, w0_11, i0_11⟩ := i0_10
  obtain rfl : c0_11 = [] := i0_11
  obtain ⟨a1, rfl, -, -, w1⟩ := open_int Try.underlying3 (hval 1 3 v1 rfl rfl) h1
  obtain ⟨a2, rfl, -, -, w2⟩ := open_int Try.underlying3 (hval 2 3 v2 rfl rfl) h2
  clear hA0 hval0
  refine (approach3 ⟨a0_0, a0_1, a0_2⟩ ⟨a0_3, a0_4, a0_5⟩ ⟨a0_6, a0_7, a0_8⟩ ⟨a0_9, a0_10, a0_11⟩ a1 a2 W).mono fun e W' ⟨he, bel⟩ => ?_
  subst he
  exact ⟨_, rfl, _, _, _, [], _, [], hW', trodAll_mk1 (shut_bool Try.underlying4 _), (trodAll_cons_mk (Below.trod laidOut (by kernel_rfl) (of_decide_eq_true (by kernel_rfl)) k0 bel lt0) (trodAll_cons_mk (Below.trod laidOut (by kernel_rfl) (of_decide_eq_true (by kernel_rfl)) k1 bel lt1) (trodAll_cons_mk (Below.trod laidOut (by kernel_rfl) (of_decide_eq_true (by kernel_rfl)) k2 bel lt2) trodAll_mk0))), rfl, bel.frame _, fun h => by cases h⟩

theorem over : Rows.geometryApproachRow.holds Try.pinned (OpenSpec.ofChange Rows.geometryApproachSpec) :=
  OpenClaim.holds_of_wide 3 Try.f3 rfl rfl rfl rfl rfl rfl rfl ⟨rfl, rfl, rfl, rfl, rfl⟩ rfl rfl rfl rfl rfl (by kernel_rfl) Try.func3 (by kernel_rfl)
    (of_decide_eq_true (by kernel_rfl)) (by unfold Func.isWrapper; first | (rw [if_pos (by decide +kernel)]; kernel_rfl) | (rw [if_neg (by decide +kernel)]; exact ⟨rfl, rfl⟩))
    (fun os started H enc _ => lifted os started H enc)
theorem proved : Rows.GeometryApproachSaid := over
end geometryApproachRow
end Go.Proofs.Ytdflamblbhpngaa
