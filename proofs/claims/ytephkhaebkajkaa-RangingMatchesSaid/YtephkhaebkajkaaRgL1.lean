/- RangingMatches returns true for every input: Check, New, Predict, Update and Close of package ranging return what the reference returns. -/
import Derived.Test.YtephkhaebkajkaaRgD
import Derived.WalkKit
import Derived.ProofKit
import Derived.OpenShut
import Derived.ShutString
import Derived.ChangeOld
import Derived.Below
import Derived.Lib.SmallJoins
namespace Go.Proofs.Ytephkhaebkajkaa
open Go.RowKit
attribute [local go_sem ↓] Go.wp_at_zero Go.wp_at_succ
attribute [local go_sem] wrap_lit

set_option maxHeartbeats 2000000 in
theorem matches3 (R V N r c : Int) (w : World) : Calls Try.prog 3 #[.agg #[.int .i64 R, .int .i64 V, .int .i64 N], .int .i64 r, .int .i64 c] w fun e w' => e = .returned (.bool true) ∧ Below w.heap.size w w' := by
  go_enter Try.func3, Try.ntmps3
  go_wp2_with fail
  refine (new9 _ _).mono ?_
  rintro e w1 ⟨rfl, hb1⟩
  have hc1 := (bcell hb1).1
  have hz1 : w.heap.size < w1.heap.size := by have := hb1.size; simp at this; omega
  go_wp2_with fail
  refine (new10 _ _).mono ?_
  rintro e w2 ⟨rfl, hb2⟩
  have hc2 := (bcell hb2).1
  have hz2 : w.heap.size < w2.heap.size := by have := hb2.size; simp at this; omega
  have hz2a : w1.heap.size < w2.heap.size := by have := hb2.size; simp at this; omega
  go_wp2_with fail
  refine (prd11 _ _ _ _ _).mono ?_
  rintro e w3 ⟨rfl, hb3⟩
  have hc3 := (bcell hb3).1
  have hz3 : w.heap.size < w3.heap.size := by have := hb3.size; simp at this; omega
  have hz3a : w1.heap.size < w3.heap.size := by have := hb3.size; simp at this; omega
  have hz3b : w2.heap.size < w3.heap.size := by have := hb3.size; simp at this; omega
  go_wp2_with fail
  refine (prd12 _ _ _ _ _).mono ?_
  rintro e w4 ⟨rfl, hb4⟩
  have hc4 := (bcell hb4).1
  have hz4 : w.heap.size < w4.heap.size := by have := hb4.size; omega
  have hz4a : w1.heap.size < w4.heap.size := by have := hb4.size; omega
  have hz4b : w2.heap.size < w4.heap.size := by have := hb4.size; omega
  go_wp2_with fail
  refine (upd13 _ _ _ _ _ _).mono ?_
  rintro e w5 ⟨rfl, hb5⟩
  have hc5 := (bcell hb5).1
  have hz5 : w.heap.size < w5.heap.size := by have := hb5.size; omega
  have hz5a : w1.heap.size < w5.heap.size := by have := hb5.size; omega
  have hz5b : w2.heap.size < w5.heap.size := by have := hb5.size; omega
  go_wp2_with fail
  refine (upd14 _ _ _ _ _ _).mono ?_
  rintro e w6 ⟨rfl, hb6⟩
  have hc6 := (bcell hb6).1
  have hz6 : w.heap.size < w6.heap.size := by have := hb6.size; simp at this; omega
  have hz6a : w1.heap.size < w6.heap.size := by have := hb6.size; simp at this; omega
  have hz6b : w2.heap.size < w6.heap.size := by have := hb6.size; simp at this; omega
  have hz6c : w5.heap.size < w6.heap.size := by have := hb6.size; simp at this; omega
  go_wp2_with fail
  refine (clo15 _ _ _ _ _).mono ?_
  rintro e w7 ⟨rfl, hb7⟩
  have hc7 := (bcell hb7).1
  have hz7 : w.heap.size < w7.heap.size := by have := hb7.size; simp at this; omega
  have hz7a : w1.heap.size < w7.heap.size := by have := hb7.size; simp at this; omega
  have hz7b : w2.heap.size < w7.heap.size := by have := hb7.size; simp at this; omega
  have hz7c : w5.heap.size < w7.heap.size := by have := hb7.size; simp at this; omega
  have hz7d : w6.heap.size < w7.heap.size := by have := hb7.size; simp at this; omega
  go_wp2_with fail
  refine (clo16 _ _ _ _ _).mono ?_
  rintro e w8 ⟨rfl, hb8⟩
  have hc8 := (bcell hb8).1
  have hz8 : w.heap.size < w8.heap.size := by have := hb8.size; omega
  have hz8a : w1.heap.size < w8.heap.size := by have := hb8.size; omega
  have hz8b : w2.heap.size < w8.heap.size := by have := hb8.size; omega
  have hz8c : w5.heap.size < w8.heap.size := by have := hb8.size; omega
  have hz8d : w6.heap.size < w8.heap.size := by have := hb8.size; omega
  go_wp2_with fail
  have hS : (fun w' : World => w'.cell? ⟨w.heap.size, 0, none⟩ = some (.int .i64 (R)) ∧ w'.cell? ⟨w.heap.size, 1, none⟩ = some (.int .i64 (V)) ∧ w'.cell? ⟨w.heap.size, 2, none⟩ = some (.int .i64 (N)) ∧ w'.cell? ⟨w1.heap.size, 0, none⟩ = some (.int .i64 (nwR r)) ∧ w'.cell? ⟨w1.heap.size, 1, none⟩ = some (.int .i64 (0)) ∧ w'.cell? ⟨w1.heap.size, 2, none⟩ = some (.int .i64 (nwN r)) ∧ w'.cell? ⟨w2.heap.size, 0, none⟩ = some (.int .i64 (nwR r)) ∧ w'.cell? ⟨w2.heap.size, 1, none⟩ = some (.int .i64 (0)) ∧ w'.cell? ⟨w2.heap.size, 2, none⟩ = some (.int .i64 (nwN r)) ∧ w'.cell? ⟨w5.heap.size, 0, none⟩ = some (.int .i64 (uR R V N r c)) ∧ w'.cell? ⟨w5.heap.size, 1, none⟩ = some (.int .i64 (uV R V N r c)) ∧ w'.cell? ⟨w5.heap.size, 2, none⟩ = some (.int .i64 (uN R V N r c)) ∧ w'.cell? ⟨w6.heap.size, 0, none⟩ = some (.int .i64 (uR R V N r c)) ∧ w'.cell? ⟨w6.heap.size, 1, none⟩ = some (.int .i64 (uV R V N r c)) ∧ w'.cell? ⟨w6.heap.size, 2, none⟩ = some (.int .i64 (uN R V N r c))) w8 := by
    refine ⟨?_, ?_, ?_, ?_, ?_, ?_, ?_, ?_, ?_, ?_, ?_, ?_, ?_, ?_, ?_⟩ <;> go_simp
  obtain ⟨s1, s2, s3, s4, s5, s6, s7, s8, s9, s10, s11, s12, s13, s14, s15⟩ := hS
  clear hc1 hc2 hc3 hc4 hc5 hc6 hc7 hc8
  go_region_held3 (fun w' => w'.cell? ⟨w.heap.size, 0, none⟩ = some (.int .i64 (R)) ∧ w'.cell? ⟨w.heap.size, 1, none⟩ = some (.int .i64 (V)) ∧ w'.cell? ⟨w.heap.size, 2, none⟩ = some (.int .i64 (N)) ∧ w'.cell? ⟨w1.heap.size, 0, none⟩ = some (.int .i64 (nwR r)) ∧ w'.cell? ⟨w1.heap.size, 1, none⟩ = some (.int .i64 (0)) ∧ w'.cell? ⟨w1.heap.size, 2, none⟩ = some (.int .i64 (nwN r)) ∧ w'.cell? ⟨w2.heap.size, 0, none⟩ = some (.int .i64 (nwR r)) ∧ w'.cell? ⟨w2.heap.size, 1, none⟩ = some (.int .i64 (0)) ∧ w'.cell? ⟨w2.heap.size, 2, none⟩ = some (.int .i64 (nwN r)) ∧ w'.cell? ⟨w5.heap.size, 0, none⟩ = some (.int .i64 (uR R V N r c)) ∧ w'.cell? ⟨w5.heap.size, 1, none⟩ = some (.int .i64 (uV R V N r c)) ∧ w'.cell? ⟨w5.heap.size, 2, none⟩ = some (.int .i64 (uN R V N r c)) ∧ w'.cell? ⟨w6.heap.size, 0, none⟩ = some (.int .i64 (uR R V N r c)) ∧ w'.cell? ⟨w6.heap.size, 1, none⟩ = some (.int .i64 (uV R V N r c)) ∧ w'.cell? ⟨w6.heap.size, 2, none⟩ = some (.int .i64 (uN R V N r c))) (first | go_keep | (go_split_ands; refine ⟨?_, ?_, ?_, ?_, ?_, ?_, ?_, ?_, ?_, ?_, ?_, ?_, ?_, ?_, ?_⟩ <;> go_simp)) (first | (go_at_call 17; refine (chk17 _ _ _ _).mono ?_; rintro e w9 ⟨rfl, rfl⟩) | (go_at_call 18; refine (chk18 _ _ _ _).mono ?_; rintro e w9 ⟨rfl, rfl⟩) | (go_at_call 19; refine (awake19 _).mono ?_; rintro e w9 ⟨rfl, hb9⟩; have hc9 := (bcell hb9).1; have j1 : w.heap.size < w8.heap.size + 1 + 1 := (by omega); have j2 : w1.heap.size < w8.heap.size + 1 + 1 := (by omega); have j3 : w2.heap.size < w8.heap.size + 1 + 1 := (by omega); have j4 : w5.heap.size < w8.heap.size + 1 + 1 := (by omega); have j5 : w6.heap.size < w8.heap.size + 1 + 1 := (by omega)))
  go_wp2_with fail
  go_ret
  exact ⟨rfl, by repeat' (first | exact Below.refl _ _ | refine Below.trans ?_ (Below.mono hb9 ?_) | refine Below.trans ?_ (Below.mono hb8 ?_) | refine Below.trans ?_ (Below.mono hb7 ?_) | refine Below.trans ?_ (Below.mono hb6 ?_) | refine Below.trans ?_ (Below.mono hb5 ?_) | refine Below.trans ?_ (Below.mono hb4 ?_) | refine Below.trans ?_ (Below.mono hb3 ?_) | refine Below.trans ?_ (Below.mono hb2 ?_) | refine Below.trans ?_ (Below.mono hb1 ?_) | refine Below.drew ?_ | refine below_drewN ?_ _ | refine Below.alloc ?_ ?_ _ | refine Below.setCell ?_ ?_ _ | (simp <;> omega) | omega)⟩

set_option linter.unusedVariables false in
theorem matches_ (a0 a1 a2 a3 a4 : Int) (w0 : (Lit.int .i64 a0).wf = true) (w1 : (Lit.int .i64 a1).wf = true) (w2 : (Lit.int .i64 a2).wf = true) (w3 : (Lit.int .i64 a3).wf = true) (w4 : (Lit.int .i64 a4).wf = true) (w : World) : Calls Try.prog 3 #[.agg #[.int .i64 a0, .int .i64 a1, .int .i64 a2], .int .i64 a3, .int .i64 a4] w fun e w' => e = .returned (.bool true) ∧ Below w.heap.size w w' := matches3 a0 a1 a2 a3 a4 w

namespace rangingMatchesRow
open Go.ChangeShapes Go.WideShapes Go.ChangeAt Go.RowKit
open Go.ChangeMaps (open_string shut_string)
set_option linter.unusedVariables false
theorem own : ownKnob Try.prog.godebug = none := by kernel_rfl
theorem laidOut : laidOutB Try.prog = true := by kernel_rfl
set_option maxRecDepth 100000 in
theorem lifted (os : Os) (started : os.Started) (H : Type) (enc : TypeId × Value → H) :
    ReturnsInHanded {} Try.checked os 3 .any (Rows.rangingMatchesSpec.pre6 enc Try.prog Try.f3 Rows.rangingMatchesRow.domain false) (Rows.rangingMatchesSpec.post enc Try.prog Try.f3 false true false false) := by
  refine returnsInHanded_of_change (C := Try.checked) own started (by kernel_rfl) Try.func3
    (ChangeSpec.witness6 (enc := enc) (C := Try.checked) false ⟨#[], #[.agg #[.int .i64 0, .int .i64 0, .int .i64 0], .int .i64 0, .int .i64 0], []⟩ 8 (by kernel_rfl) (by kernel_rfl) (by kernel_rfl) (by kernel_rfl)) ?_
  intro W base args ds gs before hval0 hW hcnd _hsz
  have hval : ∀ (j : Nat) t v, Try.f3.params[j]? = some t → args[j]? = some v → Value.okWide Try.prog W .any base t v := hval0
  have hW' := hW
  obtain ⟨p, q, hA0, hV, rfl, hfz, hnd⟩ := hW
  have hA : DataW.TrodAll enc Try.prog W 0 (fun _ => true) true Try.f3.params.toList args.toList ds p := hA0
  rw [Try.params3] at hA hval
  obtain ⟨v0, vs0, d0, ds0, p0, q0, hargs, rfl, rfl, h0, r0⟩ := trodAll_cons hA
  obtain ⟨v1, vs1, d1, ds1, p1, q1, rfl, rfl, rfl, h1, r1⟩ := trodAll_cons r0
  obtain ⟨v2, vs2, d2, ds2, p2, q2, rfl, rfl, rfl, h2, r2⟩ := trodAll_cons r1
  obtain ⟨rfl, rfl, rfl⟩ := trodAll_nil r2
  obtain rfl : args = #[v0, v1, v2] := by cases args; simp_all
  obtain ⟨rfl, rfl⟩ := trodVars_none hV
  have k0 := h0
  have lt0 : ∀ x ∈ p0, x.block < W.heap.size := by obtain ⟨m, hm⟩ := k0; exact DataW.trod_lt m _ _ _ hm
  have k1 := h1
  have lt1 : ∀ x ∈ p1, x.block < W.heap.size := by obtain ⟨m, hm⟩ := k1; exact DataW.trod_lt m _ _ _ hm
  have k2 := h2
  have lt2 : ∀ x ∈ p2, x.block < W.heap.size := by obtain ⟨m, hm⟩ := k2; exact DataW.trod_lt m _ _ _ hm
  obtain ⟨c0_0, c0_1, c0_2, y0_0, y0_1, y0_2, _, rfl, -, -, z0_0, z0_1, z0_2⟩ := Go.Joins.open_agg3 Try.underlying23 (by kernel_rfl) (by kernel_rfl) (hval 0 23 v0 rfl rfl) h0
  obtain ⟨a0_0, e0_0, -, w0_0⟩ := DataW.trod_int Try.underlying3 z0_0
  simp only [List.cons.injEq, and_true] at e0_0; subst e0_0
  obtain ⟨a0_1, e0_1, -, w0_1⟩ := DataW.trod_int Try.underlying3 z0_1
  simp only [List.cons.injEq, and_true] at e0_1; subst e0_1
  obtain ⟨a0_2, e0_2, -, w0_2⟩ := DataW.trod_int Try.underlying3 z0_2
  simp only [List.cons.injEq, and_true] at e0_2; subst e0_2
  obtain ⟨a1, rfl, -, -, w1⟩ := open_int Try.underlying3 (hval 1 3 v1 rfl rfl) h1
  obtain ⟨a2, rfl, -, -, w2⟩ := open_int Try.underlying3 (hval 2 3 v2 rfl rfl) h2
  clear hA0 hval0
  refine (matches_ a0_0 a0_1 a0_2 a1 a2 w0_0 w0_1 w0_2 w1 w2 W).mono fun e W' ⟨he, bel⟩ => ?_
  subst he
  exact ⟨_, rfl, _, _, _, [], _, [], hW', trodAll_mk1 (shut_bool Try.underlying4 _), (trodAll_cons_mk (Below.trod laidOut (by kernel_rfl) (of_decide_eq_true (by kernel_rfl)) k0 bel lt0) (trodAll_cons_mk (Below.trod laidOut (by kernel_rfl) (of_decide_eq_true (by kernel_rfl)) k1 bel lt1) (trodAll_cons_mk (Below.trod laidOut (by kernel_rfl) (of_decide_eq_true (by kernel_rfl)) k2 bel lt2) trodAll_mk0))), rfl, bel.frame _, fun h => by cases h⟩

theorem over : Rows.rangingMatchesRow.holds Try.pinned (OpenSpec.ofChange Rows.rangingMatchesSpec) :=
  OpenClaim.holds_of_wide 3 Try.f3 rfl rfl rfl rfl rfl rfl rfl ⟨rfl, rfl, rfl, rfl, rfl⟩ rfl rfl rfl rfl rfl (by kernel_rfl) Try.func3 (by kernel_rfl)
    (of_decide_eq_true (by kernel_rfl)) (by unfold Func.isWrapper; first | (rw [if_pos (by decide +kernel)]; kernel_rfl) | (rw [if_neg (by decide +kernel)]; exact ⟨rfl, rfl⟩))
    (fun os started H enc _ => lifted os started H enc)
theorem proved : Rows.RangingMatchesSaid := over
end rangingMatchesRow
end Go.Proofs.Ytephkhaebkajkaa
