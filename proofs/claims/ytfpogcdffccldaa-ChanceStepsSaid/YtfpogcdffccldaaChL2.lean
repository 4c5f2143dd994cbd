/- ChanceSteps returns true for every input: New, State, Next, Back and Skip return what the reference returns. -/
import Derived.Test.YtfpogcdffccldaaChF
import Derived.WalkKit
import Derived.ProofKit
import Derived.OpenShut
import Derived.ShutString
import Derived.ChangeOld
import Derived.Below
import Derived.Lib.SmallJoins
namespace Go.Proofs.Ytfpogcdffccldaa
open Go.RowKit
attribute [local go_sem ↓] Go.wp_at_zero Go.wp_at_succ
attribute [local go_sem] wrap_lit

def pm : Nat → Int → Int → Nat → Int
  | 0, X, _, _ => X
  | n + 1, X, F, K => if K = 0 then X else pm n (if K % 2 = 1 then tms X F else X) (tms F F) (K / 2)
theorem pm_eq (n : Nat) (X F : Int) (K : Nat) (hK : K < 2 ^ n) (h0 : 0 ≤ X) (h1 : X < 2147483647) : pm n X F K = X * F ^ K % 2147483647 := by
  induction n generalizing X F K with
  | zero =>
    obtain rfl : K = 0 := by simpa using hK
    rw [pm, Int.pow_zero, Int.mul_one, Int.emod_eq_of_lt h0 h1]
  | succ n ih =>
    rw [pm]
    by_cases hz : K = 0
    · subst hz
      rw [if_pos rfl, Int.pow_zero, Int.mul_one, Int.emod_eq_of_lt h0 h1]
    · rw [if_neg hz]
      have hk2 : K / 2 < 2 ^ n := by rw [Nat.pow_succ] at hK; omega
      by_cases ho : K % 2 = 1
      · rw [if_pos ho, ih _ _ _ hk2 (tms_bd X F).1 (tms_bd X F).2, step_odd _ _ _ ho]
      · rw [if_neg ho, ih _ _ _ hk2 h0 h1, step_even _ _ _ (by omega)]
theorem pow_inv : (1 : Int) * 48271 ^ 2147483645 % 2147483647 = 1899818559 := by
  rw [← pm_eq 31 1 48271 2147483645 (by decide) (by omega) (by omega)]
  decide +kernel
theorem pws_inv (x : Int) : pws x 2147483645 = tms x 1899818559 := by
  unfold pws tms
  have h := pow_inv
  rw [Int.one_mul] at h
  generalize (48271 : Int) ^ 2147483645 = p at *
  rw [Int.mul_emod x p, h]
  exact emul x 1899818559 2147483647

set_option maxHeartbeats 1000000 in
set_option maxRecDepth 100000 in
theorem steps4f (s k : Int) (hs : ¬ (1 ≤ s ∧ s < 2147483647)) (w : World) : Calls Try.prog 4 #[.int .i64 s, .int .i64 k] w fun e w' => e = .returned (.bool true) ∧ Below w.heap.size w w' := by
  have hdd : decide (1 ≤ s ∧ s < 2147483647) = false := decide_eq_false hs
  have HS := Lib.hid hs; have HD := Lib.hid hdd; clear hs hdd
  have hg := good16 s
  rw [HD.out] at hg
  have HG := Lib.hid hg; clear hg
  go_enter Try.func4, Try.ntmps4
  go_wp2_with fail
  refine (new15n s _ HS.out).mono ?_
  rintro e w1 ⟨rfl, rfl⟩
  go_wp2_with fail
  refine (HG.out _).mono ?_
  rintro e w1 ⟨rfl, rfl⟩
  go_wp2_with fail
  refine (awake9 _).mono ?_
  rintro e w1 ⟨rfl, hb1⟩
  go_wp2_with fail
  go_ret
  exact ⟨rfl, hb1⟩

set_option maxHeartbeats 2000000 in
set_option maxRecDepth 100000 in
theorem steps4n (s : Int) (k : Int) (h0 : 1 ≤ s) (h1 : s < 2147483647) (hk : k < 0) (w : World) : Calls Try.prog 4 #[.int .i64 s, .int .i64 k] w fun e w' => e = .returned (.bool true) ∧ Below w.heap.size w w' := by
  have hdd : decide (1 ≤ s ∧ s < 2147483647) = true := decide_eq_true ⟨h0, h1⟩
  have hg := good16 s
  rw [hdd] at hg
  have HG := Lib.hid hg; clear hg hdd
  have hbk := back19m w.heap.size (tms s 48271)
  rw [tms_inv s (by omega) h1] at hbk
  have HBK := Lib.hid hbk; clear hbk
  have hbf := fun W => before20 s W (by omega) h1
  rw [pws_inv] at hbf
  have HBF := Lib.hid hbf; clear hbf
  obtain ⟨q0, q1⟩ := tms_bd s 1899818559
  have q2 := tms_pos2 s h0 h1
  go_enter Try.func4, Try.ntmps4
  go_wp2_with fail
  refine (new15y s _ h0 h1).mono ?_
  rintro e w1 ⟨rfl, rfl⟩
  go_wp2_with fail
  refine (HG.out _).mono ?_
  rintro e w1 ⟨rfl, rfl⟩
  go_wp2_with fail
  have s0 : Src (w.alloc (.cells #[.int .i64 s, .bool true] 55)) w.heap.size s true := heap_alloc_new w _
  have hb0 : Below w.heap.size w (w.alloc (.cells #[.int .i64 s, .bool true] 55)) := (Below.refl _ _).alloc (Nat.le_refl _) _
  generalize w.alloc (.cells #[.int .i64 s, .bool true] 55) = W at *
  have S0 := Lib.hid s0; clear s0
  refine (state17 _ s W S0.out).mono ?_
  rintro e w1 ⟨rfl, rfl⟩
  go_wp2_with fail
  refine (next12m _ s W S0.out (by omega) h1).mono ?_
  rintro e w1 ⟨rfl, m1⟩
  have b1 := below_grown hb0 m1.2 hb0.size (Nat.le_refl _)
  have S1 := Lib.hid m1.1; clear m1
  go_wp2_with fail
  refine (step18 s _ (by omega) h1).mono ?_
  rintro e w2 ⟨rfl, rfl⟩
  go_wp2_with fail
  refine (HBK.out w1 S1.out (tms_bd _ _).1 (tms_bd _ _).2).mono ?_
  rintro e w2 ⟨rfl, m2⟩
  have b2 := below_grown b1 m2.2 b1.size (Nat.le_refl _)
  have S2 := Lib.hid m2.1; clear m2 HBK
  go_wp2_with fail
  refine (back19m _ s w2 S2.out (by omega) h1).mono ?_
  rintro e w3 ⟨rfl, m3⟩
  have b3 := below_grown b2 m3.2 b2.size (Nat.le_refl _)
  have S3 := Lib.hid m3.1; clear m3
  go_wp2_with fail
  refine (HBF.out _).mono ?_
  rintro e w4 ⟨rfl, rfl⟩
  go_wp2_with fail
  refine (skip21n _ (tms s 1899818559) k w3 S3.out hk).mono ?_
  rintro e w4 ⟨rfl, rfl⟩
  go_wp2_with fail
  refine (state17 _ (tms s 1899818559) w3 S3.out).mono ?_
  rintro e w4 ⟨rfl, rfl⟩
  go_wp2_with fail
  refine (awake9 _).mono ?_
  rintro e w6 ⟨rfl, hb6⟩
  go_wp2_with fail
  go_ret
  exact ⟨rfl, b3.trans (hb6.mono b3.size)⟩

set_option maxHeartbeats 2000000 in
set_option maxRecDepth 100000 in
theorem steps4y (s : Int) (k : Nat) (h0 : 1 ≤ s) (h1 : s < 2147483647) (hk : (k : Int) ≤ 9223372036854775807) (w : World) : Calls Try.prog 4 #[.int .i64 s, .int .i64 k] w fun e w' => e = .returned (.bool true) ∧ Below w.heap.size w w' := by
  have hdd : decide (1 ≤ s ∧ s < 2147483647) = true := decide_eq_true ⟨h0, h1⟩
  have hg := good16 s
  rw [hdd] at hg
  have HG := Lib.hid hg; clear hg hdd
  have hbk := back19m w.heap.size (tms s 48271)
  rw [tms_inv s (by omega) h1] at hbk
  have HBK := Lib.hid hbk; clear hbk
  have hbf := fun W => before20 s W (by omega) h1
  rw [pws_inv] at hbf
  have HBF := Lib.hid hbf; clear hbf
  obtain ⟨q0, q1⟩ := tms_bd s 1899818559
  have q2 := tms_pos2 s h0 h1
  go_enter Try.func4, Try.ntmps4
  go_wp2_with fail
  refine (new15y s _ h0 h1).mono ?_
  rintro e w1 ⟨rfl, rfl⟩
  go_wp2_with fail
  refine (HG.out _).mono ?_
  rintro e w1 ⟨rfl, rfl⟩
  go_wp2_with fail
  have s0 : Src (w.alloc (.cells #[.int .i64 s, .bool true] 55)) w.heap.size s true := heap_alloc_new w _
  have hb0 : Below w.heap.size w (w.alloc (.cells #[.int .i64 s, .bool true] 55)) := (Below.refl _ _).alloc (Nat.le_refl _) _
  generalize w.alloc (.cells #[.int .i64 s, .bool true] 55) = W at *
  have S0 := Lib.hid s0; clear s0
  refine (state17 _ s W S0.out).mono ?_
  rintro e w1 ⟨rfl, rfl⟩
  go_wp2_with fail
  refine (next12m _ s W S0.out (by omega) h1).mono ?_
  rintro e w1 ⟨rfl, m1⟩
  have b1 := below_grown hb0 m1.2 hb0.size (Nat.le_refl _)
  have S1 := Lib.hid m1.1; clear m1
  go_wp2_with fail
  refine (step18 s _ (by omega) h1).mono ?_
  rintro e w2 ⟨rfl, rfl⟩
  go_wp2_with fail
  refine (HBK.out w1 S1.out (tms_bd _ _).1 (tms_bd _ _).2).mono ?_
  rintro e w2 ⟨rfl, m2⟩
  have b2 := below_grown b1 m2.2 b1.size (Nat.le_refl _)
  have S2 := Lib.hid m2.1; clear m2 HBK
  go_wp2_with fail
  refine (back19m _ s w2 S2.out (by omega) h1).mono ?_
  rintro e w3 ⟨rfl, m3⟩
  have b3 := below_grown b2 m3.2 b2.size (Nat.le_refl _)
  have S3 := Lib.hid m3.1; clear m3
  go_wp2_with fail
  refine (HBF.out _).mono ?_
  rintro e w4 ⟨rfl, rfl⟩
  go_wp2_with fail
  refine (skip21m _ (tms s 1899818559) k w3 S3.out (by omega) q1 hk).mono ?_
  rintro e w4 ⟨rfl, m4⟩
  have b4 := below_grown b3 m4.2 b3.size (Nat.le_refl _)
  have S4 := Lib.hid m4.1; clear m4
  go_wp2_with fail
  refine (state17 _ (pws (tms s 1899818559) k) w4 S4.out).mono ?_
  rintro e w5 ⟨rfl, rfl⟩
  go_wp2_with fail
  refine (power22 (tms s 1899818559) k w4 (by omega) q1 hk).mono ?_
  rintro e w5 ⟨rfl, rfl⟩
  go_wp2_with fail
  refine (awake9 _).mono ?_
  rintro e w6 ⟨rfl, hb6⟩
  go_wp2_with fail
  go_ret
  exact ⟨rfl, b4.trans (hb6.mono b4.size)⟩

theorem steps_ (s k : Int) (_w0 : (Lit.int .i64 s).wf = true) (w1 : (Lit.int .i64 k).wf = true) (w : World) : Calls Try.prog 4 #[.int .i64 s, .int .i64 k] w fun e w' => e = .returned (.bool true) ∧ Below w.heap.size w w' := by
  have hk : -9223372036854775808 ≤ k ∧ k ≤ 9223372036854775807 := by simpa [Lit.wf, IntKind.min, IntKind.max, IntKind.signed, IntKind.bits] using w1
  by_cases hs : 1 ≤ s ∧ s < 2147483647
  · by_cases hn : 0 ≤ k
    · obtain ⟨m, rfl⟩ := Int.eq_ofNat_of_zero_le hn
      exact steps4y s m hs.1 hs.2 hk.2 w
    · exact steps4n s k hs.1 hs.2 (by omega) w
  · exact steps4f s k hs w

namespace chanceStepsRow
open Go.ChangeShapes Go.WideShapes Go.ChangeAt Go.RowKit
open Go.ChangeMaps (open_string shut_string)
set_option linter.unusedVariables false
theorem own : ownKnob Try.prog.godebug = none := by kernel_rfl
theorem laidOut : laidOutB Try.prog = true := by kernel_rfl
set_option maxRecDepth 100000 in
theorem lifted (os : Os) (started : os.Started) (H : Type) (enc : TypeId × Value → H) :
    ReturnsInHanded {} Try.checked os 4 .any (Rows.chanceStepsSpec.pre6 enc Try.prog Try.f4 Rows.chanceStepsRow.domain false) (Rows.chanceStepsSpec.post enc Try.prog Try.f4 false true false false) := by
  refine returnsInHanded_of_change (C := Try.checked) own started (by kernel_rfl) Try.func4
    (ChangeSpec.witness6 (enc := enc) (C := Try.checked) false ⟨#[], #[.int .i64 0, .int .i64 0], []⟩ 8 (by kernel_rfl) (by kernel_rfl) (by kernel_rfl) (by kernel_rfl)) ?_
  intro W base args ds gs before hval0 hW hcnd _hsz
  have hval : ∀ (j : Nat) t v, Try.f4.params[j]? = some t → args[j]? = some v → Value.okWide Try.prog W .any base t v := hval0
  have hW' := hW
  obtain ⟨p, q, hA0, hV, rfl, hfz, hnd⟩ := hW
  have hA : DataW.TrodAll enc Try.prog W 0 (fun _ => true) true Try.f4.params.toList args.toList ds p := hA0
  rw [Try.params4] at hA hval
  obtain ⟨v0, vs0, d0, ds0, p0, q0, hargs, rfl, rfl, h0, r0⟩ := trodAll_cons hA
  obtain ⟨v1, vs1, d1, ds1, p1, q1, rfl, rfl, rfl, h1, r1⟩ := trodAll_cons r0
  obtain ⟨rfl, rfl, rfl⟩ := trodAll_nil r1
  obtain rfl : args = #[v0, v1] := by cases args; simp_all
  obtain ⟨rfl, rfl⟩ := trodVars_none hV
  have k0 := h0
  have lt0 : ∀ x ∈ p0, x.block < W.heap.size := by obtain ⟨m, hm⟩ := k0; exact DataW.trod_lt m _ _ _ hm
  have k1 := h1
  have lt1 : ∀ x ∈ p1, x.block < W.heap.size := by obtain ⟨m, hm⟩ := k1; exact DataW.trod_lt m _ _ _ hm
  obtain ⟨a0, rfl, -, -, w0⟩ := open_int Try.underlying3 (hval 0 3 v0 rfl rfl) h0
  obtain ⟨a1, rfl, -, -, w1⟩ := open_int Try.underlying3 (hval 1 3 v1 rfl rfl) h1
  clear hA0 hval0
  refine (steps_ a0 a1 w0 w1 W).mono fun e W' ⟨he, bel⟩ => ?_
  subst he
  exact ⟨_, rfl, _, _, _, [], _, [], hW', trodAll_mk1 (shut_bool Try.underlying4 _), (trodAll_cons_mk (Below.trod laidOut (by kernel_rfl) (of_decide_eq_true (by kernel_rfl)) k0 bel lt0) (trodAll_cons_mk (Below.trod laidOut (by kernel_rfl) (of_decide_eq_true (by kernel_rfl)) k1 bel lt1) trodAll_mk0)), rfl, bel.frame _, fun h => by cases h⟩

theorem over : Rows.chanceStepsRow.holds Try.pinned (OpenSpec.ofChange Rows.chanceStepsSpec) :=
  OpenClaim.holds_of_wide 4 Try.f4 rfl rfl rfl rfl rfl rfl rfl ⟨rfl, rfl, rfl, rfl, rfl⟩ rfl rfl rfl rfl rfl (by kernel_rfl) Try.func4 (by kernel_rfl)
    (of_decide_eq_true (by kernel_rfl)) (by unfold Func.isWrapper; first | (rw [if_pos (by decide +kernel)]; kernel_rfl) | (rw [if_neg (by decide +kernel)]; exact ⟨rfl, rfl⟩))
    (fun os started H enc _ => lifted os started H enc)
theorem proved : Rows.ChanceStepsSaid := over
end chanceStepsRow
end Go.Proofs.Ytfpogcdffccldaa
