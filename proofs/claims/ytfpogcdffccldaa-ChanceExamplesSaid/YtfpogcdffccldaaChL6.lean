/- ChanceExamples returns true: the chapter's examples, the order of errors, the limits, and sources that New did not return. -/
import Derived.Test.YtfpogcdffccldaaChF
import Derived.Test.YtfpogcdffccldaaChG
import Derived.WalkKit
import Derived.ProofKit
import Derived.OpenShut
import Derived.ShutString
import Derived.ChangeOld
import Derived.Below
import Derived.Lib.SmallJoins
namespace Go.Proofs.Ytfpogcdffccldaa
open Go.RowKit
attribute [local go_sem ↓] Go.wp_at_zero Go.wp_at_succ
attribute [local go_sem] wrap_lit
theorem nilState (w : World) : Calls Try.prog 17 #[.pointer none] w fun e w' => e = .returned (.tuple #[.int .i64 0, .int .i64 11]) ∧ w = w' := by
  go_enter Try.func17, Try.ntmps17
  go_wp2_with fail
  refine (check32n _ _).mono ?_
  rintro e w1 ⟨rfl, rfl⟩
  go_wp2_with fail
  go_ret2
  exact ⟨rfl, rfl⟩
theorem nilNext (w : World) : Calls Try.prog 12 #[.pointer none] w fun e w' => e = .returned (.tuple #[.int .i64 0, .int .i64 11]) ∧ w = w' := by
  go_enter Try.func12, Try.ntmps12
  go_wp2_with fail
  refine (check32n _ _).mono ?_
  rintro e w1 ⟨rfl, rfl⟩
  go_wp2_with fail
  go_ret2
  exact ⟨rfl, rfl⟩
theorem nilBack (w : World) : Calls Try.prog 19 #[.pointer none] w fun e w' => e = .returned (.tuple #[.int .i64 0, .int .i64 11]) ∧ w = w' := by
  go_enter Try.func19, Try.ntmps19
  go_wp2_with fail
  refine (check32n _ _).mono ?_
  rintro e w1 ⟨rfl, rfl⟩
  go_wp2_with fail
  go_ret2
  exact ⟨rfl, rfl⟩
theorem nilSkip (w : World) : Calls Try.prog 21 #[.pointer none, .int .i64 (-1)] w fun e w' => e = .returned (.tuple #[.int .i64 0, .int .i64 11]) ∧ w = w' := by
  go_enter Try.func21, Try.ntmps21
  go_wp2_with fail
  refine (check32n _ _).mono ?_
  rintro e w1 ⟨rfl, rfl⟩
  go_wp2_with fail
  go_ret2
  exact ⟨rfl, rfl⟩
theorem nilBelow (w : World) : Calls Try.prog 24 #[.pointer none, .int .i64 0] w fun e w' => e = .returned (.tuple #[.int .i64 0, .int .i64 11]) ∧ w = w' := by
  go_enter Try.func24, Try.ntmps24
  go_wp2_with fail
  refine (check32n _ _).mono ?_
  rintro e w1 ⟨rfl, rfl⟩
  go_wp2_with fail
  go_ret2
  exact ⟨rfl, rfl⟩
theorem nilHit (w : World) : Calls Try.prog 26 #[.pointer none, .int .i64 2, .int .i64 1] w fun e w' => e = .returned (.tuple #[.bool false, .int .i64 11]) ∧ w = w' := by
  go_enter Try.func26, Try.ntmps26
  go_wp2_with fail
  refine (check32n _ _).mono ?_
  rintro e w1 ⟨rfl, rfl⟩
  go_wp2_with fail
  go_ret2
  exact ⟨rfl, rfl⟩
theorem nilShuffle (w : World) : Calls Try.prog 11 #[.pointer none, .int .i64 (-1)] w fun e w' => e = .returned (.tuple #[.slice none 0 0, .int .i64 11]) ∧ w = w' := by
  go_enter Try.func11, Try.ntmps11
  go_wp2_with fail
  refine (check32n _ _).mono ?_
  rintro e w1 ⟨rfl, rfl⟩
  go_wp2_with fail
  go_ret2
  exact ⟨rfl, rfl⟩
theorem nilFates (w : World) : Calls Try.prog 23 #[.pointer none, .int .i64 (-1), .int .i64 0, .int .i64 0, .int .i64 0] w fun e w' => e = .returned (.tuple #[.slice none 0 0, .int .i64 11]) ∧ w = w' := by
  go_enter Try.func23, Try.ntmps23
  go_wp2_with fail
  refine (check32n _ _).mono ?_
  rintro e w1 ⟨rfl, rfl⟩
  go_wp2_with fail
  go_ret2
  exact ⟨rfl, rfl⟩
theorem hit26f (g : Nat) (x : Int) (w : World) (h : Src w g x false) : Calls Try.prog 26 #[.pointer (some ⟨g, 0, none⟩), .int .i64 2, .int .i64 1] w fun e w' => e = .returned (.tuple #[.bool false, .int .i64 11]) ∧ w = w' := by
  have H := Lib.hid (fun r => check32f g x r w h)
  clear h
  go_enter Try.func26, Try.ntmps26
  go_wp2_with fail
  refine (H.out _).mono ?_
  rintro e w1 ⟨rfl, rfl⟩
  go_wp2_with fail
  go_ret2
  exact ⟨rfl, rfl⟩

set_option maxHeartbeats 2000000 in
set_option maxRecDepth 100000 in
theorem nothing31 (w : World) : Calls Try.prog 31 #[] w fun e w' => e = .returned (.bool true) ∧ Below w.heap.size w w' := by
  go_enter Try.func31, Try.ntmps31
  go_wp2_with fail
  have hs : Src ((w.alloc (.cells #[.int .i64 0, .bool false] 55)).alloc (.cells #[.pointer none, .pointer (some ⟨w.heap.size, 0, none⟩)] 23)) w.heap.size 0 false := Src.alloc (heap_alloc_new w _) _
  have hc : ((w.alloc (.cells #[.int .i64 0, .bool false] 55)).alloc (.cells #[.pointer none, .pointer (some ⟨w.heap.size, 0, none⟩)] 23)).cell? ⟨w.heap.size + 1, 0, none⟩ = some (.pointer none) := by
    rw [World.cell?_alloc_at _ _ _ _ (by simp)]; rfl
  have hd : ((w.alloc (.cells #[.int .i64 0, .bool false] 55)).alloc (.cells #[.pointer none, .pointer (some ⟨w.heap.size, 0, none⟩)] 23)).cell? ⟨w.heap.size + 1, 1, none⟩ = some (.pointer (some ⟨w.heap.size, 0, none⟩)) := by
    rw [World.cell?_alloc_at _ _ _ _ (by simp)]; rfl
  have hb : Below w.heap.size w ((w.alloc (.cells #[.int .i64 0, .bool false] 55)).alloc (.cells #[.pointer none, .pointer (some ⟨w.heap.size, 0, none⟩)] 23)) := ((Below.refl _ _).alloc (Nat.le_refl _) _).alloc (by simp) _
  generalize ((w.alloc (.cells #[.int .i64 0, .bool false] 55)).alloc (.cells #[.pointer none, .pointer (some ⟨w.heap.size, 0, none⟩)] 23)) = W at *
  have HSS := Lib.hid hs; clear hs
  go_loop [24] (fun i => ∃ k : Nat, k ≤ 2 ∧ i = .int .i64 k) (fun i => 2 - (intOf i).toNat)
  case atStart => exact ⟨0, by omega, rfl⟩
  case round =>
    obtain ⟨k, hk, rfl⟩ := hrel
    rcases (by omega : k = 0 ∨ k = 1 ∨ k = 2) with rfl | rfl | rfl
    · go_wp2_with fail
      refine (nilState _).mono ?_
      rintro e w2 ⟨rfl, rfl⟩
      go_wp2_with fail
      refine (nilNext _).mono ?_
      rintro e w2 ⟨rfl, rfl⟩
      go_wp2_with fail
      refine (nilBack _).mono ?_
      rintro e w2 ⟨rfl, rfl⟩
      go_wp2_with fail
      refine (nilSkip _).mono ?_
      rintro e w2 ⟨rfl, rfl⟩
      go_wp2_with fail
      refine (nilBelow _).mono ?_
      rintro e w2 ⟨rfl, rfl⟩
      go_wp2_with fail
      refine (nilHit _).mono ?_
      rintro e w2 ⟨rfl, rfl⟩
      go_wp2_with fail
      refine (nilShuffle _).mono ?_
      rintro e w2 ⟨rfl, rfl⟩
      go_wp2_with fail
      refine (nilFates _).mono ?_
      rintro e w2 ⟨rfl, rfl⟩
      go_wp2_with fail
      exact ⟨⟨1, by omega, rfl⟩, by simp [intOf]⟩
    · have HS := HSS.out
      have HS' := Lib.hid HS
      clear HS
      go_wp2_with fail
      refine (state17f _ 0 W HS'.out).mono ?_
      rintro e w2 ⟨rfl, rfl⟩
      go_wp2_with fail
      refine (next12f _ 0 W HS'.out).mono ?_
      rintro e w2 ⟨rfl, rfl⟩
      go_wp2_with fail
      refine (back19f _ 0 W HS'.out).mono ?_
      rintro e w2 ⟨rfl, rfl⟩
      go_wp2_with fail
      refine (skip21f _ 0 (-1) W HS'.out).mono ?_
      rintro e w2 ⟨rfl, rfl⟩
      go_wp2_with fail
      refine (below24f _ 0 0 W HS'.out).mono ?_
      rintro e w2 ⟨rfl, rfl⟩
      go_wp2_with fail
      refine (hit26f _ 0 W HS'.out).mono ?_
      rintro e w2 ⟨rfl, rfl⟩
      go_wp2_with fail
      refine (shuffle11f _ 0 (-1) W HS'.out).mono ?_
      rintro e w2 ⟨rfl, rfl⟩
      go_wp2_with fail
      refine (fates23f _ 0 (-1) 0 0 0 W HS'.out).mono ?_
      rintro e w2 ⟨rfl, rfl⟩
      go_wp2_with fail
      exact ⟨⟨2, by omega, rfl⟩, by simp [intOf]⟩
    · go_wp2_with fail
      go_ret
      exact ⟨rfl, hb⟩

set_option maxHeartbeats 8000000 in
set_option maxRecDepth 100000 in
theorem examples8 (w : World) : Calls Try.prog 8 #[] w fun e w' => e = .returned (.bool true) ∧ Below w.heap.size w w' := by
  go_enter Try.func8, Try.ntmps8
  go_wp2_with fail
  refine (awake9 _).mono ?_
  rintro e wa ⟨rfl, ba⟩
  go_wp2_with fail
  refine (nothing31 _).mono ?_
  rintro e wb ⟨rfl, bb⟩
  have hb1 : Below w.heap.size w wb := ba.trans (bb.mono ba.size)
  clear ba bb
  go_wp2_with fail
  refine (new15n 0 _ (by decide)).mono ?_
  rintro e w' ⟨rfl, rfl⟩
  go_wp2_with fail
  refine (new15n 2147483647 _ (by decide)).mono ?_
  rintro e w' ⟨rfl, rfl⟩
  go_wp2_with fail
  refine (new15y 2147483646 _ (by decide) (by decide)).mono ?_
  rintro e w' ⟨rfl, rfl⟩
  have s0 : Src (wb.alloc (.cells #[.int .i64 2147483646, .bool true] 55)) wb.heap.size 2147483646 true := heap_alloc_new wb _
  have hb0 : Below w.heap.size w (wb.alloc (.cells #[.int .i64 2147483646, .bool true] 55)) := hb1.alloc hb1.size _
  go_wp2_with fail
  generalize wb.alloc (.cells #[.int .i64 2147483646, .bool true] 55) = W at *
  have S0 := Lib.hid s0; clear s0
  have h := next12m _ 2147483646 W S0.out (by omega) (by omega)
  rw [show tms 2147483646 48271 = 2147435376 by decide +kernel] at h
  have H1 := Lib.hid h; clear h
  refine H1.out.mono ?_
  rintro e w1 ⟨rfl, m1⟩
  have b1 := below_grown hb0 m1.2 hb0.size hb1.size
  have S1 := Lib.hid m1.1; clear m1 H1 S0
  go_wp2_with fail
  refine (below24e _ 2147435376 1048577 w1 S1.out (by decide)).mono ?_
  rintro e w' ⟨rfl, rfl⟩
  go_wp2_with fail
  have h := below24y _ 2147435376 1 w1 S1.out (by omega) (by omega) (by omega) (by omega)
  rw [show tms 2147435376 48271 = 1964877853 by decide +kernel] at h
  rw [show drw 2147435376 1 = 0 by decide +kernel] at h
  have H2 := Lib.hid h; clear h
  refine H2.out.mono ?_
  rintro e w2 ⟨rfl, m2⟩
  have b2 := below_grown b1 m2.2 b1.size hb1.size
  have S2 := Lib.hid m2.1; clear m2 H2 S1
  go_wp2_with fail
  refine (hit26e _ 1964877853 1 0 w2 S2.out (by decide)).mono ?_
  rintro e w' ⟨rfl, rfl⟩
  go_wp2_with fail
  refine (hit26e _ 1964877853 (-1) 5 w2 S2.out (by decide)).mono ?_
  rintro e w' ⟨rfl, rfl⟩
  go_wp2_with fail
  have h := hit26y _ 1964877853 0 7 w2 S2.out (by omega) (by omega) (by omega) (by omega) (by omega) (by omega)
  rw [show tms 1964877853 48271 = 856088761 by decide +kernel] at h
  rw [show decide (drw 1964877853 7 < 0) = false by decide +kernel] at h
  have H3 := Lib.hid h; clear h
  refine H3.out.mono ?_
  rintro e w3 ⟨rfl, m3⟩
  have b3 := below_grown b2 m3.2 b2.size hb1.size
  have S3 := Lib.hid m3.1; clear m3 H3 S2
  go_wp2_with fail
  have h := hit26y _ 856088761 7 7 w3 S3.out (by omega) (by omega) (by omega) (by omega) (by omega) (by omega)
  rw [show tms 856088761 48271 = 232763010 by decide +kernel] at h
  rw [show decide (drw 856088761 7 < 7) = true by decide +kernel] at h
  have H4 := Lib.hid h; clear h
  refine H4.out.mono ?_
  rintro e w4 ⟨rfl, m4⟩
  have b4 := below_grown b3 m4.2 b3.size hb1.size
  have S4 := Lib.hid m4.1; clear m4 H4 S3
  go_wp2_with fail
  refine (shuffle11e _ 232763010 257 w4 S4.out (by decide)).mono ?_
  rintro e w' ⟨rfl, rfl⟩
  go_wp2_with fail
  refine (shuffle11y _ 232763010 0 w4 S4.out (by omega) (by omega) (by omega)).mono ?_
  rintro e w5 ⟨As, caps, rfl, _, t5, m5⟩
  have b5 := below_grown b4 m5 b4.size hb1.size
  rw [show (shuf 0 232763010).2 = 232763010 by decide +kernel] at t5
  have S5 := Lib.hid t5; clear m5 t5 S4
  go_wp2_with fail
  refine (fates23e _ 232763010 257 0 0 0 w5 S5.out (by decide)).mono ?_
  rintro e w' ⟨rfl, rfl⟩
  go_wp2_with fail
  refine (fates23e _ 232763010 1 101 0 0 w5 S5.out (by decide)).mono ?_
  rintro e w' ⟨rfl, rfl⟩
  go_wp2_with fail
  refine (fates23e _ 232763010 1 0 9 0 w5 S5.out (by decide)).mono ?_
  rintro e w' ⟨rfl, rfl⟩
  go_wp2_with fail
  refine (fates23e _ 232763010 1 0 0 (-1) w5 S5.out (by decide)).mono ?_
  rintro e w' ⟨rfl, rfl⟩
  go_wp2_with fail
  refine (fates23y _ 232763010 5 100 0 2 w5 S5.out (by omega) (by omega) (by omega) (by omega) (by omega) (by omega) (by omega) (by omega)).mono ?_
  rintro e w6 ⟨Af, capf, _, rfl, hof, t6, m6⟩
  have b6 := below_grown b5 m6 b5.size hb1.size
  have hg6 := S5.out.lt
  rw [show ftX 100 0 2 232763010 5 = 408952498 by decide +kernel] at t6
  rw [show ftL 100 0 2 232763010 5 = [-1, -1, 0, -1, -1] by decide +kernel] at hof
  have S6 := Lib.hid t6; clear m6 t6 S5
  have HOF := Lib.hid hof; clear hof
  go_wp2_with fail
  have h := skip21m _ 408952498 0 w6 S6.out (by omega) (by omega) (by omega)
  rw [show pws 408952498 0 = 408952498 by decide +kernel] at h
  have H7 := Lib.hid h; clear h
  refine H7.out.mono ?_
  rintro e w7 ⟨rfl, m7⟩
  have b7 := below_grown b6 m7.2 b6.size hb1.size
  have S7 := Lib.hid m7.1
  have iF : Is .i64 w7 w7.heap.size Af [-1, -1, 0, -1, -1] := fun hp => by
    obtain ⟨g, cs, e1, e2, e3, e4⟩ := HOF.out hp
    have hh := (m7.2.block g (heap_lt e3) (by simp; omega)).trans e3
    exact ⟨g, 0, e1, heap_lt hh, fun j hj => by simp [World.cell?, hh, e4 j hj]⟩
  have IF := Lib.hid iF; clear iF HOF
  clear m7 H7 S6
  go_wp2_with fail
  refine (state17 _ 408952498 w7 S7.out).mono ?_
  rintro e w' ⟨rfl, rfl⟩
  go_wp2_with fail
  refine (equalInts Af (some ⟨w7.heap.size, 0, none⟩) capf 5 [-1, -1, 0, -1, -1] [-1, -1, 0, -1, -1] (w7.heap.size + 1) _ ((IF.out.below ((Below.refl _ _).alloc (Nat.le_refl _) _)).mono (by omega)) (fun _ => ⟨w7.heap.size, 0, rfl, by omega, fun j hj => ?_⟩) (by decide)).mono ?_
  · rw [World.cell?_alloc_at _ _ _ _ rfl]
    rcases (by have : j < 5 := hj; omega : j = 0 ∨ j = 1 ∨ j = 2 ∨ j = 3 ∨ j = 4) with rfl | rfl | rfl | rfl | rfl <;> rfl
  rintro e w' ⟨rfl, nd, rfl⟩
  have hdt : decide (([-1, -1, 0, -1, -1] : List Int) = [-1, -1, 0, -1, -1]) = true := by decide
  go_wp2_with fail
  go_ret
  exact ⟨rfl, below_drewN (b7.alloc b7.size _) _⟩

namespace chanceExamplesRow
open Go.ChangeShapes Go.WideShapes Go.ChangeAt Go.RowKit
open Go.ChangeMaps (open_string shut_string)
set_option linter.unusedVariables false
theorem own : ownKnob Try.prog.godebug = none := by kernel_rfl
theorem laidOut : laidOutB Try.prog = true := by kernel_rfl
set_option maxRecDepth 100000 in
theorem lifted (os : Os) (started : os.Started) (H : Type) (enc : TypeId × Value → H) :
    ReturnsInHanded {} Try.checked os 8 .any (Rows.chanceExamplesSpec.pre6 enc Try.prog Try.f8 Rows.chanceExamplesRow.domain false) (Rows.chanceExamplesSpec.post enc Try.prog Try.f8 false true false false) := by
  refine returnsInHanded_of_change (C := Try.checked) own started (by kernel_rfl) Try.func8
    (ChangeSpec.witness6 (enc := enc) (C := Try.checked) false ⟨#[], #[], []⟩ 8 (by kernel_rfl) (by kernel_rfl) (by kernel_rfl) (by kernel_rfl)) ?_
  intro W base args ds gs before hval0 hW hcnd _hsz
  have hval : ∀ (j : Nat) t v, Try.f8.params[j]? = some t → args[j]? = some v → Value.okWide Try.prog W .any base t v := hval0
  have hW' := hW
  obtain ⟨p, q, hA0, hV, rfl, hfz, hnd⟩ := hW
  have hA : DataW.TrodAll enc Try.prog W 0 (fun _ => true) true Try.f8.params.toList args.toList ds p := hA0
  obtain ⟨rfl, rfl, rfl⟩ := trodAll_none hA
  obtain ⟨rfl, rfl⟩ := trodVars_none hV
  clear hA0 hval0
  refine (examples8  W).mono fun e W' ⟨he, bel⟩ => ?_
  subst he
  exact ⟨_, rfl, _, _, _, [], _, [], hW', trodAll_mk1 (shut_bool Try.underlying4 _), trodAll_mk0, rfl, bel.frame _, fun h => by cases h⟩

theorem over : Rows.chanceExamplesRow.holds Try.pinned (OpenSpec.ofChange Rows.chanceExamplesSpec) :=
  OpenClaim.holds_of_wide 8 Try.f8 rfl rfl rfl rfl rfl rfl rfl ⟨rfl, rfl, rfl, rfl, rfl⟩ rfl rfl rfl rfl rfl (by kernel_rfl) Try.func8 (by kernel_rfl)
    (of_decide_eq_true (by kernel_rfl)) (by unfold Func.isWrapper; first | (rw [if_pos (by decide +kernel)]; kernel_rfl) | (rw [if_neg (by decide +kernel)]; exact ⟨rfl, rfl⟩))
    (fun os started H enc _ => lifted os started H enc)
theorem proved : Rows.ChanceExamplesSaid := over
end chanceExamplesRow
end Go.Proofs.Ytfpogcdffccldaa
