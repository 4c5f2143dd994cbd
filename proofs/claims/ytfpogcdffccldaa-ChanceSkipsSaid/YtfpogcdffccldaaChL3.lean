/- ChanceSkips returns true for every input: Back undoes Next, Skip of k is k calls of Next, and Skip of j and of k together are Skip of j + k. -/
import Derived.Test.YtfpogcdffccldaaChF
import Derived.WalkKit
import Derived.ProofKit
import Derived.OpenShut
import Derived.ShutString
import Derived.ChangeOld
import Derived.Below
import Derived.Lib.SmallJoins
namespace Go.Proofs.Ytfpogcdffccldaa
open Go.RowKit
attribute [local go_sem ↓] Go.wp_at_zero Go.wp_at_succ
attribute [local go_sem] wrap_lit

theorem src_three (w : World) (x : Int) (m : Bool) : ∃ W, (((w.alloc (.cells #[.int .i64 x, .bool m] 55)).alloc (.cells #[.int .i64 x, .bool m] 55)).alloc (.cells #[.int .i64 x, .bool m] 55)) = W ∧
    Src W w.heap.size x m ∧ Src W (w.heap.size + 1) x m ∧ Src W (w.heap.size + 1 + 1) x m ∧ Below w.heap.size w W ∧ W.heap.size = w.heap.size + 3 := by
  refine ⟨_, rfl, Src.alloc (Src.alloc (heap_alloc_new w _) _) _, ?_, ?_, (((Below.refl _ _).alloc (Nat.le_refl _) _).alloc (by simp) _).alloc (by simp; omega) _, by simp⟩
  · have := Src.alloc (g := (w.alloc (.cells #[.int .i64 x, .bool m] 55)).heap.size) (x := x) (m := m) (heap_alloc_new (w.alloc (.cells #[.int .i64 x, .bool m] 55)) (.cells #[.int .i64 x, .bool m] 55)) (.cells #[.int .i64 x, .bool m] 55)
    rw [World.size_alloc] at this; exact this
  · have := heap_alloc_new ((w.alloc (.cells #[.int .i64 x, .bool m] 55)).alloc (.cells #[.int .i64 x, .bool m] 55)) (.cells #[.int .i64 x, .bool m] 55)
    rw [World.size_alloc, World.size_alloc] at this; exact this
theorem skip21i (g : Nat) (x k : Int) (w : World) (h : Src w g x true) (h0 : 0 ≤ x) (h1 : x < 2147483647) (hk0 : 0 ≤ k) (hk : k ≤ 9223372036854775807) :
    Calls Try.prog 21 #[.pointer (some ⟨g, 0, none⟩), .int .i64 k] w fun e w' => e = .returned (.tuple #[.int .i64 (pws x k.toNat), .int .i64 0]) ∧ Moved w g (pws x k.toNat) w' := by
  obtain ⟨n, rfl⟩ := Int.eq_ofNat_of_zero_le hk0
  rw [Int.toNat_natCast]
  exact skip21m g x n w h h0 h1 hk
theorem pws_back (x : Int) (m : Nat) : tms (pws x (m + 1)) 1899818559 = pws x m := by
  rw [pws_succ]; exact tms_inv _ (pws_bd x m).1 (pws_bd x m).2

set_option maxHeartbeats 1000000 in
set_option maxRecDepth 100000 in
theorem skips5a (s j k f : Int) (h : j < 0) (w : World) : Calls Try.prog 5 #[.int .i64 s, .int .i64 j, .int .i64 k, .int .u8 f] w fun e w' => e = .returned (.bool true) ∧ Below w.heap.size w w' := by
  go_enter Try.func5, Try.ntmps5
  go_wp2_with fail
  refine (awake9 _).mono ?_
  rintro e w1 ⟨rfl, hb1⟩
  go_wp2_with fail
  go_ret
  exact ⟨rfl, hb1⟩

set_option maxHeartbeats 1000000 in
set_option maxRecDepth 100000 in
theorem skips5b (s j k f : Int) (h0 : 0 ≤ j) (h : 4611686018427387904 ≤ j) (w : World) : Calls Try.prog 5 #[.int .i64 s, .int .i64 j, .int .i64 k, .int .u8 f] w fun e w' => e = .returned (.bool true) ∧ Below w.heap.size w w' := by
  go_enter Try.func5, Try.ntmps5
  go_wp2_with fail
  refine (awake9 _).mono ?_
  rintro e w1 ⟨rfl, hb1⟩
  go_wp2_with fail
  go_ret
  exact ⟨rfl, hb1⟩

set_option maxHeartbeats 1000000 in
set_option maxRecDepth 100000 in
theorem skips5c (s j k f : Int) (h0 : 0 ≤ j) (h1 : j < 4611686018427387904) (h : k < 0) (w : World) : Calls Try.prog 5 #[.int .i64 s, .int .i64 j, .int .i64 k, .int .u8 f] w fun e w' => e = .returned (.bool true) ∧ Below w.heap.size w w' := by
  go_enter Try.func5, Try.ntmps5
  go_wp2_with fail
  refine (awake9 _).mono ?_
  rintro e w1 ⟨rfl, hb1⟩
  go_wp2_with fail
  go_ret
  exact ⟨rfl, hb1⟩

set_option maxHeartbeats 1000000 in
set_option maxRecDepth 100000 in
theorem skips5d (s j k f : Int) (h0 : 0 ≤ j) (h1 : j < 4611686018427387904) (h2 : 0 ≤ k) (h : 4611686018427387904 ≤ k) (w : World) : Calls Try.prog 5 #[.int .i64 s, .int .i64 j, .int .i64 k, .int .u8 f] w fun e w' => e = .returned (.bool true) ∧ Below w.heap.size w w' := by
  go_enter Try.func5, Try.ntmps5
  go_wp2_with fail
  refine (awake9 _).mono ?_
  rintro e w1 ⟨rfl, hb1⟩
  go_wp2_with fail
  go_ret
  exact ⟨rfl, hb1⟩

set_option maxHeartbeats 1000000 in
set_option maxRecDepth 100000 in
theorem skips5f (s j k f : Int) (hs : ¬ (1 ≤ s ∧ s < 2147483647)) (h0 : 0 ≤ j) (h1 : j < 4611686018427387904) (h2 : 0 ≤ k) (h3 : k < 4611686018427387904) (w : World) : Calls Try.prog 5 #[.int .i64 s, .int .i64 j, .int .i64 k, .int .u8 f] w fun e w' => e = .returned (.bool true) ∧ Below w.heap.size w w' := by
  have HS := Lib.hid hs; clear hs
  go_enter Try.func5, Try.ntmps5
  go_wp2_with fail
  refine (awake9 _).mono ?_
  rintro e w1 ⟨rfl, hb1⟩
  go_wp2_with fail
  refine (source10n s _ HS.out).mono ?_
  rintro e w2 ⟨rfl, rfl⟩
  go_wp2_with fail
  refine (source10n s _ HS.out).mono ?_
  rintro e w2 ⟨rfl, rfl⟩
  go_wp2_with fail
  refine (source10n s _ HS.out).mono ?_
  rintro e w2 ⟨rfl, rfl⟩
  go_wp2_with fail
  obtain ⟨W, hW, s1, s2, s3, sb, sz⟩ := src_three w1 0 false
  rw [hW]
  have S1 := Lib.hid s1; have S2 := Lib.hid s2; have S3 := Lib.hid s3; have SZ := Lib.hid sz
  clear s1 s2 s3 sz hW
  have hbw : Below w.heap.size w W := hb1.trans (sb.mono hb1.size)
  have hB := hb1.size
  refine (state17f _ 0 W S1.out).mono ?_
  rintro e w2 ⟨rfl, rfl⟩
  go_wp2_with fail
  refine (skip21f _ 0 j W S1.out).mono ?_
  rintro e w2 ⟨rfl, rfl⟩
  go_wp2_with fail
  refine (skip21f _ 0 k W S1.out).mono ?_
  rintro e w2 ⟨rfl, rfl⟩
  go_wp2_with fail
  refine (skip21f _ 0 (j + k) W S2.out).mono ?_
  rintro e w2 ⟨rfl, rfl⟩
  go_wp2_with fail
  go_ret
  exact ⟨rfl, hbw⟩

set_option maxHeartbeats 3000000 in
set_option maxRecDepth 100000 in
theorem skips5y (s j k : Int) (f : Nat) (h0 : 1 ≤ s) (h1 : s < 2147483647) (hj0 : 0 ≤ j) (hj : j < 4611686018427387904) (hk0 : 0 ≤ k) (hk : k < 4611686018427387904) (hf : f ≤ 255) (w : World) : Calls Try.prog 5 #[.int .i64 s, .int .i64 j, .int .i64 k, .int .u8 f] w fun e w' => e = .returned (.bool true) ∧ Below w.heap.size w w' := by
  go_enter Try.func5, Try.ntmps5
  go_wp2_with fail
  refine (awake9 _).mono ?_
  rintro e w1 ⟨rfl, hb1⟩
  go_wp2_with fail
  refine (source10y s _ h0 h1).mono ?_
  rintro e w2 ⟨rfl, rfl⟩
  go_wp2_with fail
  refine (source10y s _ h0 h1).mono ?_
  rintro e w2 ⟨rfl, rfl⟩
  go_wp2_with fail
  refine (source10y s _ h0 h1).mono ?_
  rintro e w2 ⟨rfl, rfl⟩
  go_wp2_with fail
  obtain ⟨W, hW, s1, s2, s3, sb, sz⟩ := src_three w1 s true
  rw [hW]
  have S1 := Lib.hid s1; have S2 := Lib.hid s2; have S3 := Lib.hid s3; have SZ := Lib.hid sz
  clear s1 s2 s3 sz hW
  have hbw : Below w.heap.size w W := hb1.trans (sb.mono hb1.size)
  have hB := hb1.size
  refine (state17 _ s W S1.out).mono ?_
  rintro e w2 ⟨rfl, rfl⟩
  go_wp2_with fail
  refine (skip21i _ s j W S1.out (by omega) h1 hj0 (by omega)).mono ?_
  rintro e w2 ⟨rfl, m2⟩
  have b2 := below_grown hbw m2.2 hbw.size hB
  have M2 := Lib.hid m2; clear m2
  go_wp2_with fail
  have hsk := skip21i w1.heap.size (pws s j.toNat) k w2 M2.out.1 (pws_bd _ _).1 (pws_bd _ _).2 hk0 (by omega)
  rw [pws_add, ← Int.toNat_add hj0 hk0] at hsk
  refine hsk.mono ?_
  rintro e w3 ⟨rfl, m3⟩
  have b3 := below_grown b2 m3.2 b2.size hB
  have M3 := Lib.hid m3; clear m3 hsk
  go_wp2_with fail
  refine (skip21i _ s (j + k) w3 ((S2.out.grown M2.out.2 (by omega)).grown M3.out.2 (by omega)) (by omega) h1 (by omega) (by omega)).mono ?_
  rintro e w4 ⟨rfl, m4⟩
  have b4 := below_grown b3 m4.2 b3.size (by omega)
  have S34 := Lib.hid (((S3.out.grown M2.out.2 (by omega)).grown M3.out.2 (by omega)).grown m4.2 (by omega))
  clear m4 M2 M3 S1 S2
  have hfI : (f : Int) ≤ 255 := by omega
  go_wp2_with fail
  go_loopw [20, 21] (fun la i wr => ∃ m : Nat, m ≤ f ∧ la = .int .i64 (pws s m) ∧ i = .int .i64 m ∧ Src wr (w1.heap.size + 1 + 1) (pws s m) true ∧ Below w.heap.size w wr) (fun _ i _ => f - (intOf i).toNat)
  case atStart => exact ⟨0, Nat.zero_le _, by rw [pws_zero s (by omega) h1], rfl, by rw [pws_zero s (by omega) h1]; exact S34.out, b4⟩
  case round =>
    obtain ⟨m, hm, rfl, rfl, hs, hbr⟩ := hrel
    have HS := Lib.hid hs; clear hs
    have hbd := pws_bd s m
    by_cases hlt : m < f
    · have hlI : (m : Int) < (f : Int) := by omega
      go_wp2_with fail
      refine (next12m _ (pws s m) wr HS.out hbd.1 hbd.2).mono ?_
      rintro e w5 ⟨rfl, m5⟩
      have b5 := below_grown hbr m5.2 hbr.size (by omega)
      have M5 := Lib.hid m5.1; clear m5
      go_wp2_with fail
      exact ⟨⟨m + 1, by omega, by rw [pws_succ], by go_num, by rw [pws_succ]; exact M5.out, b5⟩, by simp [intOf]; omega⟩
    · obtain rfl : m = f := by omega
      obtain ⟨wz, rfl⟩ : ∃ wz : World, wz = wr := ⟨_, rfl⟩
      go_wp2_with fail
      refine (source10y s _ h0 h1).mono ?_
      rintro e w6 ⟨rfl, rfl⟩
      go_wp2_with fail
      have s6 : Src (wz.alloc (.cells #[.int .i64 s, .bool true] 55)) wz.heap.size s true := heap_alloc_new wz _
      have b6 : Below w.heap.size w (wz.alloc (.cells #[.int .i64 s, .bool true] 55)) := hbr.alloc hbr.size _
      have S6 := Lib.hid (HS.out.alloc (.cells #[.int .i64 s, .bool true] 55))
      have S6b := Lib.hid s6; clear s6
      have hne : w1.heap.size + 1 + 1 ≠ wz.heap.size := by have := HS.out.lt; omega
      generalize wz.alloc (.cells #[.int .i64 s, .bool true] 55) = W6 at *
      refine (skip21m _ s m W6 S6b.out (by omega) h1 (by omega)).mono ?_
      rintro e w7 ⟨rfl, m7⟩
      have b7 := below_grown b6 m7.2 b6.size hbr.size
      have S7 := Lib.hid (S6.out.grown m7.2 hne)
      clear m7 S6 S6b HS S34 S3
      have hnn : (pws s m != pws s m) = false := by simp
      go_wp2_with fail
      clear hnn hne
      go_loopw [20, 23] (fun la i wr => ∃ q : Nat, q ≤ m ∧ la = .int .i64 (pws s (m - q)) ∧ i = .int .i64 q ∧ Src wr (w1.heap.size + 1 + 1) (pws s (m - q)) true ∧ Below w.heap.size w wr) (fun _ i _ => m - (intOf i).toNat)
      case atStart => exact ⟨0, Nat.zero_le _, rfl, rfl, S7.out, b7⟩
      case round =>
        obtain ⟨q, hq, rfl, rfl, hs, hbr2⟩ := hrel
        have HS := Lib.hid hs; clear hs
        by_cases hlt : q < m
        · have hlI : (q : Int) < (m : Int) := by omega
          have hbk := back19m (w1.heap.size + 1 + 1) (pws s (m - q)) wr HS.out (pws_bd _ _).1 (pws_bd _ _).2
          rw [show m - q = (m - (q + 1)) + 1 by omega, pws_back] at hbk
          have HBK := Lib.hid hbk; clear hbk
          go_wp2_with fail
          refine HBK.out.mono ?_
          rintro e w8 ⟨rfl, m8⟩
          have b8 := below_grown hbr2 m8.2 hbr2.size (by omega)
          have M8 := Lib.hid m8.1; clear m8
          go_wp2_with fail
          exact ⟨⟨q + 1, by omega, rfl, by go_num, M8.out, b8⟩, by simp [intOf]; omega⟩
        · obtain rfl : q = m := by omega
          rw [Nat.sub_self, pws_zero s (by omega) h1]
          have hss : (s == s) = true := by simp
          go_wp2_with fail
          go_ret
          exact ⟨rfl, hbr2⟩

theorem skips_ (s j k f : Int) (_w0 : (Lit.int .i64 s).wf = true) (_w1 : (Lit.int .i64 j).wf = true) (_w2 : (Lit.int .i64 k).wf = true) (w3 : (Lit.int .u8 f).wf = true) (w : World) : Calls Try.prog 5 #[.int .i64 s, .int .i64 j, .int .i64 k, .int .u8 f] w fun e w' => e = .returned (.bool true) ∧ Below w.heap.size w w' := by
  have hf : 0 ≤ f ∧ f ≤ 255 := by simpa [Lit.wf, IntKind.min, IntKind.max, IntKind.signed, IntKind.bits] using w3
  by_cases j0 : 0 ≤ j
  · by_cases j1 : j < 4611686018427387904
    · by_cases k0 : 0 ≤ k
      · by_cases k1 : k < 4611686018427387904
        · by_cases hs : 1 ≤ s ∧ s < 2147483647
          · obtain ⟨f', rfl⟩ := Int.eq_ofNat_of_zero_le hf.1
            exact skips5y s j k f' hs.1 hs.2 j0 j1 k0 k1 (by omega) w
          · exact skips5f s j k f hs j0 j1 k0 k1 w
        · exact skips5d s j k f j0 j1 k0 (by omega) w
      · exact skips5c s j k f j0 j1 (by omega) w
    · exact skips5b s j k f j0 (by omega) w
  · exact skips5a s j k f (by omega) w

namespace chanceSkipsRow
open Go.ChangeShapes Go.WideShapes Go.ChangeAt Go.RowKit
open Go.ChangeMaps (open_string shut_string)
set_option linter.unusedVariables false
theorem own : ownKnob Try.prog.godebug = none := by kernel_rfl
theorem laidOut : laidOutB Try.prog = true := by kernel_rfl
set_option maxRecDepth 100000 in
theorem lifted (os : Os) (started : os.Started) (H : Type) (enc : TypeId × Value → H) :
    ReturnsInHanded {} Try.checked os 5 .any (Rows.chanceSkipsSpec.pre6 enc Try.prog Try.f5 Rows.chanceSkipsRow.domain false) (Rows.chanceSkipsSpec.post enc Try.prog Try.f5 false true false false) := by
  refine returnsInHanded_of_change (C := Try.checked) own started (by kernel_rfl) Try.func5
    (ChangeSpec.witness6 (enc := enc) (C := Try.checked) false ⟨#[], #[.int .i64 0, .int .i64 0, .int .i64 0, .int .u8 0], []⟩ 8 (by kernel_rfl) (by kernel_rfl) (by kernel_rfl) (by kernel_rfl)) ?_
  intro W base args ds gs before hval0 hW hcnd _hsz
  have hval : ∀ (j : Nat) t v, Try.f5.params[j]? = some t → args[j]? = some v → Value.okWide Try.prog W .any base t v := hval0
  have hW' := hW
  obtain ⟨p, q, hA0, hV, rfl, hfz, hnd⟩ := hW
  have hA : DataW.TrodAll enc Try.prog W 0 (fun _ => true) true Try.f5.params.toList args.toList ds p := hA0
  rw [Try.params5] at hA hval
  obtain ⟨v0, vs0, d0, ds0, p0, q0, hargs, rfl, rfl, h0, r0⟩ := trodAll_cons hA
  obtain ⟨v1, vs1, d1, ds1, p1, q1, rfl, rfl, rfl, h1, r1⟩ := trodAll_cons r0
  obtain ⟨v2, vs2, d2, ds2, p2, q2, rfl, rfl, rfl, h2, r2⟩ := trodAll_cons r1
  obtain ⟨v3, vs3, d3, ds3, p3, q3, rfl, rfl, rfl, h3, r3⟩ := trodAll_cons r2
  obtain ⟨rfl, rfl, rfl⟩ := trodAll_nil r3
  obtain rfl : args = #[v0, v1, v2, v3] := by cases args; simp_all
  obtain ⟨rfl, rfl⟩ := trodVars_none hV
  have k0 := h0
  have lt0 : ∀ x ∈ p0, x.block < W.heap.size := by obtain ⟨m, hm⟩ := k0; exact DataW.trod_lt m _ _ _ hm
  have k1 := h1
  have lt1 : ∀ x ∈ p1, x.block < W.heap.size := by obtain ⟨m, hm⟩ := k1; exact DataW.trod_lt m _ _ _ hm
  have k2 := h2
  have lt2 : ∀ x ∈ p2, x.block < W.heap.size := by obtain ⟨m, hm⟩ := k2; exact DataW.trod_lt m _ _ _ hm
  have k3 := h3
  have lt3 : ∀ x ∈ p3, x.block < W.heap.size := by obtain ⟨m, hm⟩ := k3; exact DataW.trod_lt m _ _ _ hm
  obtain ⟨a0, rfl, -, -, w0⟩ := open_int Try.underlying3 (hval 0 3 v0 rfl rfl) h0
  obtain ⟨a1, rfl, -, -, w1⟩ := open_int Try.underlying3 (hval 1 3 v1 rfl rfl) h1
  obtain ⟨a2, rfl, -, -, w2⟩ := open_int Try.underlying3 (hval 2 3 v2 rfl rfl) h2
  obtain ⟨a3, rfl, -, -, w3⟩ := open_int Try.underlying5 (hval 3 5 v3 rfl rfl) h3
  clear hA0 hval0
  refine (skips_ a0 a1 a2 a3 w0 w1 w2 w3 W).mono fun e W' ⟨he, bel⟩ => ?_
  subst he
  exact ⟨_, rfl, _, _, _, [], _, [], hW', trodAll_mk1 (shut_bool Try.underlying4 _), (trodAll_cons_mk (Below.trod laidOut (by kernel_rfl) (of_decide_eq_true (by kernel_rfl)) k0 bel lt0) (trodAll_cons_mk (Below.trod laidOut (by kernel_rfl) (of_decide_eq_true (by kernel_rfl)) k1 bel lt1) (trodAll_cons_mk (Below.trod laidOut (by kernel_rfl) (of_decide_eq_true (by kernel_rfl)) k2 bel lt2) (trodAll_cons_mk (Below.trod laidOut (by kernel_rfl) (of_decide_eq_true (by kernel_rfl)) k3 bel lt3) trodAll_mk0)))), rfl, bel.frame _, fun h => by cases h⟩

theorem over : Rows.chanceSkipsRow.holds Try.pinned (OpenSpec.ofChange Rows.chanceSkipsSpec) :=
  OpenClaim.holds_of_wide 5 Try.f5 rfl rfl rfl rfl rfl rfl rfl ⟨rfl, rfl, rfl, rfl, rfl⟩ rfl rfl rfl rfl rfl (by kernel_rfl) Try.func5 (by kernel_rfl)
    (of_decide_eq_true (by kernel_rfl)) (by unfold Func.isWrapper; first | (rw [if_pos (by decide +kernel)]; kernel_rfl) | (rw [if_neg (by decide +kernel)]; exact ⟨rfl, rfl⟩))
    (fun os started H enc _ => lifted os started H enc)
theorem proved : Rows.ChanceSkipsSaid := over
end chanceSkipsRow
end Go.Proofs.Ytfpogcdffccldaa
