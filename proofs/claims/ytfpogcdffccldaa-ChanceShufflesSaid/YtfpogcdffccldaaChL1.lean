/- ChanceShuffles returns true for every input: Shuffle returns each number exactly once, and two sources with the same state return the same. -/
import Derived.Test.YtfpogcdffccldaaChF
import Derived.WalkKit
import Derived.ProofKit
import Derived.OpenShut
import Derived.ShutString
import Derived.ChangeOld
import Derived.Below
import Derived.Lib.SmallJoins
namespace Go.Proofs.Ytfpogcdffccldaa
open Go.RowKit
attribute [local go_sem ↓] Go.wp_at_zero Go.wp_at_succ
attribute [local go_sem] wrap_lit

theorem src_two (w : World) (x : Int) (m : Bool) : Src ((w.alloc (.cells #[.int .i64 x, .bool m] 55)).alloc (.cells #[.int .i64 x, .bool m] 55)) w.heap.size x m ∧ Src ((w.alloc (.cells #[.int .i64 x, .bool m] 55)).alloc (.cells #[.int .i64 x, .bool m] 55)) (w.heap.size + 1) x m ∧
    Below w.heap.size w ((w.alloc (.cells #[.int .i64 x, .bool m] 55)).alloc (.cells #[.int .i64 x, .bool m] 55)) ∧ ((w.alloc (.cells #[.int .i64 x, .bool m] 55)).alloc (.cells #[.int .i64 x, .bool m] 55)).heap.size = w.heap.size + 2 := by
  refine ⟨Src.alloc (heap_alloc_new w _) _, ?_, ((Below.refl _ _).alloc (Nat.le_refl _) _).alloc (by simp) _, by simp⟩
  have := heap_alloc_new (w.alloc (.cells #[.int .i64 x, .bool m] 55)) (.cells #[.int .i64 x, .bool m] 55)
  rw [World.size_alloc] at this; exact this

set_option maxHeartbeats 1000000 in
set_option maxRecDepth 100000 in
theorem shuffles3f (s n : Int) (hs : ¬ (1 ≤ s ∧ s < 2147483647)) (w : World) : Calls Try.prog 3 #[.int .i64 s, .int .i64 n] w fun e w' => e = .returned (.bool true) ∧ Below w.heap.size w w' := by
  have HS := Lib.hid hs; clear hs
  go_enter Try.func3, Try.ntmps3
  go_wp2_with fail
  refine (awake9 _).mono ?_
  rintro e w1 ⟨rfl, hb1⟩
  go_wp2_with fail
  refine (source10n s _ HS.out).mono ?_
  rintro e w2 ⟨rfl, rfl⟩
  go_wp2_with fail
  refine (source10n s _ HS.out).mono ?_
  rintro e w2 ⟨rfl, rfl⟩
  go_wp2_with fail
  obtain ⟨s1, s2, sb, sz⟩ := src_two w1 0 false
  generalize ((w1.alloc (.cells #[.int .i64 0, .bool false] 55)).alloc (.cells #[.int .i64 0, .bool false] 55)) = W at *
  have S1 := Lib.hid s1; have S2 := Lib.hid s2; have SZ := Lib.hid sz
  clear s1 s2 sz
  have hbw : Below w.heap.size w W := hb1.trans (sb.mono hb1.size)
  refine (shuffle11f _ 0 n W S1.out).mono ?_
  rintro e w2 ⟨rfl, rfl⟩
  go_wp2_with fail
  refine (shuffle11f _ 0 n W S2.out).mono ?_
  rintro e w2 ⟨rfl, rfl⟩
  go_wp2_with fail
  refine (next12f _ 0 W S1.out).mono ?_
  rintro e w2 ⟨rfl, rfl⟩
  go_wp2_with fail
  refine (next12f _ 0 W S2.out).mono ?_
  rintro e w2 ⟨rfl, rfl⟩
  go_wp2_with fail
  refine (equalInts none none 0 0 [] [] 0 W Is.none_ Is.none_ (by decide)).mono ?_
  rintro e w2 ⟨rfl, nd, rfl⟩
  have hdt : decide (([] : List Int) = []) = true := by decide
  go_wp2_with fail
  go_ret
  exact ⟨rfl, below_drewN hbw _⟩

set_option maxHeartbeats 1000000 in
set_option maxRecDepth 100000 in
theorem shuffles3e (s n : Int) (h0 : 1 ≤ s) (h1 : s < 2147483647) (hn : ¬ (0 ≤ n ∧ n ≤ 256)) (w : World) : Calls Try.prog 3 #[.int .i64 s, .int .i64 n] w fun e w' => e = .returned (.bool true) ∧ Below w.heap.size w w' := by
  have HN := Lib.hid hn; clear hn
  go_enter Try.func3, Try.ntmps3
  go_wp2_with fail
  refine (awake9 _).mono ?_
  rintro e w1 ⟨rfl, hb1⟩
  go_wp2_with fail
  refine (source10y s _ h0 h1).mono ?_
  rintro e w2 ⟨rfl, rfl⟩
  go_wp2_with fail
  refine (source10y s _ h0 h1).mono ?_
  rintro e w2 ⟨rfl, rfl⟩
  go_wp2_with fail
  obtain ⟨s1, s2, sb, sz⟩ := src_two w1 s true
  generalize ((w1.alloc (.cells #[.int .i64 s, .bool true] 55)).alloc (.cells #[.int .i64 s, .bool true] 55)) = W at *
  have S1 := Lib.hid s1; have S2 := Lib.hid s2; have SZ := Lib.hid sz
  clear s1 s2 sz
  have hbw : Below w.heap.size w W := hb1.trans (sb.mono hb1.size)
  refine (shuffle11e _ s n W S1.out HN.out).mono ?_
  rintro e w2 ⟨rfl, rfl⟩
  go_wp2_with fail
  refine (shuffle11e _ s n W S2.out HN.out).mono ?_
  rintro e w2 ⟨rfl, rfl⟩
  go_wp2_with fail
  refine (next12m _ s W S1.out (by omega) h1).mono ?_
  rintro e w2 ⟨rfl, m1⟩
  have b1 := below_grown hbw m1.2 hbw.size hb1.size
  have S22 := Lib.hid (S2.out.grown m1.2 (by omega))
  go_wp2_with fail
  refine (next12m _ s w2 S22.out (by omega) h1).mono ?_
  rintro e w3 ⟨rfl, m2⟩
  have b2 := below_grown b1 m2.2 b1.size (by have := hb1.size; omega)
  go_wp2_with fail
  refine (equalInts none none 0 0 [] [] 0 w3 Is.none_ Is.none_ (by decide)).mono ?_
  rintro e w4 ⟨rfl, nd, rfl⟩
  have hdt : decide (([] : List Int) = []) = true := by decide
  go_wp2_with fail
  go_ret
  exact ⟨rfl, below_drewN b2 _⟩

set_option maxHeartbeats 2000000 in
set_option maxRecDepth 100000 in
theorem shuffles3y (s : Int) (n : Nat) (h0 : 1 ≤ s) (h1 : s < 2147483647) (hn : n ≤ 256) (w : World) : Calls Try.prog 3 #[.int .i64 s, .int .i64 n] w fun e w' => e = .returned (.bool true) ∧ Below w.heap.size w w' := by
  go_enter Try.func3, Try.ntmps3
  go_wp2_with fail
  refine (awake9 _).mono ?_
  rintro e w1 ⟨rfl, hb1⟩
  go_wp2_with fail
  refine (source10y s _ h0 h1).mono ?_
  rintro e w2 ⟨rfl, rfl⟩
  go_wp2_with fail
  refine (source10y s _ h0 h1).mono ?_
  rintro e w2 ⟨rfl, rfl⟩
  go_wp2_with fail
  obtain ⟨s1, s2, sb, sz⟩ := src_two w1 s true
  generalize ((w1.alloc (.cells #[.int .i64 s, .bool true] 55)).alloc (.cells #[.int .i64 s, .bool true] 55)) = W at *
  have S1 := Lib.hid s1; have S2 := Lib.hid s2; have SZ := Lib.hid sz
  clear s1 s2 sz
  have hbw : Below w.heap.size w W := hb1.trans (sb.mono hb1.size)
  refine (shuffle11y _ s n W S1.out h0 h1 hn).mono ?_
  rintro e w2 ⟨A1, cap1, rfl, ho1, t1, m1⟩
  have b1 := below_grown hbw m1 hbw.size hb1.size
  have S22 := Lib.hid (S2.out.grown m1 (by omega))
  have T1 := Lib.hid t1; have M1 := Lib.hid m1; clear t1 m1
  go_wp2_with fail
  refine (shuffle11y _ s n w2 S22.out h0 h1 hn).mono ?_
  rintro e w3 ⟨A2, cap2, rfl, ho2, t2, m2⟩
  have b2 := below_grown b1 m2 b1.size (by have := hb1.size; omega)
  have T12 := Lib.hid (T1.out.grown m2 (by omega))
  have T2 := Lib.hid t2; have M2 := Lib.hid m2; clear t2 m2
  have hX := sh_bd (n - 1) (rng n) s h0 h1
  go_wp2_with fail
  refine (next12m _ (shuf n s).2 w3 T12.out (by unfold shuf; omega) (by unfold shuf; omega)).mono ?_
  rintro e w4 ⟨rfl, m3⟩
  have b3 := below_grown b2 m3.2 b2.size hb1.size
  have T23 := Lib.hid (T2.out.grown m3.2 (by omega))
  have M3 := Lib.hid m3.2; clear m3
  go_wp2_with fail
  refine (next12m _ (shuf n s).2 w4 T23.out (by unfold shuf; omega) (by unfold shuf; omega)).mono ?_
  rintro e w5 ⟨rfl, m4⟩
  have b4 := below_grown b3 m4.2 b3.size (by have := hb1.size; omega)
  have M4 := Lib.hid m4.2; clear m4
  have i1 : Is .i64 w5 w5.heap.size A1 (shuf n s).1 := fun hp => by
    obtain ⟨g, cs, e1, e2, e3, e4⟩ := ho1 hp
    have gl := heap_lt e3
    have q := M2.out.block g gl (by simp; have := SZ.out; omega)
    have gl2 : g < w3.heap.size := by have := M2.out.size; omega
    have q2 := M3.out.block g gl2 (by simp; have := SZ.out; omega)
    have gl3 : g < w4.heap.size := by have := M3.out.size; omega
    have q3 := M4.out.block g gl3 (by simp; have := SZ.out; omega)
    have hh := q3.trans (q2.trans (q.trans e3))
    exact ⟨g, 0, e1, heap_lt hh, fun j hj => by simp [World.cell?, hh, e4 j hj]⟩
  have i2 : Is .i64 w5 w5.heap.size A2 (shuf n s).1 := fun hp => by
    obtain ⟨g, cs, e1, e2, e3, e4⟩ := ho2 hp
    have gl := heap_lt e3
    have sz1 := M1.out.size
    have q2 := M3.out.block g gl (by simp; have := SZ.out; omega)
    have gl3 : g < w4.heap.size := by have := M3.out.size; omega
    have q3 := M4.out.block g gl3 (by simp; have := SZ.out; omega)
    have hh := q3.trans (q2.trans e3)
    exact ⟨g, 0, e1, heap_lt hh, fun j hj => by simp [World.cell?, hh, e4 j hj]⟩
  have I1 := Lib.hid i1; have I2 := Lib.hid i2
  clear i1 i2 ho1 ho2
  have he := equalInts A1 A2 cap1 cap2 (shuf n s).1 (shuf n s).1 w5.heap.size w5 I1.out I2.out (by rw [shuf_len]; omega)
  rw [shuf_len] at he
  have HE := Lib.hid he; clear he
  go_wp2_with fail
  refine HE.out.mono ?_
  rintro e w6 ⟨rfl, nd, rfl⟩
  have hdt : decide ((shuf n s).1 = (shuf n s).1) = true := by simp
  have hnn : ((n : Int) != (n : Int)) = false := by simp
  clear HE
  go_wp2_with fail
  clear hdt hnn
  go_loopw [15] (fun i wr => ∃ k : Nat, k ≤ n ∧ i = .int .i64 k ∧ wr = w5.drewN nd) (fun i _ => n - (intOf i).toNat)
  case atStart => exact ⟨0, Nat.zero_le _, rfl, rfl⟩
  case round =>
    obtain ⟨k, hk, rfl, rfl⟩ := hrel
    by_cases hlt : k < n
    · have hh := hasInt14 A1 cap1 (shuf n s).1 k w5.heap.size (w5.drewN nd) I1.out (by rw [shuf_len]; omega)
      rw [show hasI (shuf n s).1 k = true from decide_eq_true (shuf_mem n s k hlt), shuf_len] at hh
      have HH := Lib.hid hh; clear hh
      have hlI : (k : Int) < (n : Int) := by omega
      go_wp2_with fail
      refine HH.out.mono ?_
      rintro e w6 ⟨rfl, rfl⟩
      go_wp2_with fail
      exact ⟨⟨k + 1, by omega, by go_num, trivial⟩, by simp [intOf]; omega⟩
    · obtain rfl : k = n := by omega
      go_wp2_with fail
      go_ret
      exact ⟨rfl, below_drewN b4 _⟩

theorem shuffles_ (s n : Int) (_w0 : (Lit.int .i64 s).wf = true) (_w1 : (Lit.int .i64 n).wf = true) (w : World) : Calls Try.prog 3 #[.int .i64 s, .int .i64 n] w fun e w' => e = .returned (.bool true) ∧ Below w.heap.size w w' := by
  by_cases hs : 1 ≤ s ∧ s < 2147483647
  · by_cases hn : 0 ≤ n ∧ n ≤ 256
    · obtain ⟨m, rfl⟩ := Int.eq_ofNat_of_zero_le hn.1
      exact shuffles3y s m hs.1 hs.2 (by omega) w
    · exact shuffles3e s n hs.1 hs.2 hn w
  · exact shuffles3f s n hs w

namespace chanceShufflesRow
open Go.ChangeShapes Go.WideShapes Go.ChangeAt Go.RowKit
open Go.ChangeMaps (open_string shut_string)
set_option linter.unusedVariables false
theorem own : ownKnob Try.prog.godebug = none := by kernel_rfl
theorem laidOut : laidOutB Try.prog = true := by kernel_rfl
set_option maxRecDepth 100000 in
theorem lifted (os : Os) (started : os.Started) (H : Type) (enc : TypeId × Value → H) :
    ReturnsInHanded {} Try.checked os 3 .any (Rows.chanceShufflesSpec.pre6 enc Try.prog Try.f3 Rows.chanceShufflesRow.domain false) (Rows.chanceShufflesSpec.post enc Try.prog Try.f3 false true false false) := by
  refine returnsInHanded_of_change (C := Try.checked) own started (by kernel_rfl) Try.func3
    (ChangeSpec.witness6 (enc := enc) (C := Try.checked) false ⟨#[], #[.int .i64 0, .int .i64 0], []⟩ 8 (by kernel_rfl) (by kernel_rfl) (by kernel_rfl) (by kernel_rfl)) ?_
  intro W base args ds gs before hval0 hW hcnd _hsz
  have hval : ∀ (j : Nat) t v, Try.f3.params[j]? = some t → args[j]? = some v → Value.okWide Try.prog W .any base t v := hval0
  have hW' := hW
  obtain ⟨p, q, hA0, hV, rfl, hfz, hnd⟩ := hW
  have hA : DataW.TrodAll enc Try.prog W 0 (fun _ => true) true Try.f3.params.toList args.toList ds p := hA0
  rw [Try.params3] at hA hval
  obtain ⟨v0, vs0, d0, ds0, p0, q0, hargs, rfl, rfl, h0, r0⟩ := trodAll_cons hA
  obtain ⟨v1, vs1, d1, ds1, p1, q1, rfl, rfl, rfl, h1, r1⟩ := trodAll_cons r0
  obtain ⟨rfl, rfl, rfl⟩ := trodAll_nil r1
  obtain rfl : args = #[v0, v1] := by cases args; simp_all
  obtain ⟨rfl, rfl⟩ := trodVars_none hV
  have k0 := h0
  have lt0 : ∀ x ∈ p0, x.block < W.heap.size := by obtain ⟨m, hm⟩ := k0; exact DataW.trod_lt m _ _ _ hm
  have k1 := h1
  have lt1 : ∀ x ∈ p1, x.block < W.heap.size := by obtain ⟨m, hm⟩ := k1; exact DataW.trod_lt m _ _ _ hm
  obtain ⟨a0, rfl, -, -, w0⟩ := open_int Try.underlying3 (hval 0 3 v0 rfl rfl) h0
  obtain ⟨a1, rfl, -, -, w1⟩ := open_int Try.underlying3 (hval 1 3 v1 rfl rfl) h1
  clear hA0 hval0
  refine (shuffles_ a0 a1 w0 w1 W).mono fun e W' ⟨he, bel⟩ => ?_
  subst he
  exact ⟨_, rfl, _, _, _, [], _, [], hW', trodAll_mk1 (shut_bool Try.underlying4 _), (trodAll_cons_mk (Below.trod laidOut (by kernel_rfl) (of_decide_eq_true (by kernel_rfl)) k0 bel lt0) (trodAll_cons_mk (Below.trod laidOut (by kernel_rfl) (of_decide_eq_true (by kernel_rfl)) k1 bel lt1) trodAll_mk0)), rfl, bel.frame _, fun h => by cases h⟩

theorem over : Rows.chanceShufflesRow.holds Try.pinned (OpenSpec.ofChange Rows.chanceShufflesSpec) :=
  OpenClaim.holds_of_wide 3 Try.f3 rfl rfl rfl rfl rfl rfl rfl ⟨rfl, rfl, rfl, rfl, rfl⟩ rfl rfl rfl rfl rfl (by kernel_rfl) Try.func3 (by kernel_rfl)
    (of_decide_eq_true (by kernel_rfl)) (by unfold Func.isWrapper; first | (rw [if_pos (by decide +kernel)]; kernel_rfl) | (rw [if_neg (by decide +kernel)]; exact ⟨rfl, rfl⟩))
    (fun os started H enc _ => lifted os started H enc)
theorem proved : Rows.ChanceShufflesSaid := over
end chanceShufflesRow
end Go.Proofs.Ytfpogcdffccldaa
