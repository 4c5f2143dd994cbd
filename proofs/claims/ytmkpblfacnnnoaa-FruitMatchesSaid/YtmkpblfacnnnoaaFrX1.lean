/- FruitMatches returns true for every input. -/
import Derived.Test.YtmkpblfacnnnoaaRows
import Derived.WalkKit
import Derived.WalkLawsBesides
import Derived.WalkSpells
import Derived.ProofKit
import Derived.Below
import Derived.Outline
import Derived.Lib.Hide
import Derived.Deep.RegionWith
import Derived.Deep.RegionHeld3
import Derived.Deep.DrawnRows
import Derived.StillTailTactics
import Derived.BigQuiet
import Derived.Deep.QuietTactic
import Derived.Deep.LoopGhost
import Derived.IntWalk
import Derived.Test.YtmkpblfacnnnoaaFrN
import Derived.Test.YtmkpblfacnnnoaaKO
import Derived.WalkKit
import Derived.ProofKit
import Derived.OpenShut
import Derived.ShutString
import Derived.ChangeOld
import Derived.Below
import Derived.Lib.SmallJoins
namespace Go.Proofs.Ytmkpblfacnnnoaa
open Go.RowKit
attribute [local go_sem ↓] Go.wp_at_zero Go.wp_at_succ
attribute [local go_sem] wrap_lit

set_option maxRecDepth 100000 in
set_option maxHeartbeats 4000000 in
theorem frMatches (A A' : Option Addr) (cap cap' : Nat) (a b : List Int) (u : Int) (w : World) (hA : Is .i64 w w.heap.size A a) (hA' : Is .i64 w w.heap.size A' b) : Calls Try.prog 3 #[.slice A a.length cap, .slice A' b.length cap', .int .i64 u] w fun e w' => e = .returned (.bool true) ∧ Below w.heap.size w w' := by
  have R0 := two_rows (cap := cap) (cap' := cap') (Nat.le_refl _) hA hA'
  have B0 : Below w.heap.size w (w.alloc (.cells #[.slice A a.length cap, .slice A' b.length cap'] 22)) := (Below.refl _ _).alloc (Nat.le_refl _) _
  by_cases hl : lngP [a, b]
  · have L := Lib.hid (long_t _ 2 [a, b] _ _ R0 (show (2 : Nat) ≤ maxLen by unfold maxLen; decide) hl)
    clear R0 hA hA'
    go_enter Try.func3, Try.ntmps3
    go_wp2_with fail
    refine L.out.mono ?_
    rintro e w' ⟨rfl, rfl⟩
    go_wp2_with fail
    refine (awake11 _).mono ?_
    rintro e w2 ⟨rfl, hb2⟩
    go_wp2_with fail
    go_ret
    exact ⟨rfl, B0.trans (hb2.mono (by simp))⟩
  · have L := Lib.hid (long_f _ 2 [a, b] _ _ R0 hl)
    have h70 : a.length ≤ 70 ∧ b.length ≤ 70 := by rw [lng_two] at hl; omega
    obtain ⟨ha70, hb70⟩ := h70
    have HA := Lib.hid hA
    have HA' := Lib.hid hA'
    clear R0 hA hA' hl
    go_enter Try.func3, Try.ntmps3
    go_wp2_with fail
    refine L.out.mono ?_
    rintro e w' ⟨rfl, rfl⟩
    go_wp2_with fail
    obtain ⟨X, hX⟩ : ∃ X, X = w.alloc (.cells #[.slice A a.length cap, .slice A' b.length cap'] 22) := ⟨_, rfl⟩
    rw [← hX] at B0 ⊢
    clear hX L
    have a0 := HA.out.below B0
    have b0 := HA'.out.below B0
    have s0 := B0.size
    refine (copyInts A cap a X (a0.mono s0) (by omega)).mono ?_
    rintro e w1 ⟨v1, rfl, hv1, hb1⟩
    obtain ⟨A1, cap1, rfl, own1⟩ := hv1.own
    have s1 := hb1.size
    have B1 : Below w.heap.size w w1 := B0.trans (hb1.mono s0)
    have a1 := HA.out.below B1
    have b1 := HA'.out.below B1
    have c1 := Lib.hid own1
    clear hv1 own1 hb1 a0 b0
    go_wp2_with fail
    refine (copyInts A' cap' b w1 (b1.mono (by omega)) (by omega)).mono ?_
    rintro e w2 ⟨v2, rfl, hv2, hb2⟩
    obtain ⟨A2, cap2, rfl, own2⟩ := hv2.own
    have s2 := hb2.size
    have B2 : Below w.heap.size w w2 := B1.trans (hb2.mono (by omega))
    have a2 := Lib.hid (HA.out.below B2)
    have b2 := Lib.hid (HA'.out.below B2)
    have c2 := Lib.hid ((c1.out.is.below hb2).mono s2)
    have d2 := Lib.hid own2.is
    clear hv2 own2 hb2 a1 b1 c1
    go_wp2_with fail
    refine (match13 A1 A2 cap1 cap2 a b u w2.heap.size w2 (Nat.le_refl _) c2.out d2.out (by omega) (by omega)).mono ?_
    rintro e w3 ⟨v3, rfl, hv3, hb3⟩
    obtain ⟨A3, cap3, rfl, own3⟩ := hv3.own
    have s3 := hb3.size
    have B3 : Below w.heap.size w w3 := B2.trans (hb3.mono (by omega))
    have c3 := Lib.hid (c2.out.below hb3)
    have d3 := Lib.hid (d2.out.below hb3)
    have o3 := Lib.hid own3
    clear hv3 own3 hb3 c2 d2
    go_wp2_with fail
    refine (match14 A A' cap cap' a b u w.heap.size w3 (by omega) (HA.out.below B3) (HA'.out.below B3) (by omega) (by omega)).mono ?_
    rintro e w4 ⟨v4, rfl, hv4, hb4⟩
    obtain ⟨A4, cap4, rfl, own4⟩ := hv4.own
    have s4 := hb4.size
    have B4 : Below w.heap.size w w4 := B3.trans (hb4.mono (by omega))
    have c4 := Lib.hid (c3.out.below (hb4.mono s3))
    have d4 := Lib.hid (d3.out.below (hb4.mono s3))
    have o4 := Lib.hid (o3.out.below hb4)
    have p4 := Lib.hid own4
    clear hv4 own4 hb4 c3 d3 o3
    go_wp2_with fail
    refine (check15 A1 cap1 a w4.heap.size w4 (c4.out.mono (by omega)) (by omega)).mono ?_
    rintro e w' ⟨rfl, rfl⟩
    go_wp2_with fail
    refine (check16 A cap a w.heap.size w4 (HA.out.below B4) (by omega)).mono ?_
    rintro e w5 ⟨rfl, n5, rfl⟩
    have hL := mtL_64 a b u
    go_wp2_with fail
    obtain ⟨W5, hW5⟩ : ∃ W5, W5 = w4.drewN n5 := ⟨_, rfl⟩
    have B5 : Below w.heap.size w W5 := by rw [hW5]; exact below_drewN B4 n5
    have s5 : W5.heap.size = w4.heap.size := by rw [hW5]; rfl
    have c5 : Is .i64 W5 w2.heap.size A1 a := by rw [hW5]; exact c4.out
    have d5 : Is .i64 W5 w2.heap.size A2 b := by rw [hW5]; exact d4.out
    have o5 : Own .i64 W5 w2.heap.size A3 46 (flat (mtL a b u)) := by rw [hW5]; exact o4.out
    have p5 : Own .i64 W5 w3.heap.size A4 46 (flat (mtL a b u)) := by rw [hW5]; exact p4.out
    rw [← hW5]
    clear hW5 c4 d4 o4 p4
    refine (equalPairs A3 A4 cap3 cap4 (mtL a b u) (mtL a b u) W5.heap.size W5 o5.is p5.is (by omega)).mono ?_
    rintro e w6 ⟨rfl, n6, rfl⟩
    go_wp2_with fail
    obtain ⟨W6, hW6⟩ : ∃ W6, W6 = W5.drewN n6 := ⟨_, rfl⟩
    have B6 : Below w.heap.size w W6 := by rw [hW6]; exact below_drewN B5 n6
    have s6 : W6.heap.size = W5.heap.size := by rw [hW6]; rfl
    have c6 : Is .i64 W6 w2.heap.size A1 a := by rw [hW6]; exact c5
    have d6 : Is .i64 W6 w2.heap.size A2 b := by rw [hW6]; exact d5
    have o6 : Own .i64 W6 w2.heap.size A3 46 (flat (mtL a b u)) := by rw [hW6]; exact o5
    rw [← hW6]
    clear hW6 c5 d5 o5 p5
    refine (overPairs A3 cap3 (mtL a b u) w2.heap.size _ W6 o6 (by omega)).mono ?_
    rintro e w7 ⟨rfl, hb7⟩
    have s7 := hb7.size
    have B7 : Below w.heap.size w w7 := B6.trans (hb7.mono (by omega))
    have c7 := c6.below hb7
    have d7 := d6.below hb7
    have HB7 := Lib.hid B7
    have HD7 := Lib.hid d7
    have e1 := Lib.hid (equalInts A1 A cap1 cap a a w2.heap.size w7 c7 ((HA.out.below B7).mono (by omega)) (by omega))
    clear o6 c6 d6 c7 d7 hb7 B7 B6 B5 B4 B3 B2 B1 B0
    go_wp2_with fail
    refine e1.out.mono ?_
    rintro e w8 ⟨rfl, n8, rfl⟩
    have e2 := Lib.hid (equalInts A2 A' cap2 cap' b b w2.heap.size (w7.drewN n8) (HD7.out.drewN n8) (((HA'.out.below HB7.out).mono (by omega) : Is .i64 w7 w2.heap.size A' b).drewN n8) (by omega))
    go_wp2_with fail
    refine e2.out.mono ?_
    rintro e w9 ⟨rfl, n9, rfl⟩
    go_wp2_with fail
    refine (awake11 _).mono ?_
    rintro e w10 ⟨rfl, hb10⟩
    go_wp2_with fail
    go_ret
    have hb11 : Below w.heap.size w (w7.drewN (n8 + n9)) := below_drewN HB7.out _
    exact ⟨by simp, hb11.trans (hb10.mono hb11.size)⟩


theorem frFruitMatchesL (A0 : Option Addr) (len0 cap0 : Nat) (z0 : List Int) (A1 : Option Addr) (len1 cap1 : Nat) (z1 : List Int) (u : Int) (w : World) (h0 : IsRow .i64 w A0 len0 cap0 z0) (h1 : IsRow .i64 w A1 len1 cap1 z1) :
    Calls Try.prog 3 #[.slice A0 len0 cap0, .slice A1 len1 cap1, .int .i64 u] w fun e w' => e = .returned (.bool true) ∧ Below w.heap.size w w' := by
  obtain ⟨k1, k2, k3, -⟩ := Is.of_row h0
  obtain ⟨m1, m2, m3, -⟩ := Is.of_row h1
  have H := frMatches A0 A1 cap0 cap1 (z0.take len0) (z1.take len1) u w k1 m1
  rw [k2, m2] at H
  exact H

namespace fruitMatchesRow
open Go.ChangeShapes Go.WideShapes Go.ChangeAt Go.RowKit
open Go.ChangeMaps (open_string shut_string)
set_option linter.unusedVariables false
theorem own : ownKnob Try.prog.godebug = none := by kernel_rfl
theorem laidOut : laidOutB Try.prog = true := by kernel_rfl
set_option maxRecDepth 100000 in
theorem lifted (os : Os) (started : os.Started) (H : Type) (enc : TypeId × Value → H) :
    ReturnsInHanded {} Try.checked os 3 .any (Rows.fruitMatchesSpec.pre6 enc Try.prog Try.f3 Rows.fruitMatchesRow.domain false) (Rows.fruitMatchesSpec.post enc Try.prog Try.f3 false true false false) := by
  refine returnsInHanded_of_change (C := Try.checked) own started (by kernel_rfl) Try.func3
    (ChangeSpec.witness6 (enc := enc) (C := Try.checked) false ⟨#[], #[.slice none 0 0, .slice none 0 0, .int .i64 0], []⟩ 8 (by kernel_rfl) (by kernel_rfl) (by kernel_rfl) (by kernel_rfl)) ?_
  intro W base args ds gs before hval0 hW hcnd _hsz
  have hval : ∀ (j : Nat) t v, Try.f3.params[j]? = some t → args[j]? = some v → Value.okWide Try.prog W .any base t v := hval0
  have hW' := hW
  obtain ⟨p, q, hA0, hV, rfl, hfz, hnd⟩ := hW
  have hA : DataW.TrodAll enc Try.prog W 0 (fun _ => true) true Try.f3.params.toList args.toList ds p := hA0
  rw [Try.params3] at hA hval
  obtain ⟨v0, vs0, d0, ds0, p0, q0, hargs, rfl, rfl, h0, r0⟩ := trodAll_cons hA
  obtain ⟨v1, vs1, d1, ds1, p1, q1, rfl, rfl, rfl, h1, r1⟩ := trodAll_cons r0
  obtain ⟨v2, vs2, d2, ds2, p2, q2, rfl, rfl, rfl, h2, r2⟩ := trodAll_cons r1
  obtain ⟨rfl, rfl, rfl⟩ := trodAll_nil r2
  obtain rfl : args = #[v0, v1, v2] := by cases args; simp_all
  obtain ⟨rfl, rfl⟩ := trodVars_none hV
  have k0 := h0
  have lt0 : ∀ x ∈ p0, x.block < W.heap.size := by obtain ⟨m, hm⟩ := k0; exact DataW.trod_lt m _ _ _ hm
  have k1 := h1
  have lt1 : ∀ x ∈ p1, x.block < W.heap.size := by obtain ⟨m, hm⟩ := k1; exact DataW.trod_lt m _ _ _ hm
  have k2 := h2
  have lt2 : ∀ x ∈ p2, x.block < W.heap.size := by obtain ⟨m, hm⟩ := k2; exact DataW.trod_lt m _ _ _ hm
  obtain ⟨a0, len0, cap0, rfl⟩ := okWide_slice Try.underlying22 (hval 0 22 v0 rfl rfl)
  obtain ⟨z0, w0⟩ : ∃ zs, IsRow .i64 W a0 len0 cap0 zs := by
    obtain ⟨fuel, hf⟩ := h0
    rcases open_ints Try.underlying22 Try.underlying3 (by kernel_rfl) hf with ⟨hcs, _⟩ | ⟨x, l, c, zs, hcs, _, hl, hm, hz, _, hcell, hwz⟩
    · simp [Value.cells] at hcs
      obtain ⟨rfl, rfl, rfl⟩ := hcs
      exact ⟨[], .inl ⟨rfl, rfl, rfl, rfl⟩⟩
    · simp [Value.cells] at hcs
      obtain ⟨rfl, rfl, rfl⟩ := hcs
      exact ⟨zs, .inr ⟨_, rfl, hl, hm, by simpa using hz, hcell, hwz⟩⟩
  obtain ⟨a1, len1, cap1, rfl⟩ := okWide_slice Try.underlying22 (hval 1 22 v1 rfl rfl)
  obtain ⟨z1, w1⟩ : ∃ zs, IsRow .i64 W a1 len1 cap1 zs := by
    obtain ⟨fuel, hf⟩ := h1
    rcases open_ints Try.underlying22 Try.underlying3 (by kernel_rfl) hf with ⟨hcs, _⟩ | ⟨x, l, c, zs, hcs, _, hl, hm, hz, _, hcell, hwz⟩
    · simp [Value.cells] at hcs
      obtain ⟨rfl, rfl, rfl⟩ := hcs
      exact ⟨[], .inl ⟨rfl, rfl, rfl, rfl⟩⟩
    · simp [Value.cells] at hcs
      obtain ⟨rfl, rfl, rfl⟩ := hcs
      exact ⟨zs, .inr ⟨_, rfl, hl, hm, by simpa using hz, hcell, hwz⟩⟩
  obtain ⟨a2, rfl, -, -, w2⟩ := open_int Try.underlying3 (hval 2 3 v2 rfl rfl) h2
  clear hA0 hval0
  refine (frFruitMatchesL a0 len0 cap0 z0 a1 len1 cap1 z1 a2 W w0 w1).mono fun e W' ⟨he, bel⟩ => ?_
  subst he
  exact ⟨_, rfl, _, _, _, [], _, [], hW', trodAll_mk1 (shut_bool Try.underlying4 _), (trodAll_cons_mk (Below.trod laidOut (by kernel_rfl) (of_decide_eq_true (by kernel_rfl)) k0 bel lt0) (trodAll_cons_mk (Below.trod laidOut (by kernel_rfl) (of_decide_eq_true (by kernel_rfl)) k1 bel lt1) (trodAll_cons_mk (Below.trod laidOut (by kernel_rfl) (of_decide_eq_true (by kernel_rfl)) k2 bel lt2) trodAll_mk0))), rfl, bel.frame _, fun h => by cases h⟩

theorem over : Rows.fruitMatchesRow.holds Try.pinned (OpenSpec.ofChange Rows.fruitMatchesSpec) :=
  OpenClaim.holds_of_wide 3 Try.f3 rfl rfl rfl rfl rfl rfl rfl ⟨rfl, rfl, rfl, rfl, rfl⟩ rfl rfl rfl rfl rfl (by kernel_rfl) Try.func3 (by kernel_rfl)
    (of_decide_eq_true (by kernel_rfl)) (by unfold Func.isWrapper; first | (rw [if_pos (by decide +kernel)]; kernel_rfl) | (rw [if_neg (by decide +kernel)]; exact ⟨rfl, rfl⟩))
    (fun os started H enc _ => lifted os started H enc)
theorem proved : Rows.FruitMatchesSaid := over
end fruitMatchesRow
end Go.Proofs.Ytmkpblfacnnnoaa
