/- The walk of FixedRounds. -/
import Derived.Test.YtmalpalepaomdaaDoorRows
import Derived.WalkKit
import Derived.WalkLawsBesides
import Derived.WalkSpells
import Derived.ProofKit
import Derived.Below
import Derived.Outline
import Derived.Lib.Hide
import Derived.Deep.RegionWith
import Derived.Deep.RegionHeld3
import Derived.Deep.DrawnRows
import Derived.StillTailTactics
import Derived.BigQuiet
import Derived.Deep.QuietTactic
import Derived.Deep.LoopGhost
import Derived.IntWalk
import Derived.Lib.MinMax
import Derived.Test.YtmalpalepaomdaaDoorFxH
namespace Go.Proofs.YtmalpalepaomdaaDoor
open Go.RowKit
attribute [local go_sem ↓] Go.wp_at_zero Go.wp_at_succ
attribute [local go_sem] wrap_lit
theorem wr64 (n : Int) (h0 : -9223372036854775808 ≤ n) (h1 : n ≤ 9223372036854775807) : wrap64 (n % 18446744073709551616) = n := by
  unfold wrap64
  omega
theorem wrn {b : Int} (h0 : -274877906944 ≤ b) (h1 : b ≤ 274877906944) : wrap64 (-b) = -b := by unfold wrap64; omega
theorem wrD1 (p a b : Int) (h0 : -9223372036854775808 ≤ p * 65536 - a * b) (h1 : p * 65536 - a * b ≤ 9223372036854775807) : wrap64 (IntKind.u64.wrap (IntKind.u64.wrap (IntKind.u64.wrap p * 65536) - IntKind.u64.wrap (IntKind.u64.wrap a * IntKind.u64.wrap b))) = p * 65536 - a * b := by
  rw [← wr64 _ h0 h1]
  simp only [IntKind.wrap_u64]
  congr 1
  simp [Int.sub_emod, Int.mul_emod]
theorem wrD2 (q a b : Int) (h0 : -9223372036854775808 ≤ q * b - a * 65536) (h1 : q * b - a * 65536 ≤ 9223372036854775807) : wrap64 (IntKind.u64.wrap (IntKind.u64.wrap (IntKind.u64.wrap q * IntKind.u64.wrap b) - IntKind.u64.wrap (IntKind.u64.wrap a * 65536))) = q * b - a * 65536 := by
  rw [← wr64 _ h0 h1]
  simp only [IntKind.wrap_u64]
  congr 1
  simp [Int.sub_emod, Int.mul_emod]
theorem mulX_err (a b : Int) : -32768 ≤ mulX a b * 65536 - a * b ∧ mulX a b * 65536 - a * b ≤ 32768 := by
  have e : a * b = sg a b (absI a * absI b) := by
    unfold sg absI
    by_cases h : a < 0 <;> by_cases h' : b < 0 <;> simp [h, h', Int.neg_mul, Int.mul_neg]
  have r : -32768 ≤ rdN (absI a * absI b) 65536 * 65536 - absI a * absI b ∧ rdN (absI a * absI b) 65536 * 65536 - absI a * absI b ≤ 32768 := by
    generalize absI a * absI b = x
    unfold rdN; split <;> omega
  rw [e]
  unfold mulX sg
  split <;> omega
theorem rdN_err (x y : Int) (hy : 0 < y) : -y ≤ 2 * (rdN x y * y - x) ∧ 2 * (rdN x y * y - x) ≤ y := by
  have e := Int.emod_add_mul_ediv x y
  have m0 := Int.emod_nonneg x (show y ≠ 0 by omega)
  have m1 := Int.emod_lt_of_pos x hy
  unfold rdN
  split
  · rw [Int.add_mul, Int.mul_comm (x / y) y]; omega
  · rw [Int.mul_comm (x / y) y]; omega
theorem divX_err {a b : Int} (hb : b ≠ 0) : -absI b ≤ 2 * (divX a b * b - a * 65536) ∧ 2 * (divX a b * b - a * 65536) ≤ absI b := by
  obtain ⟨r0, r1⟩ := rdN_err (absI a * 65536) (absI b) (absI_0 hb)
  unfold divX sg
  generalize rdN (absI a * 65536) (absI b) = n at *
  unfold absI at *
  by_cases h : a < 0 <;> by_cases h' : b < 0 <;> simp [h, h', Int.neg_mul, Int.mul_neg] at * <;> omega
theorem absI_max (b : Int) : absI b = max b (-b) := by unfold absI; split <;> omega
theorem rdN_mono {x y : Int} (h : x ≤ y) : rdN x 65536 ≤ rdN y 65536 := by unfold rdN; split <;> split <;> omega
theorem mulX_nn {a c : Int} (ha : 0 ≤ a) (hc : 0 ≤ c) : mulX a c = rdN (a * c) 65536 := by
  have h1 : decide (a < 0) = false := by simp; omega
  have h2 : decide (c < 0) = false := by simp; omega
  unfold mulX sg
  rw [h1, h2, absI_p ha, absI_p hc, if_pos rfl]
theorem mulX_mono {a b c : Int} (ha : 0 ≤ a) (hab : a ≤ b) (hc : 0 ≤ c) : 0 ≤ mulX a c ∧ mulX a c ≤ mulX b c := by
  rw [mulX_nn ha hc, mulX_nn (by omega) hc]
  exact ⟨(rdN_bd (Int.mul_nonneg ha hc) (by omega)).1, rdN_mono (Int.mul_le_mul_of_nonneg_right hab hc)⟩
set_option maxRecDepth 100000 in
set_option maxHeartbeats 4000000 in
theorem rounds3YY (a b c x g y h : Int) (w : World) (HT : Hid (Tab w)) (Va : Hid (vF a = true)) (Vb : Hid (vF b = true)) (Vc : Hid (vF c = true)) (p d1 : Int) (HP : Hid (rA [a, b] (mulX a b) = (p, 0))) (hd1 : wrap64 (IntKind.u64.wrap (IntKind.u64.wrap (IntKind.u64.wrap p * 65536) - IntKind.u64.wrap (IntKind.u64.wrap a * IntKind.u64.wrap b))) = d1) (d10 : -32768 ≤ d1) (d11 : d1 ≤ 32768) (q d2 : Int) (HQ : Hid (divR a b = (q, 0))) (hd2 : wrap64 (IntKind.u64.wrap (IntKind.u64.wrap (IntKind.u64.wrap q * IntKind.u64.wrap b) - IntKind.u64.wrap (IntKind.u64.wrap a * 65536))) = d2) (d20 : -274877906944 ≤ d2) (d21 : d2 ≤ 274877906944) (d22 : 2 * d2 ≤ max b (wrap64 (-b))) (d23 : -2 * d2 ≤ max b (wrap64 (-b)))
    (HX : Hid (rA [a, c] (mulX a c) = (x, g))) (HY : Hid (rA [b, c] (mulX b c) = (y, h))) (HE : Hid (0 ≤ a → a ≤ b → 0 ≤ c → h = 0 → g = 0 ∧ x ≤ y)) : Calls Tryd.prog 3 #[.int .i64 a, .int .i64 b, .int .i64 c] w fun e w' => e = .returned (.bool true) ∧ Below w.heap.size w w' := by
  have B0 := Lib.hid (show Below w.heap.size w w from Below.refl _ _)
  obtain ⟨ea, hea⟩ : ∃ ea, decide (a < 0) = ea := ⟨_, rfl⟩
  obtain ⟨eb, heb⟩ : ∃ eb, decide (b < a) = eb := ⟨_, rfl⟩
  obtain ⟨ec, hec⟩ : ∃ ec, decide (c < 0) = ec := ⟨_, rfl⟩
  cases ea with
  | true =>
    clear heb hec
    go_enter Tryd.func3, Tryd.ntmps3
    go_wp2_with fail
    refine (valid10 a _).mono ?_
    rintro e w1 ⟨rfl, rfl⟩
    rw [Va.out]
    go_wp2_with fail
    refine (valid10 b _).mono ?_
    rintro e w1 ⟨rfl, rfl⟩
    rw [Vb.out]
    go_wp2_with fail
    refine (valid10 c _).mono ?_
    rintro e w1 ⟨rfl, rfl⟩
    rw [Vc.out]
    go_wp2_with fail
    refine (awake11 _ HT.out).mono ?_
    rintro e x1 ⟨rfl, hb⟩
    have B1 := Lib.hid (B0.out.trans (hb.mono B0.out.size))
    clear hb B0
    go_wp2_with fail
    refine (at_ HP.out (mul12 a b _)).mono ?_
    rintro e x2 ⟨rfl, hb⟩
    have B2 := Lib.hid (B1.out.trans (hb.mono B1.out.size))
    clear hb B1
    go_wp2_with fail
    refine (at_ HQ.out (div13 a b _)).mono ?_
    rintro e x3 ⟨rfl, hb⟩
    have B3 := Lib.hid (B2.out.trans (hb.mono B2.out.size))
    clear hb B2
    go_wp2_with fail
    go_ret
    exact ⟨rfl, B3.out⟩
  | false =>
  cases eb with
  | true =>
    clear hec
    go_enter Tryd.func3, Tryd.ntmps3
    go_wp2_with fail
    refine (valid10 a _).mono ?_
    rintro e w1 ⟨rfl, rfl⟩
    rw [Va.out]
    go_wp2_with fail
    refine (valid10 b _).mono ?_
    rintro e w1 ⟨rfl, rfl⟩
    rw [Vb.out]
    go_wp2_with fail
    refine (valid10 c _).mono ?_
    rintro e w1 ⟨rfl, rfl⟩
    rw [Vc.out]
    go_wp2_with fail
    refine (awake11 _ HT.out).mono ?_
    rintro e x1 ⟨rfl, hb⟩
    have B1 := Lib.hid (B0.out.trans (hb.mono B0.out.size))
    clear hb B0
    go_wp2_with fail
    refine (at_ HP.out (mul12 a b _)).mono ?_
    rintro e x2 ⟨rfl, hb⟩
    have B2 := Lib.hid (B1.out.trans (hb.mono B1.out.size))
    clear hb B1
    go_wp2_with fail
    refine (at_ HQ.out (div13 a b _)).mono ?_
    rintro e x3 ⟨rfl, hb⟩
    have B3 := Lib.hid (B2.out.trans (hb.mono B2.out.size))
    clear hb B2
    go_wp2_with fail
    go_ret
    exact ⟨rfl, B3.out⟩
  | false =>
  cases ec with
  | true =>
    go_enter Tryd.func3, Tryd.ntmps3
    go_wp2_with fail
    refine (valid10 a _).mono ?_
    rintro e w1 ⟨rfl, rfl⟩
    rw [Va.out]
    go_wp2_with fail
    refine (valid10 b _).mono ?_
    rintro e w1 ⟨rfl, rfl⟩
    rw [Vb.out]
    go_wp2_with fail
    refine (valid10 c _).mono ?_
    rintro e w1 ⟨rfl, rfl⟩
    rw [Vc.out]
    go_wp2_with fail
    refine (awake11 _ HT.out).mono ?_
    rintro e x1 ⟨rfl, hb⟩
    have B1 := Lib.hid (B0.out.trans (hb.mono B0.out.size))
    clear hb B0
    go_wp2_with fail
    refine (at_ HP.out (mul12 a b _)).mono ?_
    rintro e x2 ⟨rfl, hb⟩
    have B2 := Lib.hid (B1.out.trans (hb.mono B1.out.size))
    clear hb B1
    go_wp2_with fail
    refine (at_ HQ.out (div13 a b _)).mono ?_
    rintro e x3 ⟨rfl, hb⟩
    have B3 := Lib.hid (B2.out.trans (hb.mono B2.out.size))
    clear hb B2
    go_wp2_with fail
    go_ret
    exact ⟨rfl, B3.out⟩
  | false =>
  have HL := Lib.hid (And.intro (show 0 ≤ a by simpa using hea) (And.intro (show a ≤ b by simpa using heb) (show 0 ≤ c by simpa using hec)))
  by_cases hh : h = 0
  · obtain ⟨hg, hxy⟩ := HE.out HL.out.1 HL.out.2.1 HL.out.2.2 hh
    subst hh; subst hg
    go_enter Tryd.func3, Tryd.ntmps3
    go_wp2_with fail
    refine (valid10 a _).mono ?_
    rintro e w1 ⟨rfl, rfl⟩
    rw [Va.out]
    go_wp2_with fail
    refine (valid10 b _).mono ?_
    rintro e w1 ⟨rfl, rfl⟩
    rw [Vb.out]
    go_wp2_with fail
    refine (valid10 c _).mono ?_
    rintro e w1 ⟨rfl, rfl⟩
    rw [Vc.out]
    go_wp2_with fail
    refine (awake11 _ HT.out).mono ?_
    rintro e x1 ⟨rfl, hb⟩
    have B1 := Lib.hid (B0.out.trans (hb.mono B0.out.size))
    clear hb B0
    go_wp2_with fail
    refine (at_ HP.out (mul12 a b _)).mono ?_
    rintro e x2 ⟨rfl, hb⟩
    have B2 := Lib.hid (B1.out.trans (hb.mono B1.out.size))
    clear hb B1
    go_wp2_with fail
    refine (at_ HQ.out (div13 a b _)).mono ?_
    rintro e x3 ⟨rfl, hb⟩
    have B3 := Lib.hid (B2.out.trans (hb.mono B2.out.size))
    clear hb B2
    go_wp2_with fail
    refine (at_ HX.out (mul12 a c _)).mono ?_
    rintro e x4 ⟨rfl, hb⟩
    have B4 := Lib.hid (B3.out.trans (hb.mono B3.out.size))
    clear hb B3
    go_wp2_with fail
    refine (at_ HY.out (mul12 b c _)).mono ?_
    rintro e x5 ⟨rfl, hb⟩
    have B5 := Lib.hid (B4.out.trans (hb.mono B4.out.size))
    clear hb B4
    go_wp2_with fail
    go_ret
    exact ⟨rfl, B5.out⟩
  · have hh0 : (h != 0) = true := by simp [hh]
    clear hh
    go_enter Tryd.func3, Tryd.ntmps3
    go_wp2_with fail
    refine (valid10 a _).mono ?_
    rintro e w1 ⟨rfl, rfl⟩
    rw [Va.out]
    go_wp2_with fail
    refine (valid10 b _).mono ?_
    rintro e w1 ⟨rfl, rfl⟩
    rw [Vb.out]
    go_wp2_with fail
    refine (valid10 c _).mono ?_
    rintro e w1 ⟨rfl, rfl⟩
    rw [Vc.out]
    go_wp2_with fail
    refine (awake11 _ HT.out).mono ?_
    rintro e x1 ⟨rfl, hb⟩
    have B1 := Lib.hid (B0.out.trans (hb.mono B0.out.size))
    clear hb B0
    go_wp2_with fail
    refine (at_ HP.out (mul12 a b _)).mono ?_
    rintro e x2 ⟨rfl, hb⟩
    have B2 := Lib.hid (B1.out.trans (hb.mono B1.out.size))
    clear hb B1
    go_wp2_with fail
    refine (at_ HQ.out (div13 a b _)).mono ?_
    rintro e x3 ⟨rfl, hb⟩
    have B3 := Lib.hid (B2.out.trans (hb.mono B2.out.size))
    clear hb B2
    go_wp2_with fail
    refine (at_ HX.out (mul12 a c _)).mono ?_
    rintro e x4 ⟨rfl, hb⟩
    have B4 := Lib.hid (B3.out.trans (hb.mono B3.out.size))
    clear hb B3
    go_wp2_with fail
    refine (at_ HY.out (mul12 b c _)).mono ?_
    rintro e x5 ⟨rfl, hb⟩
    have B5 := Lib.hid (B4.out.trans (hb.mono B4.out.size))
    clear hb B4
    go_wp2_with fail
    go_ret
    exact ⟨rfl, B5.out⟩
set_option maxRecDepth 100000 in
set_option maxHeartbeats 4000000 in
theorem rounds3YN (a b c x g y h : Int) (w : World) (HT : Hid (Tab w)) (Va : Hid (vF a = true)) (Vb : Hid (vF b = true)) (Vc : Hid (vF c = true)) (p d1 : Int) (HP : Hid (rA [a, b] (mulX a b) = (p, 0))) (hd1 : wrap64 (IntKind.u64.wrap (IntKind.u64.wrap (IntKind.u64.wrap p * 65536) - IntKind.u64.wrap (IntKind.u64.wrap a * IntKind.u64.wrap b))) = d1) (d10 : -32768 ≤ d1) (d11 : d1 ≤ 32768) (k : Int) (hk : (k == 0) = false) (HQ : Hid (divR a b = (0, k)))
    (HX : Hid (rA [a, c] (mulX a c) = (x, g))) (HY : Hid (rA [b, c] (mulX b c) = (y, h))) (HE : Hid (0 ≤ a → a ≤ b → 0 ≤ c → h = 0 → g = 0 ∧ x ≤ y)) : Calls Tryd.prog 3 #[.int .i64 a, .int .i64 b, .int .i64 c] w fun e w' => e = .returned (.bool true) ∧ Below w.heap.size w w' := by
  have B0 := Lib.hid (show Below w.heap.size w w from Below.refl _ _)
  obtain ⟨ea, hea⟩ : ∃ ea, decide (a < 0) = ea := ⟨_, rfl⟩
  obtain ⟨eb, heb⟩ : ∃ eb, decide (b < a) = eb := ⟨_, rfl⟩
  obtain ⟨ec, hec⟩ : ∃ ec, decide (c < 0) = ec := ⟨_, rfl⟩
  cases ea with
  | true =>
    clear heb hec
    go_enter Tryd.func3, Tryd.ntmps3
    go_wp2_with fail
    refine (valid10 a _).mono ?_
    rintro e w1 ⟨rfl, rfl⟩
    rw [Va.out]
    go_wp2_with fail
    refine (valid10 b _).mono ?_
    rintro e w1 ⟨rfl, rfl⟩
    rw [Vb.out]
    go_wp2_with fail
    refine (valid10 c _).mono ?_
    rintro e w1 ⟨rfl, rfl⟩
    rw [Vc.out]
    go_wp2_with fail
    refine (awake11 _ HT.out).mono ?_
    rintro e x1 ⟨rfl, hb⟩
    have B1 := Lib.hid (B0.out.trans (hb.mono B0.out.size))
    clear hb B0
    go_wp2_with fail
    refine (at_ HP.out (mul12 a b _)).mono ?_
    rintro e x2 ⟨rfl, hb⟩
    have B2 := Lib.hid (B1.out.trans (hb.mono B1.out.size))
    clear hb B1
    go_wp2_with fail
    refine (at_ HQ.out (div13 a b _)).mono ?_
    rintro e x3 ⟨rfl, hb⟩
    have B3 := Lib.hid (B2.out.trans (hb.mono B2.out.size))
    clear hb B2
    go_wp2_with fail
    go_ret
    exact ⟨rfl, B3.out⟩
  | false =>
  cases eb with
  | true =>
    clear hec
    go_enter Tryd.func3, Tryd.ntmps3
    go_wp2_with fail
    refine (valid10 a _).mono ?_
    rintro e w1 ⟨rfl, rfl⟩
    rw [Va.out]
    go_wp2_with fail
    refine (valid10 b _).mono ?_
    rintro e w1 ⟨rfl, rfl⟩
    rw [Vb.out]
    go_wp2_with fail
    refine (valid10 c _).mono ?_
    rintro e w1 ⟨rfl, rfl⟩
    rw [Vc.out]
    go_wp2_with fail
    refine (awake11 _ HT.out).mono ?_
    rintro e x1 ⟨rfl, hb⟩
    have B1 := Lib.hid (B0.out.trans (hb.mono B0.out.size))
    clear hb B0
    go_wp2_with fail
    refine (at_ HP.out (mul12 a b _)).mono ?_
    rintro e x2 ⟨rfl, hb⟩
    have B2 := Lib.hid (B1.out.trans (hb.mono B1.out.size))
    clear hb B1
    go_wp2_with fail
    refine (at_ HQ.out (div13 a b _)).mono ?_
    rintro e x3 ⟨rfl, hb⟩
    have B3 := Lib.hid (B2.out.trans (hb.mono B2.out.size))
    clear hb B2
    go_wp2_with fail
    go_ret
    exact ⟨rfl, B3.out⟩
  | false =>
  cases ec with
  | true =>
    go_enter Tryd.func3, Tryd.ntmps3
    go_wp2_with fail
    refine (valid10 a _).mono ?_
    rintro e w1 ⟨rfl, rfl⟩
    rw [Va.out]
    go_wp2_with fail
    refine (valid10 b _).mono ?_
    rintro e w1 ⟨rfl, rfl⟩
    rw [Vb.out]
    go_wp2_with fail
    refine (valid10 c _).mono ?_
    rintro e w1 ⟨rfl, rfl⟩
    rw [Vc.out]
    go_wp2_with fail
    refine (awake11 _ HT.out).mono ?_
    rintro e x1 ⟨rfl, hb⟩
    have B1 := Lib.hid (B0.out.trans (hb.mono B0.out.size))
    clear hb B0
    go_wp2_with fail
    refine (at_ HP.out (mul12 a b _)).mono ?_
    rintro e x2 ⟨rfl, hb⟩
    have B2 := Lib.hid (B1.out.trans (hb.mono B1.out.size))
    clear hb B1
    go_wp2_with fail
    refine (at_ HQ.out (div13 a b _)).mono ?_
    rintro e x3 ⟨rfl, hb⟩
    have B3 := Lib.hid (B2.out.trans (hb.mono B2.out.size))
    clear hb B2
    go_wp2_with fail
    go_ret
    exact ⟨rfl, B3.out⟩
  | false =>
  have HL := Lib.hid (And.intro (show 0 ≤ a by simpa using hea) (And.intro (show a ≤ b by simpa using heb) (show 0 ≤ c by simpa using hec)))
  by_cases hh : h = 0
  · obtain ⟨hg, hxy⟩ := HE.out HL.out.1 HL.out.2.1 HL.out.2.2 hh
    subst hh; subst hg
    go_enter Tryd.func3, Tryd.ntmps3
    go_wp2_with fail
    refine (valid10 a _).mono ?_
    rintro e w1 ⟨rfl, rfl⟩
    rw [Va.out]
    go_wp2_with fail
    refine (valid10 b _).mono ?_
    rintro e w1 ⟨rfl, rfl⟩
    rw [Vb.out]
    go_wp2_with fail
    refine (valid10 c _).mono ?_
    rintro e w1 ⟨rfl, rfl⟩
    rw [Vc.out]
    go_wp2_with fail
    refine (awake11 _ HT.out).mono ?_
    rintro e x1 ⟨rfl, hb⟩
    have B1 := Lib.hid (B0.out.trans (hb.mono B0.out.size))
    clear hb B0
    go_wp2_with fail
    refine (at_ HP.out (mul12 a b _)).mono ?_
    rintro e x2 ⟨rfl, hb⟩
    have B2 := Lib.hid (B1.out.trans (hb.mono B1.out.size))
    clear hb B1
    go_wp2_with fail
    refine (at_ HQ.out (div13 a b _)).mono ?_
    rintro e x3 ⟨rfl, hb⟩
    have B3 := Lib.hid (B2.out.trans (hb.mono B2.out.size))
    clear hb B2
    go_wp2_with fail
    refine (at_ HX.out (mul12 a c _)).mono ?_
    rintro e x4 ⟨rfl, hb⟩
    have B4 := Lib.hid (B3.out.trans (hb.mono B3.out.size))
    clear hb B3
    go_wp2_with fail
    refine (at_ HY.out (mul12 b c _)).mono ?_
    rintro e x5 ⟨rfl, hb⟩
    have B5 := Lib.hid (B4.out.trans (hb.mono B4.out.size))
    clear hb B4
    go_wp2_with fail
    go_ret
    exact ⟨rfl, B5.out⟩
  · have hh0 : (h != 0) = true := by simp [hh]
    clear hh
    go_enter Tryd.func3, Tryd.ntmps3
    go_wp2_with fail
    refine (valid10 a _).mono ?_
    rintro e w1 ⟨rfl, rfl⟩
    rw [Va.out]
    go_wp2_with fail
    refine (valid10 b _).mono ?_
    rintro e w1 ⟨rfl, rfl⟩
    rw [Vb.out]
    go_wp2_with fail
    refine (valid10 c _).mono ?_
    rintro e w1 ⟨rfl, rfl⟩
    rw [Vc.out]
    go_wp2_with fail
    refine (awake11 _ HT.out).mono ?_
    rintro e x1 ⟨rfl, hb⟩
    have B1 := Lib.hid (B0.out.trans (hb.mono B0.out.size))
    clear hb B0
    go_wp2_with fail
    refine (at_ HP.out (mul12 a b _)).mono ?_
    rintro e x2 ⟨rfl, hb⟩
    have B2 := Lib.hid (B1.out.trans (hb.mono B1.out.size))
    clear hb B1
    go_wp2_with fail
    refine (at_ HQ.out (div13 a b _)).mono ?_
    rintro e x3 ⟨rfl, hb⟩
    have B3 := Lib.hid (B2.out.trans (hb.mono B2.out.size))
    clear hb B2
    go_wp2_with fail
    refine (at_ HX.out (mul12 a c _)).mono ?_
    rintro e x4 ⟨rfl, hb⟩
    have B4 := Lib.hid (B3.out.trans (hb.mono B3.out.size))
    clear hb B3
    go_wp2_with fail
    refine (at_ HY.out (mul12 b c _)).mono ?_
    rintro e x5 ⟨rfl, hb⟩
    have B5 := Lib.hid (B4.out.trans (hb.mono B4.out.size))
    clear hb B4
    go_wp2_with fail
    go_ret
    exact ⟨rfl, B5.out⟩
set_option maxRecDepth 100000 in
set_option maxHeartbeats 4000000 in
theorem rounds3NY (a b c x g y h : Int) (w : World) (HT : Hid (Tab w)) (Va : Hid (vF a = true)) (Vb : Hid (vF b = true)) (Vc : Hid (vF c = true)) (HP : Hid (rA [a, b] (mulX a b) = (0, 7))) (q d2 : Int) (HQ : Hid (divR a b = (q, 0))) (hd2 : wrap64 (IntKind.u64.wrap (IntKind.u64.wrap (IntKind.u64.wrap q * IntKind.u64.wrap b) - IntKind.u64.wrap (IntKind.u64.wrap a * 65536))) = d2) (d20 : -274877906944 ≤ d2) (d21 : d2 ≤ 274877906944) (d22 : 2 * d2 ≤ max b (wrap64 (-b))) (d23 : -2 * d2 ≤ max b (wrap64 (-b)))
    (HX : Hid (rA [a, c] (mulX a c) = (x, g))) (HY : Hid (rA [b, c] (mulX b c) = (y, h))) (HE : Hid (0 ≤ a → a ≤ b → 0 ≤ c → h = 0 → g = 0 ∧ x ≤ y)) : Calls Tryd.prog 3 #[.int .i64 a, .int .i64 b, .int .i64 c] w fun e w' => e = .returned (.bool true) ∧ Below w.heap.size w w' := by
  have B0 := Lib.hid (show Below w.heap.size w w from Below.refl _ _)
  obtain ⟨ea, hea⟩ : ∃ ea, decide (a < 0) = ea := ⟨_, rfl⟩
  obtain ⟨eb, heb⟩ : ∃ eb, decide (b < a) = eb := ⟨_, rfl⟩
  obtain ⟨ec, hec⟩ : ∃ ec, decide (c < 0) = ec := ⟨_, rfl⟩
  cases ea with
  | true =>
    clear heb hec
    go_enter Tryd.func3, Tryd.ntmps3
    go_wp2_with fail
    refine (valid10 a _).mono ?_
    rintro e w1 ⟨rfl, rfl⟩
    rw [Va.out]
    go_wp2_with fail
    refine (valid10 b _).mono ?_
    rintro e w1 ⟨rfl, rfl⟩
    rw [Vb.out]
    go_wp2_with fail
    refine (valid10 c _).mono ?_
    rintro e w1 ⟨rfl, rfl⟩
    rw [Vc.out]
    go_wp2_with fail
    refine (awake11 _ HT.out).mono ?_
    rintro e x1 ⟨rfl, hb⟩
    have B1 := Lib.hid (B0.out.trans (hb.mono B0.out.size))
    clear hb B0
    go_wp2_with fail
    refine (at_ HP.out (mul12 a b _)).mono ?_
    rintro e x2 ⟨rfl, hb⟩
    have B2 := Lib.hid (B1.out.trans (hb.mono B1.out.size))
    clear hb B1
    go_wp2_with fail
    refine (at_ HQ.out (div13 a b _)).mono ?_
    rintro e x3 ⟨rfl, hb⟩
    have B3 := Lib.hid (B2.out.trans (hb.mono B2.out.size))
    clear hb B2
    go_wp2_with fail
    go_ret
    exact ⟨rfl, B3.out⟩
  | false =>
  cases eb with
  | true =>
    clear hec
    go_enter Tryd.func3, Tryd.ntmps3
    go_wp2_with fail
    refine (valid10 a _).mono ?_
    rintro e w1 ⟨rfl, rfl⟩
    rw [Va.out]
    go_wp2_with fail
    refine (valid10 b _).mono ?_
    rintro e w1 ⟨rfl, rfl⟩
    rw [Vb.out]
    go_wp2_with fail
    refine (valid10 c _).mono ?_
    rintro e w1 ⟨rfl, rfl⟩
    rw [Vc.out]
    go_wp2_with fail
    refine (awake11 _ HT.out).mono ?_
    rintro e x1 ⟨rfl, hb⟩
    have B1 := Lib.hid (B0.out.trans (hb.mono B0.out.size))
    clear hb B0
    go_wp2_with fail
    refine (at_ HP.out (mul12 a b _)).mono ?_
    rintro e x2 ⟨rfl, hb⟩
    have B2 := Lib.hid (B1.out.trans (hb.mono B1.out.size))
    clear hb B1
    go_wp2_with fail
    refine (at_ HQ.out (div13 a b _)).mono ?_
    rintro e x3 ⟨rfl, hb⟩
    have B3 := Lib.hid (B2.out.trans (hb.mono B2.out.size))
    clear hb B2
    go_wp2_with fail
    go_ret
    exact ⟨rfl, B3.out⟩
  | false =>
  cases ec with
  | true =>
    go_enter Tryd.func3, Tryd.ntmps3
    go_wp2_with fail
    refine (valid10 a _).mono ?_
    rintro e w1 ⟨rfl, rfl⟩
    rw [Va.out]
    go_wp2_with fail
    refine (valid10 b _).mono ?_
    rintro e w1 ⟨rfl, rfl⟩
    rw [Vb.out]
    go_wp2_with fail
    refine (valid10 c _).mono ?_
    rintro e w1 ⟨rfl, rfl⟩
    rw [Vc.out]
    go_wp2_with fail
    refine (awake11 _ HT.out).mono ?_
    rintro e x1 ⟨rfl, hb⟩
    have B1 := Lib.hid (B0.out.trans (hb.mono B0.out.size))
    clear hb B0
    go_wp2_with fail
    refine (at_ HP.out (mul12 a b _)).mono ?_
    rintro e x2 ⟨rfl, hb⟩
    have B2 := Lib.hid (B1.out.trans (hb.mono B1.out.size))
    clear hb B1
    go_wp2_with fail
    refine (at_ HQ.out (div13 a b _)).mono ?_
    rintro e x3 ⟨rfl, hb⟩
    have B3 := Lib.hid (B2.out.trans (hb.mono B2.out.size))
    clear hb B2
    go_wp2_with fail
    go_ret
    exact ⟨rfl, B3.out⟩
  | false =>
  have HL := Lib.hid (And.intro (show 0 ≤ a by simpa using hea) (And.intro (show a ≤ b by simpa using heb) (show 0 ≤ c by simpa using hec)))
  by_cases hh : h = 0
  · obtain ⟨hg, hxy⟩ := HE.out HL.out.1 HL.out.2.1 HL.out.2.2 hh
    subst hh; subst hg
    go_enter Tryd.func3, Tryd.ntmps3
    go_wp2_with fail
    refine (valid10 a _).mono ?_
    rintro e w1 ⟨rfl, rfl⟩
    rw [Va.out]
    go_wp2_with fail
    refine (valid10 b _).mono ?_
    rintro e w1 ⟨rfl, rfl⟩
    rw [Vb.out]
    go_wp2_with fail
    refine (valid10 c _).mono ?_
    rintro e w1 ⟨rfl, rfl⟩
    rw [Vc.out]
    go_wp2_with fail
    refine (awake11 _ HT.out).mono ?_
    rintro e x1 ⟨rfl, hb⟩
    have B1 := Lib.hid (B0.out.trans (hb.mono B0.out.size))
    clear hb B0
    go_wp2_with fail
    refine (at_ HP.out (mul12 a b _)).mono ?_
    rintro e x2 ⟨rfl, hb⟩
    have B2 := Lib.hid (B1.out.trans (hb.mono B1.out.size))
    clear hb B1
    go_wp2_with fail
    refine (at_ HQ.out (div13 a b _)).mono ?_
    rintro e x3 ⟨rfl, hb⟩
    have B3 := Lib.hid (B2.out.trans (hb.mono B2.out.size))
    clear hb B2
    go_wp2_with fail
    refine (at_ HX.out (mul12 a c _)).mono ?_
    rintro e x4 ⟨rfl, hb⟩
    have B4 := Lib.hid (B3.out.trans (hb.mono B3.out.size))
    clear hb B3
    go_wp2_with fail
    refine (at_ HY.out (mul12 b c _)).mono ?_
    rintro e x5 ⟨rfl, hb⟩
    have B5 := Lib.hid (B4.out.trans (hb.mono B4.out.size))
    clear hb B4
    go_wp2_with fail
    go_ret
    exact ⟨rfl, B5.out⟩
  · have hh0 : (h != 0) = true := by simp [hh]
    clear hh
    go_enter Tryd.func3, Tryd.ntmps3
    go_wp2_with fail
    refine (valid10 a _).mono ?_
    rintro e w1 ⟨rfl, rfl⟩
    rw [Va.out]
    go_wp2_with fail
    refine (valid10 b _).mono ?_
    rintro e w1 ⟨rfl, rfl⟩
    rw [Vb.out]
    go_wp2_with fail
    refine (valid10 c _).mono ?_
    rintro e w1 ⟨rfl, rfl⟩
    rw [Vc.out]
    go_wp2_with fail
    refine (awake11 _ HT.out).mono ?_
    rintro e x1 ⟨rfl, hb⟩
    have B1 := Lib.hid (B0.out.trans (hb.mono B0.out.size))
    clear hb B0
    go_wp2_with fail
    refine (at_ HP.out (mul12 a b _)).mono ?_
    rintro e x2 ⟨rfl, hb⟩
    have B2 := Lib.hid (B1.out.trans (hb.mono B1.out.size))
    clear hb B1
    go_wp2_with fail
    refine (at_ HQ.out (div13 a b _)).mono ?_
    rintro e x3 ⟨rfl, hb⟩
    have B3 := Lib.hid (B2.out.trans (hb.mono B2.out.size))
    clear hb B2
    go_wp2_with fail
    refine (at_ HX.out (mul12 a c _)).mono ?_
    rintro e x4 ⟨rfl, hb⟩
    have B4 := Lib.hid (B3.out.trans (hb.mono B3.out.size))
    clear hb B3
    go_wp2_with fail
    refine (at_ HY.out (mul12 b c _)).mono ?_
    rintro e x5 ⟨rfl, hb⟩
    have B5 := Lib.hid (B4.out.trans (hb.mono B4.out.size))
    clear hb B4
    go_wp2_with fail
    go_ret
    exact ⟨rfl, B5.out⟩
set_option maxRecDepth 100000 in
set_option maxHeartbeats 4000000 in
theorem rounds3NN (a b c x g y h : Int) (w : World) (HT : Hid (Tab w)) (Va : Hid (vF a = true)) (Vb : Hid (vF b = true)) (Vc : Hid (vF c = true)) (HP : Hid (rA [a, b] (mulX a b) = (0, 7))) (k : Int) (hk : (k == 0) = false) (HQ : Hid (divR a b = (0, k)))
    (HX : Hid (rA [a, c] (mulX a c) = (x, g))) (HY : Hid (rA [b, c] (mulX b c) = (y, h))) (HE : Hid (0 ≤ a → a ≤ b → 0 ≤ c → h = 0 → g = 0 ∧ x ≤ y)) : Calls Tryd.prog 3 #[.int .i64 a, .int .i64 b, .int .i64 c] w fun e w' => e = .returned (.bool true) ∧ Below w.heap.size w w' := by
  have B0 := Lib.hid (show Below w.heap.size w w from Below.refl _ _)
  obtain ⟨ea, hea⟩ : ∃ ea, decide (a < 0) = ea := ⟨_, rfl⟩
  obtain ⟨eb, heb⟩ : ∃ eb, decide (b < a) = eb := ⟨_, rfl⟩
  obtain ⟨ec, hec⟩ : ∃ ec, decide (c < 0) = ec := ⟨_, rfl⟩
  cases ea with
  | true =>
    clear heb hec
    go_enter Tryd.func3, Tryd.ntmps3
    go_wp2_with fail
    refine (valid10 a _).mono ?_
    rintro e w1 ⟨rfl, rfl⟩
    rw [Va.out]
    go_wp2_with fail
    refine (valid10 b _).mono ?_
    rintro e w1 ⟨rfl, rfl⟩
    rw [Vb.out]
    go_wp2_with fail
    refine (valid10 c _).mono ?_
    rintro e w1 ⟨rfl, rfl⟩
    rw [Vc.out]
    go_wp2_with fail
    refine (awake11 _ HT.out).mono ?_
    rintro e x1 ⟨rfl, hb⟩
    have B1 := Lib.hid (B0.out.trans (hb.mono B0.out.size))
    clear hb B0
    go_wp2_with fail
    refine (at_ HP.out (mul12 a b _)).mono ?_
    rintro e x2 ⟨rfl, hb⟩
    have B2 := Lib.hid (B1.out.trans (hb.mono B1.out.size))
    clear hb B1
    go_wp2_with fail
    refine (at_ HQ.out (div13 a b _)).mono ?_
    rintro e x3 ⟨rfl, hb⟩
    have B3 := Lib.hid (B2.out.trans (hb.mono B2.out.size))
    clear hb B2
    go_wp2_with fail
    go_ret
    exact ⟨rfl, B3.out⟩
  | false =>
  cases eb with
  | true =>
    clear hec
    go_enter Tryd.func3, Tryd.ntmps3
    go_wp2_with fail
    refine (valid10 a _).mono ?_
    rintro e w1 ⟨rfl, rfl⟩
    rw [Va.out]
    go_wp2_with fail
    refine (valid10 b _).mono ?_
    rintro e w1 ⟨rfl, rfl⟩
    rw [Vb.out]
    go_wp2_with fail
    refine (valid10 c _).mono ?_
    rintro e w1 ⟨rfl, rfl⟩
    rw [Vc.out]
    go_wp2_with fail
    refine (awake11 _ HT.out).mono ?_
    rintro e x1 ⟨rfl, hb⟩
    have B1 := Lib.hid (B0.out.trans (hb.mono B0.out.size))
    clear hb B0
    go_wp2_with fail
    refine (at_ HP.out (mul12 a b _)).mono ?_
    rintro e x2 ⟨rfl, hb⟩
    have B2 := Lib.hid (B1.out.trans (hb.mono B1.out.size))
    clear hb B1
    go_wp2_with fail
    refine (at_ HQ.out (div13 a b _)).mono ?_
    rintro e x3 ⟨rfl, hb⟩
    have B3 := Lib.hid (B2.out.trans (hb.mono B2.out.size))
    clear hb B2
    go_wp2_with fail
    go_ret
    exact ⟨rfl, B3.out⟩
  | false =>
  cases ec with
  | true =>
    go_enter Tryd.func3, Tryd.ntmps3
    go_wp2_with fail
    refine (valid10 a _).mono ?_
    rintro e w1 ⟨rfl, rfl⟩
    rw [Va.out]
    go_wp2_with fail
    refine (valid10 b _).mono ?_
    rintro e w1 ⟨rfl, rfl⟩
    rw [Vb.out]
    go_wp2_with fail
    refine (valid10 c _).mono ?_
    rintro e w1 ⟨rfl, rfl⟩
    rw [Vc.out]
    go_wp2_with fail
    refine (awake11 _ HT.out).mono ?_
    rintro e x1 ⟨rfl, hb⟩
    have B1 := Lib.hid (B0.out.trans (hb.mono B0.out.size))
    clear hb B0
    go_wp2_with fail
    refine (at_ HP.out (mul12 a b _)).mono ?_
    rintro e x2 ⟨rfl, hb⟩
    have B2 := Lib.hid (B1.out.trans (hb.mono B1.out.size))
    clear hb B1
    go_wp2_with fail
    refine (at_ HQ.out (div13 a b _)).mono ?_
    rintro e x3 ⟨rfl, hb⟩
    have B3 := Lib.hid (B2.out.trans (hb.mono B2.out.size))
    clear hb B2
    go_wp2_with fail
    go_ret
    exact ⟨rfl, B3.out⟩
  | false =>
  have HL := Lib.hid (And.intro (show 0 ≤ a by simpa using hea) (And.intro (show a ≤ b by simpa using heb) (show 0 ≤ c by simpa using hec)))
  by_cases hh : h = 0
  · obtain ⟨hg, hxy⟩ := HE.out HL.out.1 HL.out.2.1 HL.out.2.2 hh
    subst hh; subst hg
    go_enter Tryd.func3, Tryd.ntmps3
    go_wp2_with fail
    refine (valid10 a _).mono ?_
    rintro e w1 ⟨rfl, rfl⟩
    rw [Va.out]
    go_wp2_with fail
    refine (valid10 b _).mono ?_
    rintro e w1 ⟨rfl, rfl⟩
    rw [Vb.out]
    go_wp2_with fail
    refine (valid10 c _).mono ?_
    rintro e w1 ⟨rfl, rfl⟩
    rw [Vc.out]
    go_wp2_with fail
    refine (awake11 _ HT.out).mono ?_
    rintro e x1 ⟨rfl, hb⟩
    have B1 := Lib.hid (B0.out.trans (hb.mono B0.out.size))
    clear hb B0
    go_wp2_with fail
    refine (at_ HP.out (mul12 a b _)).mono ?_
    rintro e x2 ⟨rfl, hb⟩
    have B2 := Lib.hid (B1.out.trans (hb.mono B1.out.size))
    clear hb B1
    go_wp2_with fail
    refine (at_ HQ.out (div13 a b _)).mono ?_
    rintro e x3 ⟨rfl, hb⟩
    have B3 := Lib.hid (B2.out.trans (hb.mono B2.out.size))
    clear hb B2
    go_wp2_with fail
    refine (at_ HX.out (mul12 a c _)).mono ?_
    rintro e x4 ⟨rfl, hb⟩
    have B4 := Lib.hid (B3.out.trans (hb.mono B3.out.size))
    clear hb B3
    go_wp2_with fail
    refine (at_ HY.out (mul12 b c _)).mono ?_
    rintro e x5 ⟨rfl, hb⟩
    have B5 := Lib.hid (B4.out.trans (hb.mono B4.out.size))
    clear hb B4
    go_wp2_with fail
    go_ret
    exact ⟨rfl, B5.out⟩
  · have hh0 : (h != 0) = true := by simp [hh]
    clear hh
    go_enter Tryd.func3, Tryd.ntmps3
    go_wp2_with fail
    refine (valid10 a _).mono ?_
    rintro e w1 ⟨rfl, rfl⟩
    rw [Va.out]
    go_wp2_with fail
    refine (valid10 b _).mono ?_
    rintro e w1 ⟨rfl, rfl⟩
    rw [Vb.out]
    go_wp2_with fail
    refine (valid10 c _).mono ?_
    rintro e w1 ⟨rfl, rfl⟩
    rw [Vc.out]
    go_wp2_with fail
    refine (awake11 _ HT.out).mono ?_
    rintro e x1 ⟨rfl, hb⟩
    have B1 := Lib.hid (B0.out.trans (hb.mono B0.out.size))
    clear hb B0
    go_wp2_with fail
    refine (at_ HP.out (mul12 a b _)).mono ?_
    rintro e x2 ⟨rfl, hb⟩
    have B2 := Lib.hid (B1.out.trans (hb.mono B1.out.size))
    clear hb B1
    go_wp2_with fail
    refine (at_ HQ.out (div13 a b _)).mono ?_
    rintro e x3 ⟨rfl, hb⟩
    have B3 := Lib.hid (B2.out.trans (hb.mono B2.out.size))
    clear hb B2
    go_wp2_with fail
    refine (at_ HX.out (mul12 a c _)).mono ?_
    rintro e x4 ⟨rfl, hb⟩
    have B4 := Lib.hid (B3.out.trans (hb.mono B3.out.size))
    clear hb B3
    go_wp2_with fail
    refine (at_ HY.out (mul12 b c _)).mono ?_
    rintro e x5 ⟨rfl, hb⟩
    have B5 := Lib.hid (B4.out.trans (hb.mono B4.out.size))
    clear hb B4
    go_wp2_with fail
    go_ret
    exact ⟨rfl, B5.out⟩
theorem rounds3 (a b c : Int) (w : World) (ht : Tab w) : Calls Tryd.prog 3 #[.int .i64 a, .int .i64 b, .int .i64 c] w fun e w' => e = .returned (.bool true) ∧ Below w.heap.size w w' := by
  have HT := Lib.hid ht
  have B0 := Lib.hid (show Below w.heap.size w w from Below.refl _ _)
  clear ht
  cases ha : vF a with
  | false =>
    have Va := Lib.hid ha
    clear ha
    go_enter Tryd.func3, Tryd.ntmps3
    go_wp2_with fail
    refine (valid10 a _).mono ?_
    rintro e w1 ⟨rfl, rfl⟩
    rw [Va.out]
    go_wp2_with fail
    refine (awake11 _ HT.out).mono ?_
    rintro e z ⟨rfl, hb⟩
    have BZ := B0.out.trans (hb.mono B0.out.size)
    go_wp2_with fail
    go_ret
    exact ⟨rfl, BZ⟩
  | true =>
  cases hb : vF b with
  | false =>
    have Va := Lib.hid ha
    have Vb := Lib.hid hb
    clear ha hb
    go_enter Tryd.func3, Tryd.ntmps3
    go_wp2_with fail
    refine (valid10 a _).mono ?_
    rintro e w1 ⟨rfl, rfl⟩
    rw [Va.out]
    go_wp2_with fail
    refine (valid10 b _).mono ?_
    rintro e w1 ⟨rfl, rfl⟩
    rw [Vb.out]
    go_wp2_with fail
    refine (awake11 _ HT.out).mono ?_
    rintro e z ⟨rfl, hb⟩
    have BZ := B0.out.trans (hb.mono B0.out.size)
    go_wp2_with fail
    go_ret
    exact ⟨rfl, BZ⟩
  | true =>
  cases hc : vF c with
  | false =>
    have Va := Lib.hid ha
    have Vb := Lib.hid hb
    have Vc := Lib.hid hc
    clear ha hb hc
    go_enter Tryd.func3, Tryd.ntmps3
    go_wp2_with fail
    refine (valid10 a _).mono ?_
    rintro e w1 ⟨rfl, rfl⟩
    rw [Va.out]
    go_wp2_with fail
    refine (valid10 b _).mono ?_
    rintro e w1 ⟨rfl, rfl⟩
    rw [Vb.out]
    go_wp2_with fail
    refine (valid10 c _).mono ?_
    rintro e w1 ⟨rfl, rfl⟩
    rw [Vc.out]
    go_wp2_with fail
    refine (awake11 _ HT.out).mono ?_
    rintro e z ⟨rfl, hb⟩
    have BZ := B0.out.trans (hb.mono B0.out.size)
    go_wp2_with fail
    go_ret
    exact ⟨rfl, BZ⟩
  | true =>
    have HX : Hid (rA [a, c] (mulX a c) = (fitV (mulX a c), fitE (mulX a c))) := Lib.hid (rA_ok (by simp [ha, hc]) _)
    have HY : Hid (rA [b, c] (mulX b c) = (fitV (mulX b c), fitE (mulX b c))) := Lib.hid (rA_ok (by simp [hb, hc]) _)
    have HE : Hid (0 ≤ a → a ≤ b → 0 ≤ c → fitE (mulX b c) = 0 → fitE (mulX a c) = 0 ∧ fitV (mulX a c) ≤ fitV (mulX b c)) := Lib.hid (fun h0 h1 h2 h3 => by
      obtain ⟨m0, m1⟩ := mulX_mono h0 h1 h2
      cases hv : vF (mulX b c) with
      | false => rw [(fit_no hv).2] at h3; omega
      | true =>
        obtain ⟨v0, v1⟩ := vF_iff hv
        have hu : vF (mulX a c) = true := vF_t (by omega) (by omega)
        rw [(fit_ok hu).1, (fit_ok hu).2, (fit_ok hv).1]
        exact ⟨rfl, m1⟩)
    have hall : [a, b].all vF = true := by simp [ha, hb]
    obtain ⟨b0, b1⟩ := vF_iff hb
    have hab := absI_bd b0 b1
    have hN : divR a b = (0, 14) ∨ divR a b = (0, 7) ∨ (b ≠ 0 ∧ vF (divX a b) = true) := by
      unfold divR
      rw [if_pos hall]
      by_cases hz : b = 0
      · rw [if_pos hz]; exact .inl rfl
      · rw [if_neg hz]
        cases hv : vF (divX a b) with
        | false => rw [(fit_no hv).1, (fit_no hv).2]; exact .inr (.inl rfl)
        | true => exact .inr (.inr ⟨hz, rfl⟩)
    cases hm : vF (mulX a b) with
    | true =>
      have HP : Hid (rA [a, b] (mulX a b) = (mulX a b, 0)) := Lib.hid (by rw [rA_ok hall, (fit_ok hm).1, (fit_ok hm).2])
      obtain ⟨e0, e1⟩ := mulX_err a b
      have hd1 := wrD1 (mulX a b) a b (by omega) (by omega)
      rcases hN with hN | hN | ⟨hz, hv⟩
      · exact rounds3YN a b c _ _ _ _ w HT (Lib.hid ha) (Lib.hid hb) (Lib.hid hc) _ _ HP hd1 e0 e1 14 (by decide) (Lib.hid hN) HX HY HE
      · exact rounds3YN a b c _ _ _ _ w HT (Lib.hid ha) (Lib.hid hb) (Lib.hid hc) _ _ HP hd1 e0 e1 7 (by decide) (Lib.hid hN) HX HY HE
      · obtain ⟨f0, f1⟩ := divX_err (a := a) hz
        have hd2 := wrD2 (divX a b) a b (by omega) (by omega)
        have HQ : Hid (divR a b = (divX a b, 0)) := Lib.hid (by unfold divR; rw [if_pos hall, if_neg hz, (fit_ok hv).1, (fit_ok hv).2])
        exact rounds3YY a b c _ _ _ _ w HT (Lib.hid ha) (Lib.hid hb) (Lib.hid hc) _ _ HP hd1 e0 e1 _ _ HQ hd2 (by omega) (by omega) (by rw [wrn b0 b1, ← absI_max]; exact f1) (by rw [wrn b0 b1, ← absI_max]; omega) HX HY HE
    | false =>
      have HP : Hid (rA [a, b] (mulX a b) = (0, 7)) := Lib.hid (by rw [rA_ok hall, (fit_no hm).1, (fit_no hm).2])
      rcases hN with hN | hN | ⟨hz, hv⟩
      · exact rounds3NN a b c _ _ _ _ w HT (Lib.hid ha) (Lib.hid hb) (Lib.hid hc) HP 14 (by decide) (Lib.hid hN) HX HY HE
      · exact rounds3NN a b c _ _ _ _ w HT (Lib.hid ha) (Lib.hid hb) (Lib.hid hc) HP 7 (by decide) (Lib.hid hN) HX HY HE
      · obtain ⟨f0, f1⟩ := divX_err (a := a) hz
        have hd2 := wrD2 (divX a b) a b (by omega) (by omega)
        have HQ : Hid (divR a b = (divX a b, 0)) := Lib.hid (by unfold divR; rw [if_pos hall, if_neg hz, (fit_ok hv).1, (fit_ok hv).2])
        exact rounds3NY a b c _ _ _ _ w HT (Lib.hid ha) (Lib.hid hb) (Lib.hid hc) HP _ _ HQ hd2 (by omega) (by omega) (by rw [wrn b0 b1, ← absI_max]; exact f1) (by rw [wrn b0 b1, ← absI_max]; omega) HX HY HE
end Go.Proofs.YtmalpalepaomdaaDoor
