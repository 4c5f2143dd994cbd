/- The walk of FixedNearest. -/
import Derived.Test.YtmalpalepaomdaaDoorRows
import Derived.WalkKit
import Derived.WalkLawsBesides
import Derived.WalkSpells
import Derived.ProofKit
import Derived.Below
import Derived.Outline
import Derived.Lib.Hide
import Derived.Deep.RegionWith
import Derived.Deep.RegionHeld3
import Derived.Deep.DrawnRows
import Derived.StillTailTactics
import Derived.BigQuiet
import Derived.Deep.QuietTactic
import Derived.Deep.LoopGhost
import Derived.IntWalk
import Derived.Test.YtmalpalepaomdaaDoorFxH
namespace Go.Proofs.YtmalpalepaomdaaDoor
open Go.RowKit
attribute [local go_sem ↓] Go.wp_at_zero Go.wp_at_succ
attribute [local go_sem] wrap_lit
set_option linter.unusedVariables false
theorem rndX_bd (a : Int) : -32768 ≤ a - 65536 * rndX a ∧ a - 65536 * rndX a ≤ 32768 ∧ (a - 65536 * rndX a = 32768 → a < 0) ∧ (a - 65536 * rndX a = -32768 → 0 ≤ a) := by
  unfold rndX rdN
  split
  · split <;> omega
  · split <;> omega
theorem rndX_rg {a : Int} (h0 : -274877906944 ≤ a) (h1 : a ≤ 274877906944) : -4194304 ≤ rndX a ∧ rndX a ≤ 4194304 := by
  unfold rndX rdN
  split
  · split <;> omega
  · split <;> omega
set_option maxRecDepth 100000 in
set_option maxHeartbeats 4000000 in
theorem nearest4A (a b c n m : Int) (w : World) (HT : Hid (Tab w)) (Va : Hid (vF a = true)) (HF : Hid (flrR a = (n, 0))) (HRD : Hid (rndR a = (m, 0))) (a0 : -274877906944 ≤ a) (a1 : a ≤ 274877906944) (n0 : -4194304 ≤ n) (n1 : n ≤ 4194304) (m0 : -4194304 ≤ m) (m1 : m ≤ 4194304)
    (d0 : 0 ≤ a - 65536 * n) (d1 : a - 65536 * n < 65536) (r0 : -32768 ≤ a - 65536 * m) (r1 : a - 65536 * m ≤ 32768) (hr : a - 65536 * m = 32768) (hs : a < 0) : Calls Tryd.prog 4 #[.int .i64 a, .int .i64 b, .int .i64 c] w fun e w' => e = .returned (.bool true) ∧ Below w.heap.size w w' := by
  have B0 := Lib.hid (show Below w.heap.size w w from Below.refl _ _)
  have hr1 : (a - 65536 * m == 32768) = true := by simp [hr]
  have hr2 : (a - 65536 * m == -32768) = false := by simp [hr]
  clear hr
  cases hb : vF b with
  | false =>
    have HC : Hid (clmR a b c = (0, 1)) := Lib.hid (by unfold clmR; rw [if_neg (by simp [hb])])
    have Vb := Lib.hid hb
    clear hb
    go_enter Tryd.func4, Tryd.ntmps4
    go_wp2_with fail
    refine (valid10 a _).mono ?_
    rintro e w1 ⟨rfl, rfl⟩
    rw [Va.out]
    go_wp2_with fail
    refine (awake11 _ HT.out).mono ?_
    rintro e x1 ⟨rfl, hb⟩
    have B1 := Lib.hid (B0.out.trans (hb.mono B0.out.size))
    clear hb B0
    go_wp2_with fail
    refine (at_ HF.out (floor14 a _)).mono ?_
    rintro e x2 ⟨rfl, hb⟩
    have B2 := Lib.hid (B1.out.trans (hb.mono B1.out.size))
    clear hb B1
    go_wp2_with fail
    refine (at_ HRD.out (round15 a _)).mono ?_
    rintro e x3 ⟨rfl, hb⟩
    have B3 := Lib.hid (B2.out.trans (hb.mono B2.out.size))
    clear hb B2
    go_wp2_with fail
    refine (at_ HC.out (clamp16 _ _ _ _)).mono ?_
    rintro e x4 ⟨rfl, hb⟩
    have B4 := Lib.hid (B3.out.trans (hb.mono B3.out.size))
    clear hb B3
    go_wp2_with fail
    refine (valid10 b _).mono ?_
    rintro e w1 ⟨rfl, rfl⟩
    rw [Vb.out]
    go_wp2_with fail
    go_ret
    exact ⟨rfl, B4.out⟩
  | true =>
    have Vb := Lib.hid hb
    cases hc : vF c with
    | false =>
      have HC : Hid (clmR a b c = (0, 1)) := Lib.hid (by unfold clmR; rw [if_neg (by simp [hc])])
      have Vc := Lib.hid hc
      clear hb hc
      go_enter Tryd.func4, Tryd.ntmps4
      go_wp2_with fail
      refine (valid10 a _).mono ?_
      rintro e w1 ⟨rfl, rfl⟩
      rw [Va.out]
      go_wp2_with fail
      refine (awake11 _ HT.out).mono ?_
      rintro e x1 ⟨rfl, hb⟩
      have B1 := Lib.hid (B0.out.trans (hb.mono B0.out.size))
      clear hb B0
      go_wp2_with fail
      refine (at_ HF.out (floor14 a _)).mono ?_
      rintro e x2 ⟨rfl, hb⟩
      have B2 := Lib.hid (B1.out.trans (hb.mono B1.out.size))
      clear hb B1
      go_wp2_with fail
      refine (at_ HRD.out (round15 a _)).mono ?_
      rintro e x3 ⟨rfl, hb⟩
      have B3 := Lib.hid (B2.out.trans (hb.mono B2.out.size))
      clear hb B2
      go_wp2_with fail
      refine (at_ HC.out (clamp16 _ _ _ _)).mono ?_
      rintro e x4 ⟨rfl, hb⟩
      have B4 := Lib.hid (B3.out.trans (hb.mono B3.out.size))
      clear hb B3
      go_wp2_with fail
      refine (valid10 b _).mono ?_
      rintro e w1 ⟨rfl, rfl⟩
      rw [Vb.out]
      go_wp2_with fail
      refine (valid10 c _).mono ?_
      rintro e w1 ⟨rfl, rfl⟩
      rw [Vc.out]
      go_wp2_with fail
      go_ret
      exact ⟨rfl, B4.out⟩
    | true =>
      have Vc := Lib.hid hc
      have hall : [a, b, c].all vF = true := by simp [Va.out, hb, hc]
      have HA := Lib.hid hall
      obtain ⟨b0, b1⟩ := vF_iff hb
      obtain ⟨c0, c1⟩ := vF_iff hc
      clear hall hb hc
      by_cases hbc : b ≤ c
      · by_cases hac : a ≤ c
        · by_cases hba : b ≤ a
          · have HC : Hid (clmR a b c = (a, 0)) := Lib.hid (by unfold clmR clmX; rw [if_pos HA.out, if_pos hbc, if_pos hac, if_pos hba])
            go_enter Tryd.func4, Tryd.ntmps4
            go_wp2_with fail
            refine (valid10 a _).mono ?_
            rintro e w1 ⟨rfl, rfl⟩
            rw [Va.out]
            go_wp2_with fail
            refine (awake11 _ HT.out).mono ?_
            rintro e x1 ⟨rfl, hb⟩
            have B1 := Lib.hid (B0.out.trans (hb.mono B0.out.size))
            clear hb B0
            go_wp2_with fail
            refine (at_ HF.out (floor14 a _)).mono ?_
            rintro e x2 ⟨rfl, hb⟩
            have B2 := Lib.hid (B1.out.trans (hb.mono B1.out.size))
            clear hb B1
            go_wp2_with fail
            refine (at_ HRD.out (round15 a _)).mono ?_
            rintro e x3 ⟨rfl, hb⟩
            have B3 := Lib.hid (B2.out.trans (hb.mono B2.out.size))
            clear hb B2
            go_wp2_with fail
            refine (at_ HC.out (clamp16 _ _ _ _)).mono ?_
            rintro e x4 ⟨rfl, hb⟩
            have B4 := Lib.hid (B3.out.trans (hb.mono B3.out.size))
            clear hb B3
            go_wp2_with fail
            go_ret
            exact ⟨rfl, B4.out⟩
          · have HC : Hid (clmR a b c = (b, 0)) := Lib.hid (by unfold clmR clmX; rw [if_pos HA.out, if_pos hbc, if_pos hac, if_neg hba])
            have hne : (b == a) = false := by simp; omega
            have hba' : decide (a < b) = true := by simp; omega
            clear hba hac
            go_enter Tryd.func4, Tryd.ntmps4
            go_wp2_with fail
            refine (valid10 a _).mono ?_
            rintro e w1 ⟨rfl, rfl⟩
            rw [Va.out]
            go_wp2_with fail
            refine (awake11 _ HT.out).mono ?_
            rintro e x1 ⟨rfl, hb⟩
            have B1 := Lib.hid (B0.out.trans (hb.mono B0.out.size))
            clear hb B0
            go_wp2_with fail
            refine (at_ HF.out (floor14 a _)).mono ?_
            rintro e x2 ⟨rfl, hb⟩
            have B2 := Lib.hid (B1.out.trans (hb.mono B1.out.size))
            clear hb B1
            go_wp2_with fail
            refine (at_ HRD.out (round15 a _)).mono ?_
            rintro e x3 ⟨rfl, hb⟩
            have B3 := Lib.hid (B2.out.trans (hb.mono B2.out.size))
            clear hb B2
            go_wp2_with fail
            refine (at_ HC.out (clamp16 _ _ _ _)).mono ?_
            rintro e x4 ⟨rfl, hb⟩
            have B4 := Lib.hid (B3.out.trans (hb.mono B3.out.size))
            clear hb B3
            go_wp2_with fail
            go_ret
            exact ⟨rfl, B4.out⟩
        · have HC : Hid (clmR a b c = (c, 0)) := Lib.hid (by unfold clmR clmX; rw [if_pos HA.out, if_pos hbc, if_neg hac, if_pos hbc])
          have hne : (c == a) = false := by simp; omega
          by_cases hcb : c = b
          · subst hcb
            go_enter Tryd.func4, Tryd.ntmps4
            go_wp2_with fail
            refine (valid10 a _).mono ?_
            rintro e w1 ⟨rfl, rfl⟩
            rw [Va.out]
            go_wp2_with fail
            refine (awake11 _ HT.out).mono ?_
            rintro e x1 ⟨rfl, hb⟩
            have B1 := Lib.hid (B0.out.trans (hb.mono B0.out.size))
            clear hb B0
            go_wp2_with fail
            refine (at_ HF.out (floor14 a _)).mono ?_
            rintro e x2 ⟨rfl, hb⟩
            have B2 := Lib.hid (B1.out.trans (hb.mono B1.out.size))
            clear hb B1
            go_wp2_with fail
            refine (at_ HRD.out (round15 a _)).mono ?_
            rintro e x3 ⟨rfl, hb⟩
            have B3 := Lib.hid (B2.out.trans (hb.mono B2.out.size))
            clear hb B2
            go_wp2_with fail
            refine (at_ HC.out (clamp16 _ _ _ _)).mono ?_
            rintro e x4 ⟨rfl, hb⟩
            have B4 := Lib.hid (B3.out.trans (hb.mono B3.out.size))
            clear hb B3
            go_wp2_with fail
            go_ret
            exact ⟨rfl, B4.out⟩
          · have hne2 : (c == b) = false := by simp [hcb]
            clear hcb
            go_enter Tryd.func4, Tryd.ntmps4
            go_wp2_with fail
            refine (valid10 a _).mono ?_
            rintro e w1 ⟨rfl, rfl⟩
            rw [Va.out]
            go_wp2_with fail
            refine (awake11 _ HT.out).mono ?_
            rintro e x1 ⟨rfl, hb⟩
            have B1 := Lib.hid (B0.out.trans (hb.mono B0.out.size))
            clear hb B0
            go_wp2_with fail
            refine (at_ HF.out (floor14 a _)).mono ?_
            rintro e x2 ⟨rfl, hb⟩
            have B2 := Lib.hid (B1.out.trans (hb.mono B1.out.size))
            clear hb B1
            go_wp2_with fail
            refine (at_ HRD.out (round15 a _)).mono ?_
            rintro e x3 ⟨rfl, hb⟩
            have B3 := Lib.hid (B2.out.trans (hb.mono B2.out.size))
            clear hb B2
            go_wp2_with fail
            refine (at_ HC.out (clamp16 _ _ _ _)).mono ?_
            rintro e x4 ⟨rfl, hb⟩
            have B4 := Lib.hid (B3.out.trans (hb.mono B3.out.size))
            clear hb B3
            go_wp2_with fail
            go_ret
            exact ⟨rfl, B4.out⟩
      · have HC : Hid (clmR a b c = (0, 1)) := Lib.hid (by unfold clmR; rw [if_pos HA.out, if_neg hbc])
        go_enter Tryd.func4, Tryd.ntmps4
        go_wp2_with fail
        refine (valid10 a _).mono ?_
        rintro e w1 ⟨rfl, rfl⟩
        rw [Va.out]
        go_wp2_with fail
        refine (awake11 _ HT.out).mono ?_
        rintro e x1 ⟨rfl, hb⟩
        have B1 := Lib.hid (B0.out.trans (hb.mono B0.out.size))
        clear hb B0
        go_wp2_with fail
        refine (at_ HF.out (floor14 a _)).mono ?_
        rintro e x2 ⟨rfl, hb⟩
        have B2 := Lib.hid (B1.out.trans (hb.mono B1.out.size))
        clear hb B1
        go_wp2_with fail
        refine (at_ HRD.out (round15 a _)).mono ?_
        rintro e x3 ⟨rfl, hb⟩
        have B3 := Lib.hid (B2.out.trans (hb.mono B2.out.size))
        clear hb B2
        go_wp2_with fail
        refine (at_ HC.out (clamp16 _ _ _ _)).mono ?_
        rintro e x4 ⟨rfl, hb⟩
        have B4 := Lib.hid (B3.out.trans (hb.mono B3.out.size))
        clear hb B3
        go_wp2_with fail
        refine (valid10 b _).mono ?_
        rintro e w1 ⟨rfl, rfl⟩
        rw [Vb.out]
        go_wp2_with fail
        refine (valid10 c _).mono ?_
        rintro e w1 ⟨rfl, rfl⟩
        rw [Vc.out]
        go_wp2_with fail
        go_ret
        exact ⟨rfl, B4.out⟩
set_option maxRecDepth 100000 in
set_option maxHeartbeats 4000000 in
theorem nearest4B (a b c n m : Int) (w : World) (HT : Hid (Tab w)) (Va : Hid (vF a = true)) (HF : Hid (flrR a = (n, 0))) (HRD : Hid (rndR a = (m, 0))) (a0 : -274877906944 ≤ a) (a1 : a ≤ 274877906944) (n0 : -4194304 ≤ n) (n1 : n ≤ 4194304) (m0 : -4194304 ≤ m) (m1 : m ≤ 4194304)
    (d0 : 0 ≤ a - 65536 * n) (d1 : a - 65536 * n < 65536) (r0 : -32768 ≤ a - 65536 * m) (r1 : a - 65536 * m ≤ 32768) (hr : a - 65536 * m = -32768) (hs : 0 ≤ a) : Calls Tryd.prog 4 #[.int .i64 a, .int .i64 b, .int .i64 c] w fun e w' => e = .returned (.bool true) ∧ Below w.heap.size w w' := by
  have B0 := Lib.hid (show Below w.heap.size w w from Below.refl _ _)
  have hr1 : (a - 65536 * m == 32768) = false := by simp [hr]
  have hr2 : (a - 65536 * m == -32768) = true := by simp [hr]
  clear hr
  cases hb : vF b with
  | false =>
    have HC : Hid (clmR a b c = (0, 1)) := Lib.hid (by unfold clmR; rw [if_neg (by simp [hb])])
    have Vb := Lib.hid hb
    clear hb
    go_enter Tryd.func4, Tryd.ntmps4
    go_wp2_with fail
    refine (valid10 a _).mono ?_
    rintro e w1 ⟨rfl, rfl⟩
    rw [Va.out]
    go_wp2_with fail
    refine (awake11 _ HT.out).mono ?_
    rintro e x1 ⟨rfl, hb⟩
    have B1 := Lib.hid (B0.out.trans (hb.mono B0.out.size))
    clear hb B0
    go_wp2_with fail
    refine (at_ HF.out (floor14 a _)).mono ?_
    rintro e x2 ⟨rfl, hb⟩
    have B2 := Lib.hid (B1.out.trans (hb.mono B1.out.size))
    clear hb B1
    go_wp2_with fail
    refine (at_ HRD.out (round15 a _)).mono ?_
    rintro e x3 ⟨rfl, hb⟩
    have B3 := Lib.hid (B2.out.trans (hb.mono B2.out.size))
    clear hb B2
    go_wp2_with fail
    refine (at_ HC.out (clamp16 _ _ _ _)).mono ?_
    rintro e x4 ⟨rfl, hb⟩
    have B4 := Lib.hid (B3.out.trans (hb.mono B3.out.size))
    clear hb B3
    go_wp2_with fail
    refine (valid10 b _).mono ?_
    rintro e w1 ⟨rfl, rfl⟩
    rw [Vb.out]
    go_wp2_with fail
    go_ret
    exact ⟨rfl, B4.out⟩
  | true =>
    have Vb := Lib.hid hb
    cases hc : vF c with
    | false =>
      have HC : Hid (clmR a b c = (0, 1)) := Lib.hid (by unfold clmR; rw [if_neg (by simp [hc])])
      have Vc := Lib.hid hc
      clear hb hc
      go_enter Tryd.func4, Tryd.ntmps4
      go_wp2_with fail
      refine (valid10 a _).mono ?_
      rintro e w1 ⟨rfl, rfl⟩
      rw [Va.out]
      go_wp2_with fail
      refine (awake11 _ HT.out).mono ?_
      rintro e x1 ⟨rfl, hb⟩
      have B1 := Lib.hid (B0.out.trans (hb.mono B0.out.size))
      clear hb B0
      go_wp2_with fail
      refine (at_ HF.out (floor14 a _)).mono ?_
      rintro e x2 ⟨rfl, hb⟩
      have B2 := Lib.hid (B1.out.trans (hb.mono B1.out.size))
      clear hb B1
      go_wp2_with fail
      refine (at_ HRD.out (round15 a _)).mono ?_
      rintro e x3 ⟨rfl, hb⟩
      have B3 := Lib.hid (B2.out.trans (hb.mono B2.out.size))
      clear hb B2
      go_wp2_with fail
      refine (at_ HC.out (clamp16 _ _ _ _)).mono ?_
      rintro e x4 ⟨rfl, hb⟩
      have B4 := Lib.hid (B3.out.trans (hb.mono B3.out.size))
      clear hb B3
      go_wp2_with fail
      refine (valid10 b _).mono ?_
      rintro e w1 ⟨rfl, rfl⟩
      rw [Vb.out]
      go_wp2_with fail
      refine (valid10 c _).mono ?_
      rintro e w1 ⟨rfl, rfl⟩
      rw [Vc.out]
      go_wp2_with fail
      go_ret
      exact ⟨rfl, B4.out⟩
    | true =>
      have Vc := Lib.hid hc
      have hall : [a, b, c].all vF = true := by simp [Va.out, hb, hc]
      have HA := Lib.hid hall
      obtain ⟨b0, b1⟩ := vF_iff hb
      obtain ⟨c0, c1⟩ := vF_iff hc
      clear hall hb hc
      by_cases hbc : b ≤ c
      · by_cases hac : a ≤ c
        · by_cases hba : b ≤ a
          · have HC : Hid (clmR a b c = (a, 0)) := Lib.hid (by unfold clmR clmX; rw [if_pos HA.out, if_pos hbc, if_pos hac, if_pos hba])
            go_enter Tryd.func4, Tryd.ntmps4
            go_wp2_with fail
            refine (valid10 a _).mono ?_
            rintro e w1 ⟨rfl, rfl⟩
            rw [Va.out]
            go_wp2_with fail
            refine (awake11 _ HT.out).mono ?_
            rintro e x1 ⟨rfl, hb⟩
            have B1 := Lib.hid (B0.out.trans (hb.mono B0.out.size))
            clear hb B0
            go_wp2_with fail
            refine (at_ HF.out (floor14 a _)).mono ?_
            rintro e x2 ⟨rfl, hb⟩
            have B2 := Lib.hid (B1.out.trans (hb.mono B1.out.size))
            clear hb B1
            go_wp2_with fail
            refine (at_ HRD.out (round15 a _)).mono ?_
            rintro e x3 ⟨rfl, hb⟩
            have B3 := Lib.hid (B2.out.trans (hb.mono B2.out.size))
            clear hb B2
            go_wp2_with fail
            refine (at_ HC.out (clamp16 _ _ _ _)).mono ?_
            rintro e x4 ⟨rfl, hb⟩
            have B4 := Lib.hid (B3.out.trans (hb.mono B3.out.size))
            clear hb B3
            go_wp2_with fail
            go_ret
            exact ⟨rfl, B4.out⟩
          · have HC : Hid (clmR a b c = (b, 0)) := Lib.hid (by unfold clmR clmX; rw [if_pos HA.out, if_pos hbc, if_pos hac, if_neg hba])
            have hne : (b == a) = false := by simp; omega
            have hba' : decide (a < b) = true := by simp; omega
            clear hba hac
            go_enter Tryd.func4, Tryd.ntmps4
            go_wp2_with fail
            refine (valid10 a _).mono ?_
            rintro e w1 ⟨rfl, rfl⟩
            rw [Va.out]
            go_wp2_with fail
            refine (awake11 _ HT.out).mono ?_
            rintro e x1 ⟨rfl, hb⟩
            have B1 := Lib.hid (B0.out.trans (hb.mono B0.out.size))
            clear hb B0
            go_wp2_with fail
            refine (at_ HF.out (floor14 a _)).mono ?_
            rintro e x2 ⟨rfl, hb⟩
            have B2 := Lib.hid (B1.out.trans (hb.mono B1.out.size))
            clear hb B1
            go_wp2_with fail
            refine (at_ HRD.out (round15 a _)).mono ?_
            rintro e x3 ⟨rfl, hb⟩
            have B3 := Lib.hid (B2.out.trans (hb.mono B2.out.size))
            clear hb B2
            go_wp2_with fail
            refine (at_ HC.out (clamp16 _ _ _ _)).mono ?_
            rintro e x4 ⟨rfl, hb⟩
            have B4 := Lib.hid (B3.out.trans (hb.mono B3.out.size))
            clear hb B3
            go_wp2_with fail
            go_ret
            exact ⟨rfl, B4.out⟩
        · have HC : Hid (clmR a b c = (c, 0)) := Lib.hid (by unfold clmR clmX; rw [if_pos HA.out, if_pos hbc, if_neg hac, if_pos hbc])
          have hne : (c == a) = false := by simp; omega
          by_cases hcb : c = b
          · subst hcb
            go_enter Tryd.func4, Tryd.ntmps4
            go_wp2_with fail
            refine (valid10 a _).mono ?_
            rintro e w1 ⟨rfl, rfl⟩
            rw [Va.out]
            go_wp2_with fail
            refine (awake11 _ HT.out).mono ?_
            rintro e x1 ⟨rfl, hb⟩
            have B1 := Lib.hid (B0.out.trans (hb.mono B0.out.size))
            clear hb B0
            go_wp2_with fail
            refine (at_ HF.out (floor14 a _)).mono ?_
            rintro e x2 ⟨rfl, hb⟩
            have B2 := Lib.hid (B1.out.trans (hb.mono B1.out.size))
            clear hb B1
            go_wp2_with fail
            refine (at_ HRD.out (round15 a _)).mono ?_
            rintro e x3 ⟨rfl, hb⟩
            have B3 := Lib.hid (B2.out.trans (hb.mono B2.out.size))
            clear hb B2
            go_wp2_with fail
            refine (at_ HC.out (clamp16 _ _ _ _)).mono ?_
            rintro e x4 ⟨rfl, hb⟩
            have B4 := Lib.hid (B3.out.trans (hb.mono B3.out.size))
            clear hb B3
            go_wp2_with fail
            go_ret
            exact ⟨rfl, B4.out⟩
          · have hne2 : (c == b) = false := by simp [hcb]
            clear hcb
            go_enter Tryd.func4, Tryd.ntmps4
            go_wp2_with fail
            refine (valid10 a _).mono ?_
            rintro e w1 ⟨rfl, rfl⟩
            rw [Va.out]
            go_wp2_with fail
            refine (awake11 _ HT.out).mono ?_
            rintro e x1 ⟨rfl, hb⟩
            have B1 := Lib.hid (B0.out.trans (hb.mono B0.out.size))
            clear hb B0
            go_wp2_with fail
            refine (at_ HF.out (floor14 a _)).mono ?_
            rintro e x2 ⟨rfl, hb⟩
            have B2 := Lib.hid (B1.out.trans (hb.mono B1.out.size))
            clear hb B1
            go_wp2_with fail
            refine (at_ HRD.out (round15 a _)).mono ?_
            rintro e x3 ⟨rfl, hb⟩
            have B3 := Lib.hid (B2.out.trans (hb.mono B2.out.size))
            clear hb B2
            go_wp2_with fail
            refine (at_ HC.out (clamp16 _ _ _ _)).mono ?_
            rintro e x4 ⟨rfl, hb⟩
            have B4 := Lib.hid (B3.out.trans (hb.mono B3.out.size))
            clear hb B3
            go_wp2_with fail
            go_ret
            exact ⟨rfl, B4.out⟩
      · have HC : Hid (clmR a b c = (0, 1)) := Lib.hid (by unfold clmR; rw [if_pos HA.out, if_neg hbc])
        go_enter Tryd.func4, Tryd.ntmps4
        go_wp2_with fail
        refine (valid10 a _).mono ?_
        rintro e w1 ⟨rfl, rfl⟩
        rw [Va.out]
        go_wp2_with fail
        refine (awake11 _ HT.out).mono ?_
        rintro e x1 ⟨rfl, hb⟩
        have B1 := Lib.hid (B0.out.trans (hb.mono B0.out.size))
        clear hb B0
        go_wp2_with fail
        refine (at_ HF.out (floor14 a _)).mono ?_
        rintro e x2 ⟨rfl, hb⟩
        have B2 := Lib.hid (B1.out.trans (hb.mono B1.out.size))
        clear hb B1
        go_wp2_with fail
        refine (at_ HRD.out (round15 a _)).mono ?_
        rintro e x3 ⟨rfl, hb⟩
        have B3 := Lib.hid (B2.out.trans (hb.mono B2.out.size))
        clear hb B2
        go_wp2_with fail
        refine (at_ HC.out (clamp16 _ _ _ _)).mono ?_
        rintro e x4 ⟨rfl, hb⟩
        have B4 := Lib.hid (B3.out.trans (hb.mono B3.out.size))
        clear hb B3
        go_wp2_with fail
        refine (valid10 b _).mono ?_
        rintro e w1 ⟨rfl, rfl⟩
        rw [Vb.out]
        go_wp2_with fail
        refine (valid10 c _).mono ?_
        rintro e w1 ⟨rfl, rfl⟩
        rw [Vc.out]
        go_wp2_with fail
        go_ret
        exact ⟨rfl, B4.out⟩
set_option maxRecDepth 100000 in
set_option maxHeartbeats 4000000 in
theorem nearest4C (a b c n m : Int) (w : World) (HT : Hid (Tab w)) (Va : Hid (vF a = true)) (HF : Hid (flrR a = (n, 0))) (HRD : Hid (rndR a = (m, 0))) (a0 : -274877906944 ≤ a) (a1 : a ≤ 274877906944) (n0 : -4194304 ≤ n) (n1 : n ≤ 4194304) (m0 : -4194304 ≤ m) (m1 : m ≤ 4194304)
    (d0 : 0 ≤ a - 65536 * n) (d1 : a - 65536 * n < 65536) (r0 : -32768 ≤ a - 65536 * m) (r1 : a - 65536 * m ≤ 32768) (hr : (a - 65536 * m == 32768) = false) (hs : (a - 65536 * m == -32768) = false) : Calls Tryd.prog 4 #[.int .i64 a, .int .i64 b, .int .i64 c] w fun e w' => e = .returned (.bool true) ∧ Below w.heap.size w w' := by
  have B0 := Lib.hid (show Below w.heap.size w w from Below.refl _ _)
  cases hb : vF b with
  | false =>
    have HC : Hid (clmR a b c = (0, 1)) := Lib.hid (by unfold clmR; rw [if_neg (by simp [hb])])
    have Vb := Lib.hid hb
    clear hb
    go_enter Tryd.func4, Tryd.ntmps4
    go_wp2_with fail
    refine (valid10 a _).mono ?_
    rintro e w1 ⟨rfl, rfl⟩
    rw [Va.out]
    go_wp2_with fail
    refine (awake11 _ HT.out).mono ?_
    rintro e x1 ⟨rfl, hb⟩
    have B1 := Lib.hid (B0.out.trans (hb.mono B0.out.size))
    clear hb B0
    go_wp2_with fail
    refine (at_ HF.out (floor14 a _)).mono ?_
    rintro e x2 ⟨rfl, hb⟩
    have B2 := Lib.hid (B1.out.trans (hb.mono B1.out.size))
    clear hb B1
    go_wp2_with fail
    refine (at_ HRD.out (round15 a _)).mono ?_
    rintro e x3 ⟨rfl, hb⟩
    have B3 := Lib.hid (B2.out.trans (hb.mono B2.out.size))
    clear hb B2
    go_wp2_with fail
    refine (at_ HC.out (clamp16 _ _ _ _)).mono ?_
    rintro e x4 ⟨rfl, hb⟩
    have B4 := Lib.hid (B3.out.trans (hb.mono B3.out.size))
    clear hb B3
    go_wp2_with fail
    refine (valid10 b _).mono ?_
    rintro e w1 ⟨rfl, rfl⟩
    rw [Vb.out]
    go_wp2_with fail
    go_ret
    exact ⟨rfl, B4.out⟩
  | true =>
    have Vb := Lib.hid hb
    cases hc : vF c with
    | false =>
      have HC : Hid (clmR a b c = (0, 1)) := Lib.hid (by unfold clmR; rw [if_neg (by simp [hc])])
      have Vc := Lib.hid hc
      clear hb hc
      go_enter Tryd.func4, Tryd.ntmps4
      go_wp2_with fail
      refine (valid10 a _).mono ?_
      rintro e w1 ⟨rfl, rfl⟩
      rw [Va.out]
      go_wp2_with fail
      refine (awake11 _ HT.out).mono ?_
      rintro e x1 ⟨rfl, hb⟩
      have B1 := Lib.hid (B0.out.trans (hb.mono B0.out.size))
      clear hb B0
      go_wp2_with fail
      refine (at_ HF.out (floor14 a _)).mono ?_
      rintro e x2 ⟨rfl, hb⟩
      have B2 := Lib.hid (B1.out.trans (hb.mono B1.out.size))
      clear hb B1
      go_wp2_with fail
      refine (at_ HRD.out (round15 a _)).mono ?_
      rintro e x3 ⟨rfl, hb⟩
      have B3 := Lib.hid (B2.out.trans (hb.mono B2.out.size))
      clear hb B2
      go_wp2_with fail
      refine (at_ HC.out (clamp16 _ _ _ _)).mono ?_
      rintro e x4 ⟨rfl, hb⟩
      have B4 := Lib.hid (B3.out.trans (hb.mono B3.out.size))
      clear hb B3
      go_wp2_with fail
      refine (valid10 b _).mono ?_
      rintro e w1 ⟨rfl, rfl⟩
      rw [Vb.out]
      go_wp2_with fail
      refine (valid10 c _).mono ?_
      rintro e w1 ⟨rfl, rfl⟩
      rw [Vc.out]
      go_wp2_with fail
      go_ret
      exact ⟨rfl, B4.out⟩
    | true =>
      have Vc := Lib.hid hc
      have hall : [a, b, c].all vF = true := by simp [Va.out, hb, hc]
      have HA := Lib.hid hall
      obtain ⟨b0, b1⟩ := vF_iff hb
      obtain ⟨c0, c1⟩ := vF_iff hc
      clear hall hb hc
      by_cases hbc : b ≤ c
      · by_cases hac : a ≤ c
        · by_cases hba : b ≤ a
          · have HC : Hid (clmR a b c = (a, 0)) := Lib.hid (by unfold clmR clmX; rw [if_pos HA.out, if_pos hbc, if_pos hac, if_pos hba])
            go_enter Tryd.func4, Tryd.ntmps4
            go_wp2_with fail
            refine (valid10 a _).mono ?_
            rintro e w1 ⟨rfl, rfl⟩
            rw [Va.out]
            go_wp2_with fail
            refine (awake11 _ HT.out).mono ?_
            rintro e x1 ⟨rfl, hb⟩
            have B1 := Lib.hid (B0.out.trans (hb.mono B0.out.size))
            clear hb B0
            go_wp2_with fail
            refine (at_ HF.out (floor14 a _)).mono ?_
            rintro e x2 ⟨rfl, hb⟩
            have B2 := Lib.hid (B1.out.trans (hb.mono B1.out.size))
            clear hb B1
            go_wp2_with fail
            refine (at_ HRD.out (round15 a _)).mono ?_
            rintro e x3 ⟨rfl, hb⟩
            have B3 := Lib.hid (B2.out.trans (hb.mono B2.out.size))
            clear hb B2
            go_wp2_with fail
            refine (at_ HC.out (clamp16 _ _ _ _)).mono ?_
            rintro e x4 ⟨rfl, hb⟩
            have B4 := Lib.hid (B3.out.trans (hb.mono B3.out.size))
            clear hb B3
            go_wp2_with fail
            go_ret
            exact ⟨rfl, B4.out⟩
          · have HC : Hid (clmR a b c = (b, 0)) := Lib.hid (by unfold clmR clmX; rw [if_pos HA.out, if_pos hbc, if_pos hac, if_neg hba])
            have hne : (b == a) = false := by simp; omega
            have hba' : decide (a < b) = true := by simp; omega
            clear hba hac
            go_enter Tryd.func4, Tryd.ntmps4
            go_wp2_with fail
            refine (valid10 a _).mono ?_
            rintro e w1 ⟨rfl, rfl⟩
            rw [Va.out]
            go_wp2_with fail
            refine (awake11 _ HT.out).mono ?_
            rintro e x1 ⟨rfl, hb⟩
            have B1 := Lib.hid (B0.out.trans (hb.mono B0.out.size))
            clear hb B0
            go_wp2_with fail
            refine (at_ HF.out (floor14 a _)).mono ?_
            rintro e x2 ⟨rfl, hb⟩
            have B2 := Lib.hid (B1.out.trans (hb.mono B1.out.size))
            clear hb B1
            go_wp2_with fail
            refine (at_ HRD.out (round15 a _)).mono ?_
            rintro e x3 ⟨rfl, hb⟩
            have B3 := Lib.hid (B2.out.trans (hb.mono B2.out.size))
            clear hb B2
            go_wp2_with fail
            refine (at_ HC.out (clamp16 _ _ _ _)).mono ?_
            rintro e x4 ⟨rfl, hb⟩
            have B4 := Lib.hid (B3.out.trans (hb.mono B3.out.size))
            clear hb B3
            go_wp2_with fail
            go_ret
            exact ⟨rfl, B4.out⟩
        · have HC : Hid (clmR a b c = (c, 0)) := Lib.hid (by unfold clmR clmX; rw [if_pos HA.out, if_pos hbc, if_neg hac, if_pos hbc])
          have hne : (c == a) = false := by simp; omega
          by_cases hcb : c = b
          · subst hcb
            go_enter Tryd.func4, Tryd.ntmps4
            go_wp2_with fail
            refine (valid10 a _).mono ?_
            rintro e w1 ⟨rfl, rfl⟩
            rw [Va.out]
            go_wp2_with fail
            refine (awake11 _ HT.out).mono ?_
            rintro e x1 ⟨rfl, hb⟩
            have B1 := Lib.hid (B0.out.trans (hb.mono B0.out.size))
            clear hb B0
            go_wp2_with fail
            refine (at_ HF.out (floor14 a _)).mono ?_
            rintro e x2 ⟨rfl, hb⟩
            have B2 := Lib.hid (B1.out.trans (hb.mono B1.out.size))
            clear hb B1
            go_wp2_with fail
            refine (at_ HRD.out (round15 a _)).mono ?_
            rintro e x3 ⟨rfl, hb⟩
            have B3 := Lib.hid (B2.out.trans (hb.mono B2.out.size))
            clear hb B2
            go_wp2_with fail
            refine (at_ HC.out (clamp16 _ _ _ _)).mono ?_
            rintro e x4 ⟨rfl, hb⟩
            have B4 := Lib.hid (B3.out.trans (hb.mono B3.out.size))
            clear hb B3
            go_wp2_with fail
            go_ret
            exact ⟨rfl, B4.out⟩
          · have hne2 : (c == b) = false := by simp [hcb]
            clear hcb
            go_enter Tryd.func4, Tryd.ntmps4
            go_wp2_with fail
            refine (valid10 a _).mono ?_
            rintro e w1 ⟨rfl, rfl⟩
            rw [Va.out]
            go_wp2_with fail
            refine (awake11 _ HT.out).mono ?_
            rintro e x1 ⟨rfl, hb⟩
            have B1 := Lib.hid (B0.out.trans (hb.mono B0.out.size))
            clear hb B0
            go_wp2_with fail
            refine (at_ HF.out (floor14 a _)).mono ?_
            rintro e x2 ⟨rfl, hb⟩
            have B2 := Lib.hid (B1.out.trans (hb.mono B1.out.size))
            clear hb B1
            go_wp2_with fail
            refine (at_ HRD.out (round15 a _)).mono ?_
            rintro e x3 ⟨rfl, hb⟩
            have B3 := Lib.hid (B2.out.trans (hb.mono B2.out.size))
            clear hb B2
            go_wp2_with fail
            refine (at_ HC.out (clamp16 _ _ _ _)).mono ?_
            rintro e x4 ⟨rfl, hb⟩
            have B4 := Lib.hid (B3.out.trans (hb.mono B3.out.size))
            clear hb B3
            go_wp2_with fail
            go_ret
            exact ⟨rfl, B4.out⟩
      · have HC : Hid (clmR a b c = (0, 1)) := Lib.hid (by unfold clmR; rw [if_pos HA.out, if_neg hbc])
        go_enter Tryd.func4, Tryd.ntmps4
        go_wp2_with fail
        refine (valid10 a _).mono ?_
        rintro e w1 ⟨rfl, rfl⟩
        rw [Va.out]
        go_wp2_with fail
        refine (awake11 _ HT.out).mono ?_
        rintro e x1 ⟨rfl, hb⟩
        have B1 := Lib.hid (B0.out.trans (hb.mono B0.out.size))
        clear hb B0
        go_wp2_with fail
        refine (at_ HF.out (floor14 a _)).mono ?_
        rintro e x2 ⟨rfl, hb⟩
        have B2 := Lib.hid (B1.out.trans (hb.mono B1.out.size))
        clear hb B1
        go_wp2_with fail
        refine (at_ HRD.out (round15 a _)).mono ?_
        rintro e x3 ⟨rfl, hb⟩
        have B3 := Lib.hid (B2.out.trans (hb.mono B2.out.size))
        clear hb B2
        go_wp2_with fail
        refine (at_ HC.out (clamp16 _ _ _ _)).mono ?_
        rintro e x4 ⟨rfl, hb⟩
        have B4 := Lib.hid (B3.out.trans (hb.mono B3.out.size))
        clear hb B3
        go_wp2_with fail
        refine (valid10 b _).mono ?_
        rintro e w1 ⟨rfl, rfl⟩
        rw [Vb.out]
        go_wp2_with fail
        refine (valid10 c _).mono ?_
        rintro e w1 ⟨rfl, rfl⟩
        rw [Vc.out]
        go_wp2_with fail
        go_ret
        exact ⟨rfl, B4.out⟩
set_option maxRecDepth 100000 in
theorem nearest4 (a b c : Int) (w : World) (ht : Tab w) : Calls Tryd.prog 4 #[.int .i64 a, .int .i64 b, .int .i64 c] w fun e w' => e = .returned (.bool true) ∧ Below w.heap.size w w' := by
  have HT := Lib.hid ht
  have B0 := Lib.hid (show Below w.heap.size w w from Below.refl _ _)
  clear ht
  cases ha : vF a with
  | false =>
    have Va := Lib.hid ha
    clear ha
    go_enter Tryd.func4, Tryd.ntmps4
    go_wp2_with fail
    refine (valid10 a _).mono ?_
    rintro e w1 ⟨rfl, rfl⟩
    rw [Va.out]
    go_wp2_with fail
    refine (awake11 _ HT.out).mono ?_
    rintro e z ⟨rfl, hb⟩
    have BZ := B0.out.trans (hb.mono B0.out.size)
    go_wp2_with fail
    go_ret
    exact ⟨rfl, BZ⟩
  | true =>
    obtain ⟨a0, a1⟩ := vF_iff ha
    have HF : Hid (flrR a = (a / 65536, 0)) := Lib.hid (by unfold flrR; rw [if_pos ha])
    have HRD : Hid (rndR a = (rndX a, 0)) := Lib.hid (by unfold rndR; rw [if_pos ha])
    obtain ⟨r0, r1, r2, r3⟩ := rndX_bd a
    obtain ⟨m0, m1⟩ := rndX_rg a0 a1
    by_cases h1 : a - 65536 * rndX a = 32768
    · exact nearest4A a b c _ _ w HT (Lib.hid ha) HF HRD a0 a1 (by omega) (by omega) m0 m1 (by omega) (by omega) r0 r1 h1 (r2 h1)
    · by_cases h2 : a - 65536 * rndX a = -32768
      · exact nearest4B a b c _ _ w HT (Lib.hid ha) HF HRD a0 a1 (by omega) (by omega) m0 m1 (by omega) (by omega) r0 r1 h2 (r3 h2)
      · exact nearest4C a b c _ _ w HT (Lib.hid ha) HF HRD a0 a1 (by omega) (by omega) m0 m1 (by omega) (by omega) r0 r1 (by simp [h1]) (by simp [h2])
end Go.Proofs.YtmalpalepaomdaaDoor
