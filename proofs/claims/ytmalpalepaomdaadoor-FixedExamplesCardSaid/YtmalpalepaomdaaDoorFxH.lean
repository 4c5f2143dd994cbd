/- The walk of FixedAlgebra. -/
import Derived.Test.YtmalpalepaomdaaDoorRows
import Derived.WalkKit
import Derived.WalkLawsBesides
import Derived.WalkSpells
import Derived.ProofKit
import Derived.Below
import Derived.Outline
import Derived.Lib.Hide
import Derived.Deep.RegionWith
import Derived.Deep.RegionHeld3
import Derived.Deep.DrawnRows
import Derived.StillTailTactics
import Derived.BigQuiet
import Derived.Deep.QuietTactic
import Derived.Deep.LoopGhost
import Derived.IntWalk
import Derived.Test.YtmalpalepaomdaaDoorFxG
namespace Go.Proofs.YtmalpalepaomdaaDoor
open Go.RowKit
attribute [local go_sem ↓] Go.wp_at_zero Go.wp_at_succ
attribute [local go_sem] wrap_lit
theorem valid10 (x : Int) (w : World) : Calls Tryd.prog 10 #[.int .i64 x] w fun e w' => e = .returned (.bool (vF x)) ∧ w = w' := by
  by_cases h1 : -274877906944 ≤ x <;> by_cases h2 : x ≤ 274877906944
  · have HV := Lib.hid (vF_t h1 h2)
    go_enter Tryd.func10, Tryd.ntmps10
    go_wp2_with fail
    go_ret
    exact ⟨ret_bool HV.out.symm, rfl⟩
  all_goals
    have HV := Lib.hid (vF_f (x := x) (by omega))
    go_enter Tryd.func10, Tryd.ntmps10
    go_wp2_with fail
    go_ret
    exact ⟨ret_bool HV.out.symm, rfl⟩
theorem vF_neg (x : Int) : vF (-x) = vF x := by
  cases h : vF x with
  | true => obtain ⟨a, b⟩ := vF_iff h; exact vF_t (by omega) (by omega)
  | false => rcases vF_not h with g | g <;> exact vF_f (by omega)
theorem fitV_neg (x : Int) : fitV (-x) = -fitV x := by unfold fitV; rw [vF_neg]; split <;> simp
theorem fitE_neg (x : Int) : fitE (-x) = fitE x := by unfold fitE; rw [vF_neg]
theorem fitV_bd (x : Int) : -274877906944 ≤ fitV x ∧ fitV x ≤ 274877906944 := by
  unfold fitV
  split
  · exact vF_iff ‹_›
  · omega
theorem absI_neg (x : Int) : absI (-x) = absI x := by unfold absI; split <;> split <;> omega
theorem sg_comm (a b n : Int) : sg a b n = sg b a n := by unfold sg; simp only [eq_comm]
theorem sg_negl {a b n : Int} (h : a = 0 → n = 0) : sg (-a) b n = -sg a b n := by
  unfold sg
  rcases Int.lt_trichotomy a 0 with g | g | g
  · have e1 : decide (-a < 0) = false := by simp; omega
    have e2 : decide (a < 0) = true := by simp [g]
    rw [e1, e2]; cases decide (b < 0) <;> simp
  · rw [h g]; simp
  · have e1 : decide (-a < 0) = true := by simp; omega
    have e2 : decide (a < 0) = false := by simp; omega
    rw [e1, e2]; cases decide (b < 0) <;> simp
theorem mulX_comm (a b : Int) : mulX b a = mulX a b := by unfold mulX; rw [sg_comm, Int.mul_comm]
theorem mulX_neg (a b : Int) : mulX (-a) b = -mulX a b := by
  unfold mulX
  rw [absI_neg, sg_negl]
  intro h; subst h
  have : absI 0 = 0 := by decide
  rw [this, Int.zero_mul]; decide
theorem divX_neg {a b : Int} (hb : b ≠ 0) : divX a (-b) = -divX a b := by
  unfold divX
  rw [absI_neg, sg_comm, sg_negl (fun h => absurd h hb), sg_comm]
theorem rd_one (n : Int) : rdN (n * 65536) 65536 = n := by unfold rdN; rw [if_neg (by omega)]; omega
theorem sg_abs (a : Int) : sg a 65536 (absI a) = a := by
  unfold sg absI
  by_cases h : a < 0
  · have e1 : decide (a < 0) = true := by simp [h]
    rw [e1, if_neg (by decide), if_pos h]; omega
  · have e1 : decide (a < 0) = false := by simp [h]
    rw [e1, if_pos (by decide), if_neg h]
theorem mulX_one (a : Int) : mulX a 65536 = a := by
  unfold mulX
  have : absI 65536 = 65536 := by decide
  rw [this, rd_one, sg_abs]
theorem divX_one (a : Int) : divX a 65536 = a := by
  unfold divX
  have : absI 65536 = 65536 := by decide
  rw [this, rd_one, sg_abs]
theorem rA_ok {xs : List Int} (h : xs.all vF = true) (x : Int) : rA xs x = (fitV x, fitE x) := by unfold rA; rw [if_pos h]
theorem fit_ok {x : Int} (h : vF x = true) : fitV x = x ∧ fitE x = 0 := by unfold fitV fitE; rw [if_pos h, if_pos h]; exact ⟨rfl, rfl⟩
theorem fit_no {x : Int} (h : vF x = false) : fitV x = 0 ∧ fitE x = 7 := by unfold fitV fitE; rw [if_neg (by rw [h]; decide), if_neg (by rw [h]; decide)]; exact ⟨rfl, rfl⟩
set_option maxRecDepth 100000 in
set_option maxHeartbeats 4000000 in
theorem algebra5 (a b : Int) (w : World) (ht : Tab w) : Calls Tryd.prog 5 #[.int .i64 a, .int .i64 b] w fun e w' => e = .returned (.bool true) ∧ Below w.heap.size w w' := by
  have HT := Lib.hid ht
  have B0 := Lib.hid (show Below w.heap.size w w from Below.refl _ _)
  clear ht
  cases ha : vF a with
  | false =>
    have Va := Lib.hid ha
    clear ha
    go_enter Tryd.func5, Tryd.ntmps5
    go_wp2_with fail
    refine (valid10 a _).mono ?_
    rintro e w1 ⟨rfl, rfl⟩
    rw [Va.out]
    go_wp2_with fail
    refine (awake11 _ (HT.out.below B0.out)).mono ?_
    rintro e z ⟨rfl, hb⟩
    have BZ := B0.out.trans (hb.mono B0.out.size)
    go_wp2_with fail
    go_ret
    exact ⟨rfl, BZ⟩
  | true =>
    cases hb : vF b with
    | false =>
      have Va := Lib.hid ha
      have Vb := Lib.hid hb
      clear ha hb
      go_enter Tryd.func5, Tryd.ntmps5
      go_wp2_with fail
      refine (valid10 a _).mono ?_
      rintro e w1 ⟨rfl, rfl⟩
      rw [Va.out]
      go_wp2_with fail
      refine (valid10 b _).mono ?_
      rintro e w1 ⟨rfl, rfl⟩
      rw [Vb.out]
      go_wp2_with fail
      refine (awake11 _ (HT.out.below B0.out)).mono ?_
      rintro e z ⟨rfl, hb⟩
      have BZ := B0.out.trans (hb.mono B0.out.size)
      go_wp2_with fail
      go_ret
      exact ⟨rfl, BZ⟩
    | true =>
      have Va := Lib.hid ha
      have Vb := Lib.hid hb
      have VN := Lib.hid ((vF_neg a).trans ha)
      have VM := Lib.hid ((vF_neg b).trans hb)
      obtain ⟨a0, a1⟩ := vF_iff ha
      obtain ⟨b0, b1⟩ := vF_iff hb
      clear ha hb
      obtain ⟨p, hp⟩ : ∃ p, p = fitV (mulX a b) := ⟨_, rfl⟩
      obtain ⟨g, hg⟩ : ∃ g, g = fitE (mulX a b) := ⟨_, rfl⟩
      have p0 : -274877906944 ≤ p ∧ p ≤ 274877906944 := by rw [hp]; exact fitV_bd _
      have M1 := Lib.hid (show rA [a, b] (mulX a b) = (p, g) by rw [rA_ok (by simp [Va.out, Vb.out]), hp, hg])
      have M2 := Lib.hid (show rA [b, a] (mulX b a) = (p, g) by rw [rA_ok (by simp [Va.out, Vb.out]), mulX_comm, hp, hg])
      have M3 := Lib.hid (show rA [-a, b] (mulX (-a) b) = (-p, g) by rw [rA_ok (by simp [VN.out, Vb.out]), mulX_neg, fitV_neg, fitE_neg, hp, hg])
      have M4 := Lib.hid (show rA [a, 65536] (mulX a 65536) = (a, 0) by rw [rA_ok (by simp [Va.out]; decide), mulX_one, (fit_ok Va.out).1, (fit_ok Va.out).2])
      have D3 := Lib.hid (show divR a 65536 = (a, 0) by unfold divR; rw [if_pos (by simp [Va.out]; decide), if_neg (by decide), divX_one, (fit_ok Va.out).1, (fit_ok Va.out).2])
      obtain ⟨s, k, s0, D1, D2⟩ : ∃ s k : Int, (-274877906944 ≤ s ∧ s ≤ 274877906944) ∧ Hid (divR a b = (s, k)) ∧ Hid (divR a (-b) = (-s, k)) := by
        by_cases hz : b = 0
        · refine ⟨0, 14, by omega, Lib.hid ?_, Lib.hid ?_⟩
          · unfold divR; rw [if_pos (by simp [Va.out, Vb.out]), if_pos hz]
          · unfold divR; rw [if_pos (by simp [Va.out, VM.out]), if_pos (by omega)]; rfl
        · refine ⟨fitV (divX a b), fitE (divX a b), fitV_bd _, Lib.hid ?_, Lib.hid ?_⟩
          · unfold divR; rw [if_pos (by simp [Va.out, Vb.out]), if_neg hz]
          · unfold divR; rw [if_pos (by simp [Va.out, VM.out]), if_neg (by omega), divX_neg hz, fitV_neg, fitE_neg]
      obtain ⟨p1, p2⟩ := p0
      obtain ⟨s1, s2⟩ := s0
      clear hp hg
      cases hx : vF (a + b) with
      | true =>
        have A1 := Lib.hid (show rA [a, b] (a + b) = (a + b, 0) by rw [rA_ok (by simp [Va.out, Vb.out]), (fit_ok hx).1, (fit_ok hx).2])
        have A2 := Lib.hid (show rA [b, a] (b + a) = (a + b, 0) by rw [rA_ok (by simp [Va.out, Vb.out]), Int.add_comm b a, (fit_ok hx).1, (fit_ok hx).2])
        have A3 := Lib.hid (show rA [a + b, b] (a + b - b) = (a, 0) by rw [rA_ok (by simp [hx, Vb.out]), show a + b - b = a by omega, (fit_ok Va.out).1, (fit_ok Va.out).2])
        clear hx
        go_enter Tryd.func5, Tryd.ntmps5
        go_wp2_with fail
        refine (valid10 a _).mono ?_
        rintro e w1 ⟨rfl, rfl⟩
        rw [Va.out]
        go_wp2_with fail
        refine (valid10 b _).mono ?_
        rintro e w1 ⟨rfl, rfl⟩
        rw [Vb.out]
        go_wp2_with fail
        have hTb := HT.out.below B0.out
        have HTb := Lib.hid hTb
        clear hTb
        refine (awake11 _ HTb.out).mono ?_
        rintro e x1 ⟨rfl, hb⟩
        have B1 := Lib.hid (B0.out.trans (hb.mono B0.out.size))
        clear hb B0
        go_wp2_with fail
        refine (at_ A1.out (add17 a b _)).mono ?_
        rintro e x2 ⟨rfl, hb⟩
        have B2 := Lib.hid (B1.out.trans (hb.mono B1.out.size))
        clear hb B1
        go_wp2_with fail
        refine (at_ A2.out (add17 b a _)).mono ?_
        rintro e x3 ⟨rfl, hb⟩
        have B3 := Lib.hid (B2.out.trans (hb.mono B2.out.size))
        clear hb B2
        go_wp2_with fail
        refine (at_ A3.out (sub18 (a + b) b _)).mono ?_
        rintro e x4 ⟨rfl, hb⟩
        have B4 := Lib.hid (B3.out.trans (hb.mono B3.out.size))
        clear hb B3
        go_wp2_with fail
        refine (at_ M1.out (mul12 a b _)).mono ?_
        rintro e x5 ⟨rfl, hb⟩
        have B5 := Lib.hid (B4.out.trans (hb.mono B4.out.size))
        clear hb B4
        go_wp2_with fail
        refine (at_ M2.out (mul12 b a _)).mono ?_
        rintro e x6 ⟨rfl, hb⟩
        have B6 := Lib.hid (B5.out.trans (hb.mono B5.out.size))
        clear hb B5
        go_wp2_with fail
        refine (at_ M3.out (mul12 (-a) b _)).mono ?_
        rintro e x7 ⟨rfl, hb⟩
        have B7 := Lib.hid (B6.out.trans (hb.mono B6.out.size))
        clear hb B6
        go_wp2_with fail
        refine (at_ D1.out (div13 a b _)).mono ?_
        rintro e x8 ⟨rfl, hb⟩
        have B8 := Lib.hid (B7.out.trans (hb.mono B7.out.size))
        clear hb B7
        go_wp2_with fail
        refine (at_ D2.out (div13 a (-b) _)).mono ?_
        rintro e x9 ⟨rfl, hb⟩
        have B9 := Lib.hid (B8.out.trans (hb.mono B8.out.size))
        clear hb B8
        go_wp2_with fail
        refine (at_ M4.out (mul12 a 65536 _)).mono ?_
        rintro e x10 ⟨rfl, hb⟩
        have B10 := Lib.hid (B9.out.trans (hb.mono B9.out.size))
        clear hb B9
        go_wp2_with fail
        refine (at_ D3.out (div13 a 65536 _)).mono ?_
        rintro e x11 ⟨rfl, hb⟩
        have B11 := Lib.hid (B10.out.trans (hb.mono B10.out.size))
        clear hb B10
        go_wp2_with fail
        go_ret
        exact ⟨rfl, B11.out⟩
      | false =>
        have A1 := Lib.hid (show rA [a, b] (a + b) = (0, 7) by rw [rA_ok (by simp [Va.out, Vb.out]), (fit_no hx).1, (fit_no hx).2])
        have A2 := Lib.hid (show rA [b, a] (b + a) = (0, 7) by rw [rA_ok (by simp [Va.out, Vb.out]), Int.add_comm b a, (fit_no hx).1, (fit_no hx).2])
        clear hx
        go_enter Tryd.func5, Tryd.ntmps5
        go_wp2_with fail
        refine (valid10 a _).mono ?_
        rintro e w1 ⟨rfl, rfl⟩
        rw [Va.out]
        go_wp2_with fail
        refine (valid10 b _).mono ?_
        rintro e w1 ⟨rfl, rfl⟩
        rw [Vb.out]
        go_wp2_with fail
        have hTb := HT.out.below B0.out
        have HTb := Lib.hid hTb
        clear hTb
        refine (awake11 _ HTb.out).mono ?_
        rintro e x1 ⟨rfl, hb⟩
        have B1 := Lib.hid (B0.out.trans (hb.mono B0.out.size))
        clear hb B0
        go_wp2_with fail
        refine (at_ A1.out (add17 a b _)).mono ?_
        rintro e x2 ⟨rfl, hb⟩
        have B2 := Lib.hid (B1.out.trans (hb.mono B1.out.size))
        clear hb B1
        go_wp2_with fail
        refine (at_ A2.out (add17 b a _)).mono ?_
        rintro e x3 ⟨rfl, hb⟩
        have B3 := Lib.hid (B2.out.trans (hb.mono B2.out.size))
        clear hb B2
        go_wp2_with fail
        refine (at_ M1.out (mul12 a b _)).mono ?_
        rintro e x4 ⟨rfl, hb⟩
        have B4 := Lib.hid (B3.out.trans (hb.mono B3.out.size))
        clear hb B3
        go_wp2_with fail
        refine (at_ M2.out (mul12 b a _)).mono ?_
        rintro e x5 ⟨rfl, hb⟩
        have B5 := Lib.hid (B4.out.trans (hb.mono B4.out.size))
        clear hb B4
        go_wp2_with fail
        refine (at_ M3.out (mul12 (-a) b _)).mono ?_
        rintro e x6 ⟨rfl, hb⟩
        have B6 := Lib.hid (B5.out.trans (hb.mono B5.out.size))
        clear hb B5
        go_wp2_with fail
        refine (at_ D1.out (div13 a b _)).mono ?_
        rintro e x7 ⟨rfl, hb⟩
        have B7 := Lib.hid (B6.out.trans (hb.mono B6.out.size))
        clear hb B6
        go_wp2_with fail
        refine (at_ D2.out (div13 a (-b) _)).mono ?_
        rintro e x8 ⟨rfl, hb⟩
        have B8 := Lib.hid (B7.out.trans (hb.mono B7.out.size))
        clear hb B7
        go_wp2_with fail
        refine (at_ M4.out (mul12 a 65536 _)).mono ?_
        rintro e x9 ⟨rfl, hb⟩
        have B9 := Lib.hid (B8.out.trans (hb.mono B8.out.size))
        clear hb B8
        go_wp2_with fail
        refine (at_ D3.out (div13 a 65536 _)).mono ?_
        rintro e x10 ⟨rfl, hb⟩
        have B10 := Lib.hid (B9.out.trans (hb.mono B9.out.size))
        clear hb B9
        go_wp2_with fail
        go_ret
        exact ⟨rfl, B10.out⟩
end Go.Proofs.YtmalpalepaomdaaDoor
