/- The reference of fixed: From, Ratio, Add, Sub, Mul, Div, Floor, Round, Clamp. -/
import Derived.Test.YtmalpalepaomdaaDoorRows
import Derived.WalkKit
import Derived.WalkLawsBesides
import Derived.WalkSpells
import Derived.ProofKit
import Derived.Below
import Derived.Outline
import Derived.Lib.Hide
import Derived.Deep.RegionWith
import Derived.Deep.RegionHeld3
import Derived.Deep.DrawnRows
import Derived.StillTailTactics
import Derived.BigQuiet
import Derived.Deep.QuietTactic
import Derived.Deep.LoopGhost
import Derived.IntWalk
import Derived.Lib.MinMax
import Derived.Test.YtmalpalepaomdaaDoorFxC
namespace Go.Proofs.YtmalpalepaomdaaDoor
open Go.RowKit
attribute [local go_sem ↓] Go.wp_at_zero Go.wp_at_succ
attribute [local go_sem] wrap_lit
set_option maxHeartbeats 1000000 in
theorem add19 (a b : Int) (w : World) : Calls Tryd.prog 19 #[.int .i64 a, .int .i64 b] w fun e w' => e = .returned (.tuple #[.int .i64 (rA [a, b] (a + b)).1, .int .i64 (rA [a, b] (a + b)).2]) ∧ w = w' := by
  cases ha : vF a with
  | false =>
    have HR : Hid (rA [a, b] (a + b) = (0, 1)) := Lib.hid (by unfold rA; rw [if_neg (by simp [ha])])
    have Va := Lib.hid ha
    clear ha
    go_enter Tryd.func19, Tryd.ntmps19
    go_wp2_with fail
    refine (valid41 a _).mono ?_
    rintro e w1 ⟨rfl, rfl⟩
    rw [Va.out]
    go_wp2_with fail
    go_ret2
    exact ⟨ret_pair HR.out, rfl⟩
  | true =>
    cases hb : vF b with
    | false =>
      have HR : Hid (rA [a, b] (a + b) = (0, 1)) := Lib.hid (by unfold rA; rw [if_neg (by simp [hb])])
      have Va := Lib.hid ha
      have Vb := Lib.hid hb
      clear ha hb
      go_enter Tryd.func19, Tryd.ntmps19
      go_wp2_with fail
      refine (valid41 a _).mono ?_
      rintro e w1 ⟨rfl, rfl⟩
      rw [Va.out]
      go_wp2_with fail
      refine (valid41 b _).mono ?_
      rintro e w1 ⟨rfl, rfl⟩
      rw [Vb.out]
      go_wp2_with fail
      go_ret2
      exact ⟨ret_pair HR.out, rfl⟩
    | true =>
      obtain ⟨a0, a1⟩ := vF_iff ha
      obtain ⟨b0, b1⟩ := vF_iff hb
      have HR : Hid (rA [a, b] (a + b) = (fitV (a + b), fitE (a + b))) := Lib.hid (by unfold rA; rw [if_pos (by simp [ha, hb])])
      have Va := Lib.hid ha
      have Vb := Lib.hid hb
      clear ha hb
      go_enter Tryd.func19, Tryd.ntmps19
      go_wp2_with fail
      refine (valid41 a _).mono ?_
      rintro e w1 ⟨rfl, rfl⟩
      rw [Va.out]
      go_wp2_with fail
      refine (valid41 b _).mono ?_
      rintro e w1 ⟨rfl, rfl⟩
      rw [Vb.out]
      go_wp2_with fail
      refine (fit42 _ _).mono ?_
      rintro e w2 ⟨rfl, rfl⟩
      go_wp2_with fail
      go_ret2
      exact ⟨ret_pair HR.out, rfl⟩
set_option maxHeartbeats 1000000 in
theorem sub20 (a b : Int) (w : World) : Calls Tryd.prog 20 #[.int .i64 a, .int .i64 b] w fun e w' => e = .returned (.tuple #[.int .i64 (rA [a, b] (a - b)).1, .int .i64 (rA [a, b] (a - b)).2]) ∧ w = w' := by
  cases ha : vF a with
  | false =>
    have HR : Hid (rA [a, b] (a - b) = (0, 1)) := Lib.hid (by unfold rA; rw [if_neg (by simp [ha])])
    have Va := Lib.hid ha
    clear ha
    go_enter Tryd.func20, Tryd.ntmps20
    go_wp2_with fail
    refine (valid41 a _).mono ?_
    rintro e w1 ⟨rfl, rfl⟩
    rw [Va.out]
    go_wp2_with fail
    go_ret2
    exact ⟨ret_pair HR.out, rfl⟩
  | true =>
    cases hb : vF b with
    | false =>
      have HR : Hid (rA [a, b] (a - b) = (0, 1)) := Lib.hid (by unfold rA; rw [if_neg (by simp [hb])])
      have Va := Lib.hid ha
      have Vb := Lib.hid hb
      clear ha hb
      go_enter Tryd.func20, Tryd.ntmps20
      go_wp2_with fail
      refine (valid41 a _).mono ?_
      rintro e w1 ⟨rfl, rfl⟩
      rw [Va.out]
      go_wp2_with fail
      refine (valid41 b _).mono ?_
      rintro e w1 ⟨rfl, rfl⟩
      rw [Vb.out]
      go_wp2_with fail
      go_ret2
      exact ⟨ret_pair HR.out, rfl⟩
    | true =>
      obtain ⟨a0, a1⟩ := vF_iff ha
      obtain ⟨b0, b1⟩ := vF_iff hb
      have HR : Hid (rA [a, b] (a - b) = (fitV (a - b), fitE (a - b))) := Lib.hid (by unfold rA; rw [if_pos (by simp [ha, hb])])
      have Va := Lib.hid ha
      have Vb := Lib.hid hb
      clear ha hb
      go_enter Tryd.func20, Tryd.ntmps20
      go_wp2_with fail
      refine (valid41 a _).mono ?_
      rintro e w1 ⟨rfl, rfl⟩
      rw [Va.out]
      go_wp2_with fail
      refine (valid41 b _).mono ?_
      rintro e w1 ⟨rfl, rfl⟩
      rw [Vb.out]
      go_wp2_with fail
      refine (fit42 _ _).mono ?_
      rintro e w2 ⟨rfl, rfl⟩
      go_wp2_with fail
      go_ret2
      exact ⟨ret_pair HR.out, rfl⟩
set_option maxHeartbeats 1000000 in
theorem mul21 (a b : Int) (w : World) : Calls Tryd.prog 21 #[.int .i64 a, .int .i64 b] w fun e w' => e = .returned (.tuple #[.int .i64 (rA [a, b] (mulX a b)).1, .int .i64 (rA [a, b] (mulX a b)).2]) ∧ w = w' := by
  cases ha : vF a with
  | false =>
    have HR : Hid (rA [a, b] (mulX a b) = (0, 1)) := Lib.hid (by unfold rA; rw [if_neg (by simp [ha])])
    have Va := Lib.hid ha
    clear ha
    go_enter Tryd.func21, Tryd.ntmps21
    go_wp2_with fail
    refine (valid41 a _).mono ?_
    rintro e w1 ⟨rfl, rfl⟩
    rw [Va.out]
    go_wp2_with fail
    go_ret2
    exact ⟨ret_pair HR.out, rfl⟩
  | true =>
    cases hb : vF b with
    | false =>
      have HR : Hid (rA [a, b] (mulX a b) = (0, 1)) := Lib.hid (by unfold rA; rw [if_neg (by simp [hb])])
      have Va := Lib.hid ha
      have Vb := Lib.hid hb
      clear ha hb
      go_enter Tryd.func21, Tryd.ntmps21
      go_wp2_with fail
      refine (valid41 a _).mono ?_
      rintro e w1 ⟨rfl, rfl⟩
      rw [Va.out]
      go_wp2_with fail
      refine (valid41 b _).mono ?_
      rintro e w1 ⟨rfl, rfl⟩
      rw [Vb.out]
      go_wp2_with fail
      go_ret2
      exact ⟨ret_pair HR.out, rfl⟩
    | true =>
      obtain ⟨a0, a1⟩ := vF_iff ha
      obtain ⟨b0, b1⟩ := vF_iff hb
      have HR : Hid (rA [a, b] (mulX a b) = (fitV (mulX a b), fitE (mulX a b))) := Lib.hid (by unfold rA; rw [if_pos (by simp [ha, hb])])
      have Va := Lib.hid ha
      have Vb := Lib.hid hb
      clear ha hb
      obtain ⟨p, hp⟩ : ∃ p, absI a = p := ⟨_, rfl⟩
      obtain ⟨q, hq⟩ : ∃ q, absI b = q := ⟨_, rfl⟩
      have p0 : 0 ≤ p := hp ▸ absI_nn a
      have p1 : p ≤ 274877906944 := hp ▸ absI_bd a0 a1
      have q0 : 0 ≤ q := hq ▸ absI_nn b
      have q1 : q ≤ 274877906944 := hq ▸ absI_bd b0 b1
      have HPQ := Lib.hid (And.intro hp hq)
      have k0 : 0 ≤ p / 65536 * q := Int.mul_nonneg (by omega) q0
      have k1 : p / 65536 * q ≤ 1152921504606846976 := by have := Int.mul_nonneg (show 0 ≤ 4194304 - p / 65536 by omega) q0; simp only [Int.sub_mul] at this; omega
      have l0 : 0 ≤ p % 65536 * q := Int.mul_nonneg (by omega) q0
      have l1 : p % 65536 * q ≤ 18014398509481984 := by have := Int.mul_nonneg (show 0 ≤ 65536 - p % 65536 by omega) q0; simp only [Int.sub_mul] at this; omega
      have hsum : p * q = 65536 * (p / 65536 * q) + p % 65536 * q := by
        have e := Int.emod_add_mul_ediv p 65536
        have e2 : p * q = (p % 65536 + 65536 * (p / 65536)) * q := by rw [e]
        rw [e2, Int.add_mul, Int.mul_assoc]; omega
      have hn : p / 65536 * q + rdN (p % 65536 * q) 65536 = rdN (p * q) 65536 := by
        rw [hsum]; generalize p / 65536 * q = u at *; generalize p % 65536 * q = v at *
        have d1 : (65536 * u + v) / 65536 = u + v / 65536 := by omega
        have d2 : (65536 * u + v) % 65536 = v % 65536 := by omega
        unfold rdN; rw [d1, d2]; split <;> omega
      have r0 := (rdN_bd (p := p % 65536 * q) (q := 65536) l0 (by omega)).1
      have r1 := (rdN_bd (p := p % 65536 * q) (q := 65536) l0 (by omega)).2
      have hq4 : (if p % 65536 * q < 0 then -rdN (absI (p % 65536 * q)) 65536 else rdN (absI (p % 65536 * q)) 65536) = rdN (p % 65536 * q) 65536 := by rw [if_neg (by omega), absI_p l0]
      have HN := Lib.hid hn
      have HQ := Lib.hid hq4
      clear hn hq4 hsum hp hq
      have HM : Hid (mulX a b = if decide (a < 0) = decide (b < 0) then rdN (p * q) 65536 else -rdN (p * q) 65536) := Lib.hid (by unfold mulX sg; rw [HPQ.out.1, HPQ.out.2])
      obtain ⟨x, hx⟩ : ∃ x, decide (a < 0) = x := ⟨_, rfl⟩
      obtain ⟨y, hy⟩ : ∃ y, decide (b < 0) = y := ⟨_, rfl⟩
      have HMX : Hid (mulX a b = if x = y then rdN (p * q) 65536 else -rdN (p * q) 65536) := Lib.hid (by rw [HM.out, hx, hy])
      cases x <;> cases y
      · have HS : Hid (rdN (p * q) 65536 = mulX a b) := Lib.hid (by rw [HMX.out]; rfl)
        go_enter Tryd.func21, Tryd.ntmps21
        go_wp2_with fail
        refine (valid41 a _).mono ?_
        rintro e w1 ⟨rfl, rfl⟩
        rw [Va.out]
        go_wp2_with fail
        refine (valid41 b _).mono ?_
        rintro e w1 ⟨rfl, rfl⟩
        rw [Vb.out]
        go_wp2_with fail
        refine (abs43 a _ (by omega)).mono ?_
        rintro e w1 ⟨rfl, rfl⟩
        rw [HPQ.out.1]
        go_wp2_with fail
        refine (abs43 b _ (by omega)).mono ?_
        rintro e w1 ⟨rfl, rfl⟩
        rw [HPQ.out.2]
        go_wp2_with fail
        refine (quo44 (p % 65536 * q) 65536 _ (by omega) (by omega) (by omega) (by omega)).mono ?_
        rintro e w1 ⟨rfl, rfl⟩
        rw [HQ.out]
        go_wp2_with fail
        rw [HN.out, HS.out]
        refine (fit42 _ _).mono ?_
        rintro e w2 ⟨rfl, rfl⟩
        go_wp2_with fail
        go_ret2
        exact ⟨ret_pair HR.out, rfl⟩
      · have HS : Hid (-rdN (p * q) 65536 = mulX a b) := Lib.hid (by rw [HMX.out]; rfl)
        go_enter Tryd.func21, Tryd.ntmps21
        go_wp2_with fail
        refine (valid41 a _).mono ?_
        rintro e w1 ⟨rfl, rfl⟩
        rw [Va.out]
        go_wp2_with fail
        refine (valid41 b _).mono ?_
        rintro e w1 ⟨rfl, rfl⟩
        rw [Vb.out]
        go_wp2_with fail
        refine (abs43 a _ (by omega)).mono ?_
        rintro e w1 ⟨rfl, rfl⟩
        rw [HPQ.out.1]
        go_wp2_with fail
        refine (abs43 b _ (by omega)).mono ?_
        rintro e w1 ⟨rfl, rfl⟩
        rw [HPQ.out.2]
        go_wp2_with fail
        refine (quo44 (p % 65536 * q) 65536 _ (by omega) (by omega) (by omega) (by omega)).mono ?_
        rintro e w1 ⟨rfl, rfl⟩
        rw [HQ.out]
        go_wp2_with fail
        rw [HN.out, HS.out]
        refine (fit42 _ _).mono ?_
        rintro e w2 ⟨rfl, rfl⟩
        go_wp2_with fail
        go_ret2
        exact ⟨ret_pair HR.out, rfl⟩
      · have HS : Hid (-rdN (p * q) 65536 = mulX a b) := Lib.hid (by rw [HMX.out]; rfl)
        go_enter Tryd.func21, Tryd.ntmps21
        go_wp2_with fail
        refine (valid41 a _).mono ?_
        rintro e w1 ⟨rfl, rfl⟩
        rw [Va.out]
        go_wp2_with fail
        refine (valid41 b _).mono ?_
        rintro e w1 ⟨rfl, rfl⟩
        rw [Vb.out]
        go_wp2_with fail
        refine (abs43 a _ (by omega)).mono ?_
        rintro e w1 ⟨rfl, rfl⟩
        rw [HPQ.out.1]
        go_wp2_with fail
        refine (abs43 b _ (by omega)).mono ?_
        rintro e w1 ⟨rfl, rfl⟩
        rw [HPQ.out.2]
        go_wp2_with fail
        refine (quo44 (p % 65536 * q) 65536 _ (by omega) (by omega) (by omega) (by omega)).mono ?_
        rintro e w1 ⟨rfl, rfl⟩
        rw [HQ.out]
        go_wp2_with fail
        rw [HN.out, HS.out]
        refine (fit42 _ _).mono ?_
        rintro e w2 ⟨rfl, rfl⟩
        go_wp2_with fail
        go_ret2
        exact ⟨ret_pair HR.out, rfl⟩
      · have HS : Hid (rdN (p * q) 65536 = mulX a b) := Lib.hid (by rw [HMX.out]; rfl)
        go_enter Tryd.func21, Tryd.ntmps21
        go_wp2_with fail
        refine (valid41 a _).mono ?_
        rintro e w1 ⟨rfl, rfl⟩
        rw [Va.out]
        go_wp2_with fail
        refine (valid41 b _).mono ?_
        rintro e w1 ⟨rfl, rfl⟩
        rw [Vb.out]
        go_wp2_with fail
        refine (abs43 a _ (by omega)).mono ?_
        rintro e w1 ⟨rfl, rfl⟩
        rw [HPQ.out.1]
        go_wp2_with fail
        refine (abs43 b _ (by omega)).mono ?_
        rintro e w1 ⟨rfl, rfl⟩
        rw [HPQ.out.2]
        go_wp2_with fail
        refine (quo44 (p % 65536 * q) 65536 _ (by omega) (by omega) (by omega) (by omega)).mono ?_
        rintro e w1 ⟨rfl, rfl⟩
        rw [HQ.out]
        go_wp2_with fail
        rw [HN.out, HS.out]
        refine (fit42 _ _).mono ?_
        rintro e w2 ⟨rfl, rfl⟩
        go_wp2_with fail
        go_ret2
        exact ⟨ret_pair HR.out, rfl⟩
theorem rdN_0 {q : Int} (h : 0 < q) : rdN 0 q = 0 := by unfold rdN; rw [if_neg (by simp; omega)]; simp
def quoX (p q : Int) : Int := if p < 0 then -rdN (absI p) q else rdN (absI p) q
theorem abs16 (x : Int) : absI (65536 * x) = absI x * 65536 := by unfold absI; split <;> split <;> omega
theorem abs16n (x : Int) : absI (65536 * -x) = absI x * 65536 := by unfold absI; split <;> split <;> omega
theorem quo_pos {a b : Int} (hb : 0 < b) : quoX (65536 * a) b = divX a b := by
  have hd : decide (b < 0) = false := by simp; omega
  unfold quoX divX sg
  rw [abs16, absI_p (x := b) (by omega), hd]
  by_cases h : a < 0
  · rw [if_pos (by omega), if_neg (by simp [h])]
  · rw [if_neg (by omega), if_pos (by simp; omega)]
theorem quo_neg {a b : Int} (hb : b < 0) : quoX (65536 * -a) (-b) = divX a b := by
  have hd : decide (b < 0) = true := by simp [hb]
  unfold quoX divX sg
  rw [abs16n, absI_n hb, hd]
  by_cases h : a < 0
  · rw [if_neg (by omega), if_pos (by simp [h])]
  · rw [if_neg (c := decide (a < 0) = true) (by simp; omega)]
    by_cases h0 : a = 0
    · subst h0
      have : absI 0 * 65536 = 0 := by decide
      rw [this, rdN_0 (by omega)]; rfl
    · rw [if_pos (by omega)]
set_option maxHeartbeats 1000000 in
theorem div22 (a b : Int) (w : World) : Calls Tryd.prog 22 #[.int .i64 a, .int .i64 b] w fun e w' => e = .returned (.tuple #[.int .i64 (divR a b).1, .int .i64 (divR a b).2]) ∧ w = w' := by
  cases ha : vF a with
  | false =>
    have HR : Hid (divR a b = (0, 1)) := Lib.hid (by unfold divR; rw [if_neg (by simp [ha])])
    have Va := Lib.hid ha
    clear ha
    go_enter Tryd.func22, Tryd.ntmps22
    go_wp2_with fail
    refine (valid41 a _).mono ?_
    rintro e w1 ⟨rfl, rfl⟩
    rw [Va.out]
    go_wp2_with fail
    go_ret2
    exact ⟨ret_pair HR.out, rfl⟩
  | true =>
    cases hb : vF b with
    | false =>
      have HR : Hid (divR a b = (0, 1)) := Lib.hid (by unfold divR; rw [if_neg (by simp [hb])])
      have Va := Lib.hid ha
      have Vb := Lib.hid hb
      clear ha hb
      go_enter Tryd.func22, Tryd.ntmps22
      go_wp2_with fail
      refine (valid41 a _).mono ?_
      rintro e w1 ⟨rfl, rfl⟩
      rw [Va.out]
      go_wp2_with fail
      refine (valid41 b _).mono ?_
      rintro e w1 ⟨rfl, rfl⟩
      rw [Vb.out]
      go_wp2_with fail
      go_ret2
      exact ⟨ret_pair HR.out, rfl⟩
    | true =>
      obtain ⟨a0, a1⟩ := vF_iff ha
      obtain ⟨b0, b1⟩ := vF_iff hb
      have hall : [a, b].all vF = true := by simp [ha, hb]
      have HA := Lib.hid hall
      clear hall
      have Va := Lib.hid ha
      have Vb := Lib.hid hb
      clear ha hb
      by_cases hz : b = 0
      · have HR : Hid (divR a b = (0, 14)) := Lib.hid (by unfold divR; rw [if_pos HA.out, if_pos hz])
        have hb0 : (b == 0) = true := by simp [hz]
        clear hz
        go_enter Tryd.func22, Tryd.ntmps22
        go_wp2_with fail
        refine (valid41 a _).mono ?_
        rintro e w1 ⟨rfl, rfl⟩
        rw [Va.out]
        go_wp2_with fail
        refine (valid41 b _).mono ?_
        rintro e w1 ⟨rfl, rfl⟩
        rw [Vb.out]
        go_wp2_with fail
        go_ret2
        exact ⟨ret_pair HR.out, rfl⟩
      · have HR : Hid (divR a b = (fitV (divX a b), fitE (divX a b))) := Lib.hid (by unfold divR; rw [if_pos HA.out, if_neg hz])
        have hb0 : (b == 0) = false := by simp [hz]
        by_cases hn : b < 0
        · have HQ := Lib.hid (quo_neg (a := a) hn)
          unfold quoX at HQ
          clear hz
          go_enter Tryd.func22, Tryd.ntmps22
          go_wp2_with fail
          refine (valid41 a _).mono ?_
          rintro e w1 ⟨rfl, rfl⟩
          rw [Va.out]
          go_wp2_with fail
          refine (valid41 b _).mono ?_
          rintro e w1 ⟨rfl, rfl⟩
          rw [Vb.out]
          go_wp2_with fail
          refine (quo44 _ _ _ (by omega) (by omega) (by omega) (by omega)).mono ?_
          rintro e w1 ⟨rfl, rfl⟩
          rw [HQ.out]
          go_wp2_with fail
          refine (fit42 _ _).mono ?_
          rintro e w2 ⟨rfl, rfl⟩
          go_wp2_with fail
          go_ret2
          exact ⟨ret_pair HR.out, rfl⟩
        · have hp : 0 < b := by omega
          have HQ := Lib.hid (quo_pos (a := a) hp)
          unfold quoX at HQ
          clear hz
          go_enter Tryd.func22, Tryd.ntmps22
          go_wp2_with fail
          refine (valid41 a _).mono ?_
          rintro e w1 ⟨rfl, rfl⟩
          rw [Va.out]
          go_wp2_with fail
          refine (valid41 b _).mono ?_
          rintro e w1 ⟨rfl, rfl⟩
          rw [Vb.out]
          go_wp2_with fail
          refine (quo44 _ _ _ (by omega) (by omega) (by omega) (by omega)).mono ?_
          rintro e w1 ⟨rfl, rfl⟩
          rw [HQ.out]
          go_wp2_with fail
          refine (fit42 _ _).mono ?_
          rintro e w2 ⟨rfl, rfl⟩
          go_wp2_with fail
          go_ret2
          exact ⟨ret_pair HR.out, rfl⟩
set_option maxHeartbeats 1000000 in
theorem ratio29 (a b : Int) (w : World) : Calls Tryd.prog 29 #[.int .i64 a, .int .i64 b] w fun e w' => e = .returned (.tuple #[.int .i64 (ratR a b).1, .int .i64 (ratR a b).2]) ∧ w = w' := by
  cases hv : okR a b with
  | false =>
    have HR : Hid (ratR a b = (0, 1)) := Lib.hid (by unfold ratR; rw [if_neg (by rw [hv]; decide)])
    have hn : ¬ (((-1099511627776 ≤ a ∧ a ≤ 1099511627776) ∧ -1099511627776 ≤ b) ∧ b ≤ 1099511627776) := fun h => by simp [okR, h] at hv
    clear hv
    by_cases h1 : -1099511627776 ≤ a
    · by_cases h2 : a ≤ 1099511627776
      · by_cases h3 : -1099511627776 ≤ b
        · have h4 : 1099511627776 < b := by omega
          clear hn
          go_enter Tryd.func29, Tryd.ntmps29
          go_wp2_with fail
          go_ret2
          exact ⟨ret_pair HR.out, rfl⟩
        · clear hn
          go_enter Tryd.func29, Tryd.ntmps29
          go_wp2_with fail
          go_ret2
          exact ⟨ret_pair HR.out, rfl⟩
      · clear hn
        go_enter Tryd.func29, Tryd.ntmps29
        go_wp2_with fail
        go_ret2
        exact ⟨ret_pair HR.out, rfl⟩
    · clear hn
      go_enter Tryd.func29, Tryd.ntmps29
      go_wp2_with fail
      go_ret2
      exact ⟨ret_pair HR.out, rfl⟩
  | true =>
    obtain ⟨⟨⟨a0, a1⟩, b0⟩, b1⟩ := okR_iff hv
    have HA := Lib.hid hv
    clear hv
    by_cases hz : b = 0
    · have HR : Hid (ratR a b = (0, 14)) := Lib.hid (by unfold ratR; rw [if_pos HA.out, if_pos hz])
      have hb0 : (b == 0) = true := by simp [hz]
      clear hz
      go_enter Tryd.func29, Tryd.ntmps29
      go_wp2_with fail
      go_ret2
      exact ⟨ret_pair HR.out, rfl⟩
    · have HR : Hid (ratR a b = (fitV (divX a b), fitE (divX a b))) := Lib.hid (by unfold ratR; rw [if_pos HA.out, if_neg hz])
      have hb0 : (b == 0) = false := by simp [hz]
      by_cases hn : b < 0
      · have HQ := Lib.hid (quo_neg (a := a) hn)
        unfold quoX at HQ
        clear hz
        go_enter Tryd.func29, Tryd.ntmps29
        go_wp2_with fail
        refine (quo44 _ _ _ (by omega) (by omega) (by omega) (by omega)).mono ?_
        rintro e w1 ⟨rfl, rfl⟩
        rw [HQ.out]
        go_wp2_with fail
        refine (fit42 _ _).mono ?_
        rintro e w2 ⟨rfl, rfl⟩
        go_wp2_with fail
        go_ret2
        exact ⟨ret_pair HR.out, rfl⟩
      · have hp : 0 < b := by omega
        have HQ := Lib.hid (quo_pos (a := a) hp)
        unfold quoX at HQ
        clear hz
        go_enter Tryd.func29, Tryd.ntmps29
        go_wp2_with fail
        refine (quo44 _ _ _ (by omega) (by omega) (by omega) (by omega)).mono ?_
        rintro e w1 ⟨rfl, rfl⟩
        rw [HQ.out]
        go_wp2_with fail
        refine (fit42 _ _).mono ?_
        rintro e w2 ⟨rfl, rfl⟩
        go_wp2_with fail
        go_ret2
        exact ⟨ret_pair HR.out, rfl⟩
set_option maxHeartbeats 1000000 in
theorem floor23 (a : Int) (w : World) : Calls Tryd.prog 23 #[.int .i64 a] w fun e w' => e = .returned (.tuple #[.int .i64 (flrR a).1, .int .i64 (flrR a).2]) ∧ w = w' := by
  cases ha : vF a with
  | false =>
    have HR : Hid (flrR a = (0, 1)) := Lib.hid (by unfold flrR; rw [if_neg (by simp [ha])])
    have Va := Lib.hid ha
    clear ha
    go_enter Tryd.func23, Tryd.ntmps23
    go_wp2_with fail
    refine (valid41 a _).mono ?_
    rintro e w1 ⟨rfl, rfl⟩
    rw [Va.out]
    go_wp2_with fail
    go_ret2
    exact ⟨ret_pair HR.out, rfl⟩
  | true =>
    obtain ⟨a0, a1⟩ := vF_iff ha
    have HR : Hid (flrR a = (a / 65536, 0)) := Lib.hid (by unfold flrR; rw [if_pos ha])
    have Va := Lib.hid ha
    clear ha
    by_cases hn : 0 ≤ a
    · have hf : ¬ a < a / 65536 * 65536 := by omega
      go_enter Tryd.func23, Tryd.ntmps23
      go_wp2_with fail
      refine (valid41 a _).mono ?_
      rintro e w1 ⟨rfl, rfl⟩
      rw [Va.out]
      go_wp2_with fail
      go_ret2
      exact ⟨ret_pair HR.out, rfl⟩
    · obtain ⟨x, hx⟩ : ∃ x, a.tdiv 65536 = x := ⟨_, rfl⟩
      have hx1 : x = -((-a) / 65536) := by rw [← hx, Int.tdiv_eq_ediv, show Int.sign 65536 = 1 from rfl]; split <;> omega
      have x0 : -4194304 ≤ x := by omega
      have x1 : x ≤ 0 := by omega
      by_cases hc : a < x * 65536
      · have HX : Hid (x - 1 = a / 65536) := Lib.hid (by omega)
        clear hx1
        go_enter Tryd.func23, Tryd.ntmps23
        go_wp2_with fail
        refine (valid41 a _).mono ?_
        rintro e w1 ⟨rfl, rfl⟩
        rw [Va.out]
        go_wp2_with fail
        go_ret2
        exact ⟨ret_pair (by rw [HX.out]; exact HR.out), rfl⟩
      · have HX : Hid (x = a / 65536) := Lib.hid (by omega)
        clear hx1
        go_enter Tryd.func23, Tryd.ntmps23
        go_wp2_with fail
        refine (valid41 a _).mono ?_
        rintro e w1 ⟨rfl, rfl⟩
        rw [Va.out]
        go_wp2_with fail
        go_ret2
        exact ⟨ret_pair (by rw [HX.out]; exact HR.out), rfl⟩
set_option maxHeartbeats 1000000 in
theorem round24 (a : Int) (w : World) : Calls Tryd.prog 24 #[.int .i64 a] w fun e w' => e = .returned (.tuple #[.int .i64 (rndR a).1, .int .i64 (rndR a).2]) ∧ w = w' := by
  cases ha : vF a with
  | false =>
    have HR : Hid (rndR a = (0, 1)) := Lib.hid (by unfold rndR; rw [if_neg (by simp [ha])])
    have Va := Lib.hid ha
    clear ha
    go_enter Tryd.func24, Tryd.ntmps24
    go_wp2_with fail
    refine (valid41 a _).mono ?_
    rintro e w1 ⟨rfl, rfl⟩
    rw [Va.out]
    go_wp2_with fail
    go_ret2
    exact ⟨ret_pair HR.out, rfl⟩
  | true =>
    obtain ⟨a0, a1⟩ := vF_iff ha
    have HR : Hid (rndR a = (rndX a, 0)) := Lib.hid (by unfold rndR; rw [if_pos ha])
    have HQ : Hid ((if a < 0 then -rdN (absI a) 65536 else rdN (absI a) 65536) = rndX a) := Lib.hid (by unfold rndX; split; rw [absI_n ‹_›]; rw [absI_p (by omega)])
    have Va := Lib.hid ha
    clear ha
    go_enter Tryd.func24, Tryd.ntmps24
    go_wp2_with fail
    refine (valid41 a _).mono ?_
    rintro e w1 ⟨rfl, rfl⟩
    rw [Va.out]
    go_wp2_with fail
    refine (quo44 _ _ _ (by omega) (by omega) (by omega) (by omega)).mono ?_
    rintro e w1 ⟨rfl, rfl⟩
    rw [HQ.out]
    go_wp2_with fail
    go_ret2
    exact ⟨ret_pair HR.out, rfl⟩
set_option maxHeartbeats 1000000 in
theorem clamp25 (a b c : Int) (w : World) : Calls Tryd.prog 25 #[.int .i64 a, .int .i64 b, .int .i64 c] w fun e w' => e = .returned (.tuple #[.int .i64 (clmR a b c).1, .int .i64 (clmR a b c).2]) ∧ w = w' := by
  cases ha : vF a with
  | false =>
    have HR : Hid (clmR a b c = (0, 1)) := Lib.hid (by unfold clmR; rw [if_neg (by simp [ha])])
    have Va := Lib.hid ha
    clear ha
    go_enter Tryd.func25, Tryd.ntmps25
    go_wp2_with fail
    refine (valid41 a _).mono ?_
    rintro e w1 ⟨rfl, rfl⟩
    rw [Va.out]
    go_wp2_with fail
    go_ret2
    exact ⟨ret_pair HR.out, rfl⟩
  | true =>
    cases hb : vF b with
    | false =>
      have HR : Hid (clmR a b c = (0, 1)) := Lib.hid (by unfold clmR; rw [if_neg (by simp [hb])])
      have Va := Lib.hid ha
      have Vb := Lib.hid hb
      clear ha hb
      go_enter Tryd.func25, Tryd.ntmps25
      go_wp2_with fail
      refine (valid41 a _).mono ?_
      rintro e w1 ⟨rfl, rfl⟩
      rw [Va.out]
      go_wp2_with fail
      refine (valid41 b _).mono ?_
      rintro e w1 ⟨rfl, rfl⟩
      rw [Vb.out]
      go_wp2_with fail
      go_ret2
      exact ⟨ret_pair HR.out, rfl⟩
    | true =>
      cases hc : vF c with
      | false =>
        have HR : Hid (clmR a b c = (0, 1)) := Lib.hid (by unfold clmR; rw [if_neg (by simp [hc])])
        have Va := Lib.hid ha
        have Vb := Lib.hid hb
        have Vc := Lib.hid hc
        clear ha hb hc
        go_enter Tryd.func25, Tryd.ntmps25
        go_wp2_with fail
        refine (valid41 a _).mono ?_
        rintro e w1 ⟨rfl, rfl⟩
        rw [Va.out]
        go_wp2_with fail
        refine (valid41 b _).mono ?_
        rintro e w1 ⟨rfl, rfl⟩
        rw [Vb.out]
        go_wp2_with fail
        refine (valid41 c _).mono ?_
        rintro e w1 ⟨rfl, rfl⟩
        rw [Vc.out]
        go_wp2_with fail
        go_ret2
        exact ⟨ret_pair HR.out, rfl⟩
      | true =>
        obtain ⟨a0, a1⟩ := vF_iff ha
        obtain ⟨b0, b1⟩ := vF_iff hb
        obtain ⟨c0, c1⟩ := vF_iff hc
        have hall : [a, b, c].all vF = true := by simp [ha, hb, hc]
        have HA := Lib.hid hall
        clear hall
        have Va := Lib.hid ha
        have Vb := Lib.hid hb
        have Vc := Lib.hid hc
        clear ha hb hc
        by_cases hn : b ≤ c
        · have HR : Hid (clmR a b c = (max b (min c a), 0)) := Lib.hid (by unfold clmR; rw [if_pos HA.out, if_pos hn, clmX_eq hn, Int.min_comm])
          go_enter Tryd.func25, Tryd.ntmps25
          go_wp2_with fail
          refine (valid41 a _).mono ?_
          rintro e w1 ⟨rfl, rfl⟩
          rw [Va.out]
          go_wp2_with fail
          refine (valid41 b _).mono ?_
          rintro e w1 ⟨rfl, rfl⟩
          rw [Vb.out]
          go_wp2_with fail
          refine (valid41 c _).mono ?_
          rintro e w1 ⟨rfl, rfl⟩
          rw [Vc.out]
          go_wp2_with fail
          go_ret2
          exact ⟨ret_pair HR.out, rfl⟩
        · have HR : Hid (clmR a b c = (0, 1)) := Lib.hid (by unfold clmR; rw [if_pos HA.out, if_neg hn])
          go_enter Tryd.func25, Tryd.ntmps25
          go_wp2_with fail
          refine (valid41 a _).mono ?_
          rintro e w1 ⟨rfl, rfl⟩
          rw [Va.out]
          go_wp2_with fail
          refine (valid41 b _).mono ?_
          rintro e w1 ⟨rfl, rfl⟩
          rw [Vb.out]
          go_wp2_with fail
          refine (valid41 c _).mono ?_
          rintro e w1 ⟨rfl, rfl⟩
          rw [Vc.out]
          go_wp2_with fail
          go_ret2
          exact ⟨ret_pair HR.out, rfl⟩
set_option maxHeartbeats 1000000 in
theorem from28 (a : Int) (w : World) : Calls Tryd.prog 28 #[.int .i64 a] w fun e w' => e = .returned (.tuple #[.int .i64 (froR a).1, .int .i64 (froR a).2]) ∧ w = w' := by
  by_cases h1 : -4194304 ≤ a <;> by_cases h2 : a ≤ 4194304
  · have HR : Hid (froR a = (65536 * a, 0)) := Lib.hid (by unfold froR; rw [if_pos ⟨h1, h2⟩, Int.mul_comm])
    go_enter Tryd.func28, Tryd.ntmps28
    go_wp2_with fail
    go_ret2
    exact ⟨ret_pair HR.out, rfl⟩
  all_goals
    have HR : Hid (froR a = (0, 7)) := Lib.hid (by unfold froR; rw [if_neg (by omega)])
    go_enter Tryd.func28, Tryd.ntmps28
    go_wp2_with fail
    go_ret2
    exact ⟨ret_pair HR.out, rfl⟩
end Go.Proofs.YtmalpalepaomdaaDoor
