/- The two tests of package tau. -/
import Derived.Test.YtbonniladhablaaTaA
namespace Go.Proofs.Ytbonniladhablaa
open Go.RowKit
attribute [local go_sem ↓] Go.wp_at_zero Go.wp_at_succ
attribute [local go_sem] wrap_lit

def hz (R V T Ne : Int) : Bool := decide (R ≤ 256 * Ne ∨ (V < 0 ∧ R * R - 256 * Ne * (256 * Ne) ≤ T * R * -V))
set_option maxHeartbeats 1000000 in
theorem horizontal35 (R V N a r T Ne H Vv : Int) (w : World) (hx : okX R V N) (hl : okL T Ne H Vv) : Calls Try.prog 35 #[.agg #[.int .i64 R, .int .i64 V, .int .i64 N, .int .i64 a, .int .i64 r], .agg #[.int .i64 T, .int .i64 Ne, .int .i64 H, .int .i64 Vv]] w fun e w' => e = .returned (.bool (hz R V T Ne)) ∧ Below w.heap.size w w' := by
  obtain ⟨x1, x2, x3, x4, x5, x6⟩ := hx
  obtain ⟨l1, l2, l3, l4, l5, l6, l7, l8⟩ := hl
  have q : IntKind.i64.wrap (256 * Ne) = 256 * Ne := IntWalk.i64_in _ (by omega)
  by_cases h1 : R ≤ 256 * Ne
  · have hh : hz R V T Ne = true := decide_eq_true (.inl h1)
    rw [hh]; clear hh
    go_enter Try.func35, Try.ntmps35
    go_wp2_with fail
    go_quiet (fail)
    go_wp2_with fail
    go_ret
    exact ⟨rfl, below_drewN (((Below.refl _ _).alloc (Nat.le_refl _) _).alloc (by simp) _) _⟩
  · by_cases h2 : V < 0
    · obtain ⟨m1, m2⟩ := mul_bd (a := R) (b := R) (A := 2097152) (B := 2097152) (by omega) (by omega) (by omega) (by omega)
      obtain ⟨m3, m4⟩ := mul_bd (a := 256 * Ne) (b := 256 * Ne) (A := 262144) (B := 262144) (by omega) (by omega) (by omega) (by omega)
      obtain ⟨m5, m6⟩ := mul_bd (a := T) (b := R) (A := 120) (B := 2097152) (by omega) (by omega) (by omega) (by omega)
      obtain ⟨m7, m8⟩ := mul_bd (a := T * R) (b := -V) (A := 251658240) (B := 16384) (by omega) (by omega) (by omega) (by omega)
      have hd : hz R V T Ne = decide (R * R - 256 * Ne * (256 * Ne) ≤ T * R * -V) := by unfold hz; simp [h1, h2]
      have HD := Lib.hid hd; clear hd
      have h3 : 256 * Ne < R := by omega
      have hD : decide (R ≤ 256 * Ne) = false := by simp; omega
      have HDD := Lib.hid hD; clear hD
      clear h1
      go_enter Try.func35, Try.ntmps35
      go_wp2_with fail
      go_quiet (fail)
      go_wp2_with fail
      go_ret
      rw [HD.out]
      exact ⟨by first | exact ret_bool rfl | exact ret_bool (by simp only [HDD.out, Bool.false_or]) | exact ret_bool HDD.out, below_drewN (((Below.refl _ _).alloc (Nat.le_refl _) _).alloc (by simp) _) _⟩
    · have hh : hz R V T Ne = false := by unfold hz; simp [h1, h2]
      rw [hh]; clear hh
      have h3 : 256 * Ne < R := by omega
      have hD : decide (R ≤ 256 * Ne) = false := by simp; omega
      have HDD := Lib.hid hD; clear hD
      have h4 : 0 ≤ V := by omega
      clear h1 h2
      go_enter Try.func35, Try.ntmps35
      go_wp2_with fail
      go_quiet (fail)
      go_wp2_with fail
      go_ret
      exact ⟨by first | exact ret_bool rfl | exact ret_bool HDD.out | exact ret_bool (by simp only [HDD.out]), below_drewN (((Below.refl _ _).alloc (Nat.le_refl _) _).alloc (by simp) _) _⟩

/-- The vertical test of an altitude that is not negative. -/
def vt0 (a r H Vv : Int) : Bool := decide (a ≤ H ∨ (r < 0 ∧ a ≤ Vv * -r))
def vt (a r H Vv : Int) : Bool := if a < 0 then vt0 (-a) (-r) H Vv else vt0 a r H Vv
theorem vt0_eq (a r H Vv : Int) : vt0 a r H Vv = (if a ≤ H then true else if r < 0 then decide (a ≤ Vv * -r) else false) := by
  unfold vt0
  by_cases h1 : a ≤ H
  · simp [h1]
  · by_cases h2 : r < 0 <;> simp [h1, h2]

set_option maxHeartbeats 2000000 in
theorem vertical38 (R V N a r T Ne H Vv : Int) (w : World) (ha : okA a r) (hl : okL T Ne H Vv) : Calls Try.prog 38 #[.agg #[.int .i64 R, .int .i64 V, .int .i64 N, .int .i64 a, .int .i64 r], .agg #[.int .i64 T, .int .i64 Ne, .int .i64 H, .int .i64 Vv]] w fun e w' => e = .returned (.bool (vt a r H Vv)) ∧ Below w.heap.size w w' := by
  obtain ⟨a1, a2, a3, a4⟩ := ha
  obtain ⟨l1, l2, l3, l4, l5, l6, l7, l8⟩ := hl
  obtain ⟨m1, m2⟩ := mul_bd (a := Vv) (b := -r) (A := 120) (B := 200) (by omega) (by omega) (by omega) (by omega)
  obtain ⟨m3, m4⟩ := mul_bd (a := Vv) (b := r) (A := 120) (B := 200) (by omega) (by omega) (by omega) (by omega)
  have e1 : -Vv * r = Vv * -r := by rw [Int.neg_mul, Int.mul_neg]
  have e2 : -Vv * -r = Vv * r := by rw [Int.neg_mul, Int.mul_neg, Int.neg_neg]
  have n1 : -24000 ≤ -Vv * r := by omega
  have n2 : -Vv * r ≤ 24000 := by omega
  have n3 : -24000 ≤ -Vv * -r := by omega
  have n4 : -Vv * -r ≤ 24000 := by omega
  have E1 := Lib.hid e1; have E2 := Lib.hid e2; clear e1 e2
  by_cases h0 : a < 0
  · have hd : vt a r H Vv = (if -a ≤ H then true else if -r < 0 then decide (-a ≤ -Vv * -r) else false) := by
      unfold vt; rw [if_pos h0, vt0_eq, E2.out, Int.neg_neg]
    have HD := Lib.hid hd; clear hd
    by_cases h1 : -a ≤ H
    · have HF := Lib.hid (HD.out.trans (if_pos h1))
      go_enter Try.func38, Try.ntmps38
      go_wp2_with fail
      go_quiet (fail)
      go_wp2_with fail
      go_ret
      rw [HF.out]
      exact ⟨rfl, below_drewN (((Below.refl _ _).alloc (Nat.le_refl _) _).alloc (by simp) _) _⟩
    · by_cases h2 : -r < 0
      · have HF := Lib.hid (HD.out.trans ((if_neg h1).trans (if_pos h2)))
        have h3 : H < -a := by omega
        have hD : decide (-a ≤ H) = false := by simp; omega
        have HDD := Lib.hid hD; clear hD
        have h4 : 0 < r := by omega
        clear h1
        go_enter Try.func38, Try.ntmps38
        go_wp2_with fail
        go_quiet (fail)
        go_wp2_with fail
        go_ret
        rw [HF.out]
        exact ⟨by first | exact ret_bool rfl | exact ret_bool (by simp only [HDD.out, Bool.false_or]) | exact ret_bool HDD.out, below_drewN (((Below.refl _ _).alloc (Nat.le_refl _) _).alloc (by simp) _) _⟩
      · have HF := Lib.hid (HD.out.trans ((if_neg h1).trans (if_neg h2)))
        have h3 : H < -a := by omega
        have hD : decide (-a ≤ H) = false := by simp; omega
        have HDD := Lib.hid hD; clear hD
        have h4 : r ≤ 0 := by omega
        clear h1 h2
        go_enter Try.func38, Try.ntmps38
        go_wp2_with fail
        go_quiet (fail)
        go_wp2_with fail
        go_ret
        rw [HF.out]
        exact ⟨by first | exact ret_bool rfl | exact ret_bool HDD.out | exact ret_bool (by simp only [HDD.out]), below_drewN (((Below.refl _ _).alloc (Nat.le_refl _) _).alloc (by simp) _) _⟩
  · have hd : vt a r H Vv = (if a ≤ H then true else if r < 0 then decide (a ≤ -Vv * r) else false) := by
      unfold vt; rw [if_neg h0, vt0_eq, E1.out]
    have HD := Lib.hid hd; clear hd
    by_cases h1 : a ≤ H
    · have HF := Lib.hid (HD.out.trans (if_pos h1))
      go_enter Try.func38, Try.ntmps38
      go_wp2_with fail
      go_quiet (fail)
      go_wp2_with fail
      go_ret
      rw [HF.out]
      exact ⟨rfl, below_drewN (((Below.refl _ _).alloc (Nat.le_refl _) _).alloc (by simp) _) _⟩
    · by_cases h2 : r < 0
      · have HF := Lib.hid (HD.out.trans ((if_neg h1).trans (if_pos h2)))
        have h3 : H < a := by omega
        have hD : decide (a ≤ H) = false := by simp; omega
        have HDD := Lib.hid hD; clear hD
        clear h1
        go_enter Try.func38, Try.ntmps38
        go_wp2_with fail
        go_quiet (fail)
        go_wp2_with fail
        go_ret
        rw [HF.out]
        exact ⟨by first | exact ret_bool rfl | exact ret_bool (by simp only [HDD.out, Bool.false_or]) | exact ret_bool HDD.out, below_drewN (((Below.refl _ _).alloc (Nat.le_refl _) _).alloc (by simp) _) _⟩
      · have HF := Lib.hid (HD.out.trans ((if_neg h1).trans (if_neg h2)))
        have h3 : H < a := by omega
        have hD : decide (a ≤ H) = false := by simp; omega
        have HDD := Lib.hid hD; clear hD
        clear h1
        go_enter Try.func38, Try.ntmps38
        go_wp2_with fail
        go_quiet (fail)
        go_wp2_with fail
        go_ret
        rw [HF.out]
        exact ⟨by first | exact ret_bool rfl | exact ret_bool HDD.out | exact ret_bool (by simp only [HDD.out]), below_drewN (((Below.refl _ _).alloc (Nat.le_refl _) _).alloc (by simp) _) _⟩
end Go.Proofs.Ytbonniladhablaa
