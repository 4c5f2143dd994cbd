/- Contracts of State, Next, Back, Skip, Below and Hit of package chance, and of the reference's Step, Power, Before and Below. -/
import Derived.Test.YtfpogcdffccldaaChA
import Derived.Laws.BitsAllLaws
import Derived.Laws.BitsLemmas
namespace Go.Proofs.Ytfpogcdffccldaa
open Go.RowKit
attribute [local go_sem ↓] Go.wp_at_zero Go.wp_at_succ
attribute [local go_sem] wrap_lit

theorem state17 (g : Nat) (x : Int) (w : World) (h : Src w g x true) : Calls Try.prog 17 #[.pointer (some ⟨g, 0, none⟩)] w fun e w' => e = .returned (.tuple #[.int .i64 x, .int .i64 0]) ∧ w = w' := by
  have H := Lib.hid (check32t g x true w h)
  obtain ⟨h1, h2, h3, h4⟩ := h.cells
  clear h
  go_enter Try.func17, Try.ntmps17
  go_wp2_with (go_at_call 32; refine H.out.mono ?_; rintro e w1 ⟨rfl, rfl⟩)
  go_ret2
  exact ⟨rfl, rfl⟩
theorem state17f (g : Nat) (x : Int) (w : World) (h : Src w g x false) : Calls Try.prog 17 #[.pointer (some ⟨g, 0, none⟩)] w fun e w' => e = .returned (.tuple #[.int .i64 0, .int .i64 11]) ∧ w = w' := by
  have H := Lib.hid (check32f g x true w h)
  clear h
  go_enter Try.func17, Try.ntmps17
  go_wp2_with (go_at_call 32; refine H.out.mono ?_; rintro e w1 ⟨rfl, rfl⟩)
  go_ret2
  exact ⟨rfl, rfl⟩
theorem next12 (g : Nat) (x : Int) (w : World) (h : Src w g x true) (h0 : 0 ≤ x) (h1 : x < 2147483647) : Calls Try.prog 12 #[.pointer (some ⟨g, 0, none⟩)] w fun e w' => e = .returned (.tuple #[.int .i64 (tms x 48271), .int .i64 0]) ∧ w.setCell ⟨g, 0, none⟩ (.int .i64 (tms x 48271)) = w' := by
  have H := Lib.hid (check32t g x true w h)
  obtain ⟨k1, k2, k3, k4⟩ := h.cells
  clear h
  go_enter Try.func12, Try.ntmps12
  go_wp2_with (first | (go_at_call 32; refine H.out.mono ?_; rintro e w1 ⟨rfl, rfl⟩) | (go_at_call 34; refine (move34 g x 48271 _ k1 k3 h0 h1 (by omega) (by omega)).mono ?_; rintro e w1 ⟨rfl, rfl⟩))
  go_ret2
  exact ⟨rfl, rfl⟩
theorem next12f (g : Nat) (x : Int) (w : World) (h : Src w g x false) : Calls Try.prog 12 #[.pointer (some ⟨g, 0, none⟩)] w fun e w' => e = .returned (.tuple #[.int .i64 0, .int .i64 11]) ∧ w = w' := by
  have H := Lib.hid (check32f g x true w h)
  clear h
  go_enter Try.func12, Try.ntmps12
  go_wp2_with (go_at_call 32; refine H.out.mono ?_; rintro e w1 ⟨rfl, rfl⟩)
  go_ret2
  exact ⟨rfl, rfl⟩
theorem back19 (g : Nat) (x : Int) (w : World) (h : Src w g x true) (h0 : 0 ≤ x) (h1 : x < 2147483647) : Calls Try.prog 19 #[.pointer (some ⟨g, 0, none⟩)] w fun e w' => e = .returned (.tuple #[.int .i64 (tms x 1899818559), .int .i64 0]) ∧ w.setCell ⟨g, 0, none⟩ (.int .i64 (tms x 1899818559)) = w' := by
  have H := Lib.hid (check32t g x true w h)
  obtain ⟨k1, k2, k3, k4⟩ := h.cells
  clear h
  go_enter Try.func19, Try.ntmps19
  go_wp2_with (first | (go_at_call 32; refine H.out.mono ?_; rintro e w1 ⟨rfl, rfl⟩) | (go_at_call 34; refine (move34 g x 1899818559 _ k1 k3 h0 h1 (by omega) (by omega)).mono ?_; rintro e w1 ⟨rfl, rfl⟩))
  go_ret2
  exact ⟨rfl, rfl⟩
theorem back19f (g : Nat) (x : Int) (w : World) (h : Src w g x false) : Calls Try.prog 19 #[.pointer (some ⟨g, 0, none⟩)] w fun e w' => e = .returned (.tuple #[.int .i64 0, .int .i64 11]) ∧ w = w' := by
  have H := Lib.hid (check32f g x true w h)
  clear h
  go_enter Try.func19, Try.ntmps19
  go_wp2_with (go_at_call 32; refine H.out.mono ?_; rintro e w1 ⟨rfl, rfl⟩)
  go_ret2
  exact ⟨rfl, rfl⟩

/-! ### powers -/
def pws (x : Int) (k : Nat) : Int := x * 48271 ^ k % 2147483647
theorem pws_bd (x : Int) (k : Nat) : 0 ≤ pws x k ∧ pws x k < 2147483647 := ⟨Int.emod_nonneg _ (by omega), Int.emod_lt_of_pos _ (by omega)⟩
theorem pow_emod (a n b : Int) (k : Nat) : b * (a % n) ^ k % n = b * a ^ k % n := by
  induction k generalizing b with
  | zero => rw [Int.pow_zero, Int.pow_zero]
  | succ k ih =>
    rw [Int.pow_succ, Int.pow_succ, Int.mul_comm ((a % n) ^ k), ← Int.mul_assoc, ih, Int.mul_comm (a ^ k), ← Int.mul_assoc]
    rw [Int.mul_emod (b * (a % n)), Int.mul_emod b (a % n), Int.emod_emod, ← Int.mul_emod b a, ← Int.mul_emod]
theorem step_even (X F : Int) (K : Nat) (h : K % 2 = 0) : X * (tms F F) ^ (K / 2) % 2147483647 = X * F ^ K % 2147483647 := by
  unfold tms
  rw [pow_emod]
  have e : F ^ K = (F * F) ^ (K / 2) := by
    have : K = 2 * (K / 2) := by omega
    rw [show F ^ K = F ^ (2 * (K / 2)) by rw [← this], Int.pow_mul, show F ^ 2 = F * F by rw [Int.pow_succ, Int.pow_succ, Int.pow_zero, Int.one_mul]]
  rw [e]
theorem step_odd (X F : Int) (K : Nat) (h : K % 2 = 1) : tms X F * (tms F F) ^ (K / 2) % 2147483647 = X * F ^ K % 2147483647 := by
  have e : F ^ K = F * (F * F) ^ (K / 2) := by
    have : K = 2 * (K / 2) + 1 := by omega
    rw [show F ^ K = F ^ (2 * (K / 2) + 1) by rw [← this], Int.pow_succ, Int.pow_mul, show F ^ 2 = F * F by rw [Int.pow_succ, Int.pow_succ, Int.pow_zero, Int.one_mul], Int.mul_comm]
  unfold tms
  rw [pow_emod, emul, e, Int.mul_assoc]
theorem pws_zero (x : Int) (h0 : 0 ≤ x) (h1 : x < 2147483647) : pws x 0 = x := by
  unfold pws; rw [Int.pow_zero, Int.mul_one]; exact Int.emod_eq_of_lt h0 h1
theorem pws_succ (x : Int) (k : Nat) : pws x (k + 1) = tms (pws x k) 48271 := by
  unfold pws tms; rw [emul, Int.pow_succ, Int.mul_assoc]
theorem pws_add (x : Int) (j k : Nat) : pws (pws x j) k = pws x (j + k) := by
  unfold pws; rw [emul, Int.mul_assoc, ← Int.pow_add]

theorem ofInt_i64 (a : Nat) (ha : a < 9223372036854775808) : (BitVec.ofInt 64 (a : Int)).toNat = a := by
  rw [BitVec.ofInt_natCast, BitVec.toNat_ofNat]; exact Nat.mod_eq_of_lt (by omega)
theorem i64_and1 (a : Nat) (ha : a < 9223372036854775808) : bits .and .i64 (a : Int) 1 = ((a % 2 : Nat) : Int) := by
  have hx : a &&& 1 = a % 2 := Nat.and_one_is_mod a
  show IntKind.i64.wrap ((BitVec.ofInt 64 (a : Int) &&& BitVec.ofInt 64 ((1 : Nat) : Int)).toNat : Int) = _
  rw [BitVec.toNat_and, ofInt_i64 a ha, ofInt_i64 1 (by omega), IntKind.wrap_i64, hx]
  omega

theorem grown_set {w0 w : World} {g : Nat} (h : w0.grownBy w (some g)) (u : Value) : w0.grownBy (w.setCell ⟨g, 0, none⟩ u) (some g) :=
  ⟨h.os, h.tape, h.output, by simpa [World.setCell] using h.size, fun k hk hne => (Below.heap_setCell w ⟨g, 0, none⟩ u k (by rintro rfl; exact hne rfl)).trans (h.block k hk hne)⟩
theorem grown_refl (w : World) (r : Option Nat) : w.grownBy w r := World.grownBy.refl w _
theorem grown_trans {a b c : World} {g : Nat} (h : a.grownBy b (some g)) (k : b.grownBy c (some g)) : a.grownBy c (some g) :=
  ⟨k.os.trans h.os, k.tape.trans h.tape, k.output.trans h.output, Nat.le_trans h.size k.size, fun i hi hne => (k.block i (Nat.lt_of_lt_of_le hi h.size) hne).trans (h.block i hi hne)⟩
theorem grown_alloc {a w : World} {r : Option Nat} (h : a.grownBy w r) (o : Obj) : a.grownBy (w.alloc o) r :=
  ⟨h.os, h.tape, h.output, Nat.le_trans h.size (by simp), fun i hi hne => (Below.heap_alloc w o i (Nat.lt_of_lt_of_le hi h.size)).trans (h.block i hi hne)⟩

set_option maxHeartbeats 1000000 in
theorem skip21 (g : Nat) (x : Int) (k : Nat) (w : World) (h : Src w g x true) (h0 : 0 ≤ x) (h1 : x < 2147483647) (hk : (k : Int) ≤ 9223372036854775807) :
    Calls Try.prog 21 #[.pointer (some ⟨g, 0, none⟩), .int .i64 k] w fun e w' => e = .returned (.tuple #[.int .i64 (pws x k), .int .i64 0]) ∧ Src w' g (pws x k) true ∧ w.grownBy w' (some g) ∧ w'.heap.size = w.heap.size := by
  have H := Lib.hid (check32t g x true w h)
  go_enter Try.func21, Try.ntmps21
  go_wp2_with (go_at_call 32; refine H.out.mono ?_; rintro e w1 ⟨rfl, rfl⟩)
  clear H
  go_loopw [1, 7] (fun kk f wr => ∃ (K : Nat) (X F : Int), kk = .int .i64 K ∧ f = .int .i64 F ∧ (K : Int) ≤ 9223372036854775807 ∧ 0 ≤ X ∧ X < 2147483647 ∧ 0 ≤ F ∧ F < 2147483647 ∧ X * F ^ K % 2147483647 = pws x k ∧ Src wr g X true ∧ w.grownBy wr (some g) ∧ wr.heap.size = w.heap.size) (fun kk _ _ => (intOf kk).toNat)
  case atStart => exact ⟨k, x, 48271, rfl, rfl, hk, h0, h1, by omega, by omega, rfl, h, grown_refl _ _, rfl⟩
  case round =>
    obtain ⟨K, X, F, rfl, rfl, hK, hX0, hX1, hF0, hF1, heq, hs, hg, hz⟩ := hrel
    have HE := Lib.hid heq; have HZ := Lib.hid hz
    have HS := Lib.hid hs
    clear heq hz
    obtain ⟨k1, k2, k3, k4⟩ := hs.cells
    clear hs h
    by_cases hK0 : K = 0
    · subst hK0
      have e0 : pws x k = X := by
        rw [← HE.out, Int.pow_zero, Int.mul_one]; exact Int.emod_eq_of_lt hX0 hX1
      have HE0 := Lib.hid e0; clear e0
      go_wp2_with fail
      go_ret2
      rw [HE0.out]
      exact ⟨rfl, HS.out, hg, HZ.out⟩
    · have hKp : (0 : Int) < (K : Int) := by omega
      have hand := i64_and1 K (by omega)
      have hb := tms_bd X F
      have hb2 := tms_bd F F
      by_cases hpar : K % 2 = 1
      · rw [hpar] at hand
        have HP := Lib.hid hpar; clear hpar
        go_wp2_with (first | (go_at_call 34; refine (move34 g X F _ k1 k3 hX0 hX1 hF0 hF1).mono ?_; rintro e w1 ⟨rfl, rfl⟩) | (go_at_call 35; refine (times35 F F _ hF0 hF1 hF0 hF1).mono ?_; rintro e w1 ⟨rfl, rfl⟩))
        refine ⟨⟨K / 2, tms X F, tms F F, by go_num, rfl, by omega, hb.1, hb.2, hb2.1, hb2.2, by rw [step_odd _ _ _ HP.out]; exact HE.out, HS.out.set _, grown_set hg _, by simpa [World.setCell] using HZ.out⟩, by simp [intOf]; omega⟩
      · have hpar' : K % 2 = 0 := by omega
        rw [hpar'] at hand
        have HP := Lib.hid hpar'; clear hpar hpar'
        go_wp2_with (first | (go_at_call 35; refine (times35 F F _ hF0 hF1 hF0 hF1).mono ?_; rintro e w1 ⟨rfl, rfl⟩))
        refine ⟨⟨K / 2, X, tms F F, by go_num, rfl, by omega, hX0, hX1, hb2.1, hb2.2, by rw [step_even _ _ _ HP.out]; exact HE.out, HS.out, hg, HZ.out⟩, by simp [intOf]; omega⟩
theorem skip21f (g : Nat) (x k : Int) (w : World) (h : Src w g x false) : Calls Try.prog 21 #[.pointer (some ⟨g, 0, none⟩), .int .i64 k] w fun e w' => e = .returned (.tuple #[.int .i64 0, .int .i64 11]) ∧ w = w' := by
  by_cases hk : 0 ≤ k
  · have H := Lib.hid (check32f g x true w h)
    clear h
    go_enter Try.func21, Try.ntmps21
    go_wp2_with fail
    refine H.out.mono ?_
    rintro e w1 ⟨rfl, rfl⟩
    go_wp2_with fail
    go_ret2
    exact ⟨rfl, rfl⟩
  · have H := Lib.hid (check32f g x false w h)
    clear h
    go_enter Try.func21, Try.ntmps21
    go_wp2_with fail
    refine H.out.mono ?_
    rintro e w1 ⟨rfl, rfl⟩
    go_wp2_with fail
    go_ret2
    exact ⟨rfl, rfl⟩
theorem skip21n (g : Nat) (x k : Int) (w : World) (h : Src w g x true) (hk : k < 0) : Calls Try.prog 21 #[.pointer (some ⟨g, 0, none⟩), .int .i64 k] w fun e w' => e = .returned (.tuple #[.int .i64 0, .int .i64 1]) ∧ w = w' := by
  have H0 := check32t g x false w h
  simp only [Bool.false_eq_true, if_false] at H0
  have H := Lib.hid H0
  clear h H0
  have hd : decide (0 ≤ k) = false := by simp; omega
  go_enter Try.func21, Try.ntmps21
  go_wp2_with fail
  refine H.out.mono ?_
  rintro e w1 ⟨rfl, rfl⟩
  go_wp2_with fail
  go_ret2
  exact ⟨rfl, rfl⟩

set_option maxHeartbeats 1000000 in
theorem power22 (x : Int) (k : Nat) (w : World) (h0 : 0 ≤ x) (h1 : x < 2147483647) (hk : (k : Int) ≤ 9223372036854775807) :
    Calls Try.prog 22 #[.int .i64 x, .int .i64 k] w fun e w' => e = .returned (.int .i64 (pws x k)) ∧ w = w' := by
  go_enter Try.func22, Try.ntmps22
  go_wp2_with fail
  go_loop [0, 1, 5] (fun xx kk f => ∃ (K : Nat) (X F : Int), xx = .int .i64 X ∧ kk = .int .i64 K ∧ f = .int .i64 F ∧ (K : Int) ≤ 9223372036854775807 ∧ 0 ≤ X ∧ X < 2147483647 ∧ 0 ≤ F ∧ F < 2147483647 ∧ X * F ^ K % 2147483647 = pws x k) (fun _ kk _ => (intOf kk).toNat)
  case atStart => exact ⟨k, x, 48271, rfl, rfl, rfl, hk, h0, h1, by omega, by omega, rfl⟩
  case round =>
    obtain ⟨K, X, F, rfl, rfl, rfl, hK, hX0, hX1, hF0, hF1, heq⟩ := hrel
    have HE := Lib.hid heq
    clear heq
    by_cases hK0 : K = 0
    · subst hK0
      have e0 : pws x k = X := by
        rw [← HE.out, Int.pow_zero, Int.mul_one]; exact Int.emod_eq_of_lt hX0 hX1
      have HE0 := Lib.hid e0; clear e0
      go_wp2_with fail
      go_ret
      rw [HE0.out]
      exact ⟨rfl, rfl⟩
    · have hKp : (0 : Int) < (K : Int) := by omega
      have hb := tms_bd X F
      have hb2 := tms_bd F F
      obtain ⟨m1, m2⟩ := mul_lt hX0 hX1 hF0 hF1
      obtain ⟨m3, m4⟩ := mul_lt hF0 hF1 hF0 hF1
      by_cases hpar : K % 2 = 1
      · have hp2 : (((K : Int) % 2) == 1) = true := by rw [beq_iff_eq]; omega
        have HP := Lib.hid hpar; clear hpar
        go_wp2_with fail
        refine ⟨⟨K / 2, tms X F, tms F F, rfl, by go_num, rfl, by omega, hb.1, hb.2, hb2.1, hb2.2, by rw [step_odd _ _ _ HP.out]; exact HE.out⟩, by simp [intOf]; omega⟩
      · have hp2 : (((K : Int) % 2) == 1) = false := by rw [beq_eq_false_iff_ne]; omega
        have hpar' : K % 2 = 0 := by omega
        have HP := Lib.hid hpar'; clear hpar hpar'
        go_wp2_with fail
        refine ⟨⟨K / 2, X, tms F F, rfl, by go_num, rfl, by omega, hX0, hX1, hb2.1, hb2.2, by rw [step_even _ _ _ HP.out]; exact HE.out⟩, by simp [intOf]; omega⟩
theorem before20 (x : Int) (w : World) (h0 : 0 ≤ x) (h1 : x < 2147483647) : Calls Try.prog 20 #[.int .i64 x] w fun e w' => e = .returned (.int .i64 (pws x 2147483645)) ∧ w = w' := by
  go_enter Try.func20, Try.ntmps20
  go_wp2_with fail
  refine (power22 x 2147483645 _ h0 h1 (by omega)).mono ?_
  rintro e w1 ⟨rfl, rfl⟩
  go_wp2_with fail
  go_ret
  exact ⟨rfl, rfl⟩
theorem step18 (x : Int) (w : World) (h0 : 0 ≤ x) (h1 : x < 2147483647) : Calls Try.prog 18 #[.int .i64 x] w fun e w' => e = .returned (.int .i64 (tms x 48271)) ∧ w = w' := by
  unfold tms
  rw [Int.mul_comm]
  go_enter Try.func18, Try.ntmps18
  go_wp2
  go_ret
  exact ⟨rfl, rfl⟩
theorem good16 (x : Int) (w : World) : Calls Try.prog 16 #[.int .i64 x] w fun e w' => e = .returned (.bool (decide (1 ≤ x ∧ x < 2147483647))) ∧ w = w' := by
  by_cases h : 1 ≤ x ∧ x < 2147483647
  · obtain ⟨h1, h2⟩ := h
    go_enter Try.func16, Try.ntmps16
    go_wp2
    go_ret
    exact ⟨ret_bool (by simp [h1, h2]), rfl⟩
  · by_cases h1 : 1 ≤ x
    · have h2 : 2147483647 ≤ x := by omega
      go_enter Try.func16, Try.ntmps16
      go_wp2
      go_ret
      exact ⟨ret_bool (by simp <;> omega), rfl⟩
    · go_enter Try.func16, Try.ntmps16
      go_wp2
      go_ret
      exact ⟨ret_bool (by simp <;> omega), rfl⟩
end Go.Proofs.Ytfpogcdffccldaa
