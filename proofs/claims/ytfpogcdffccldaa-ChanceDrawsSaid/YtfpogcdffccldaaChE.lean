/- Shuffle of package chance, its errors; Shuffle of the reference. -/
import Derived.Test.YtfpogcdffccldaaChD
namespace Go.Proofs.Ytfpogcdffccldaa
open Go.RowKit
attribute [local go_sem ↓] Go.wp_at_zero Go.wp_at_succ
attribute [local go_sem] wrap_lit

theorem shuffle11e (g : Nat) (x n : Int) (w : World) (h : Src w g x true) (hn : ¬ (0 ≤ n ∧ n ≤ 256)) :
    Calls Try.prog 11 #[.pointer (some ⟨g, 0, none⟩), .int .i64 n] w fun e w' => e = .returned (.tuple #[.slice none 0 0, .int .i64 1]) ∧ w = w' := by
  have H0 := check32t g x false w h
  simp only [Bool.false_eq_true, if_false] at H0
  have H := Lib.hid H0
  clear H0 h
  have hd : decide (0 ≤ n) = false ∨ (0 ≤ n ∧ decide (n ≤ 256) = false) := by simp only [decide_eq_false_iff_not]; omega
  clear hn
  rcases hd with d | ⟨d0, d⟩
  all_goals
    go_enter Try.func11, Try.ntmps11
    go_wp2_with fail
    refine H.out.mono ?_
    rintro e w1 ⟨rfl, rfl⟩
    go_wp2_with fail
    go_ret2
    exact ⟨rfl, rfl⟩
theorem shuffle11f (g : Nat) (x n : Int) (w : World) (h : Src w g x false) :
    Calls Try.prog 11 #[.pointer (some ⟨g, 0, none⟩), .int .i64 n] w fun e w' => e = .returned (.tuple #[.slice none 0 0, .int .i64 11]) ∧ w = w' := by
  have H := Lib.hid (fun r => check32f g x r w h)
  clear h
  have hd : (decide (0 ≤ n) = false ∨ (0 ≤ n ∧ decide (n ≤ 256) = false)) ∨ (0 ≤ n ∧ n ≤ 256) := by simp only [decide_eq_false_iff_not]; omega
  rcases hd with (d | ⟨d0, d⟩) | ⟨d0, d⟩
  · go_enter Try.func11, Try.ntmps11
    go_wp2_with fail
    refine (H.out false).mono ?_
    rintro e w1 ⟨rfl, rfl⟩
    go_wp2_with fail
    go_ret2
    exact ⟨rfl, rfl⟩
  · go_enter Try.func11, Try.ntmps11
    go_wp2_with fail
    refine (H.out false).mono ?_
    rintro e w1 ⟨rfl, rfl⟩
    go_wp2_with fail
    go_ret2
    exact ⟨rfl, rfl⟩
  · go_enter Try.func11, Try.ntmps11
    go_wp2_with fail
    refine (H.out true).mono ?_
    rintro e w1 ⟨rfl, rfl⟩
    go_wp2_with fail
    go_ret2
    exact ⟨rfl, rfl⟩

theorem Acc.row {w : World} {base : Nat} {v : Value} {n : Nat} {ys : List Int} (h : Acc .i64 w base 3 1 v n ys) (hn : 0 < n) : ∃ g cap, v = .slice (some ⟨g, 0, none⟩) n cap ∧ base ≤ g ∧ Row w g ys := by
  have hl := h.len
  obtain ⟨A, cap, rfl, ho⟩ := h.own
  obtain ⟨g, cs, rfl, hb, hh, hc⟩ := ho (by omega)
  refine ⟨g, cap, rfl, hb, cs, hh, ?_, hc⟩
  have := (Array.getElem?_eq_some_iff.1 (hc (ys.length - 1) (by omega))).1
  omega

set_option maxHeartbeats 1000000 in
theorem refShuffle27 (x : Int) (n : Nat) (w : World) (h0 : 1 ≤ x) (h1 : x < 2147483647) (hn : n ≤ 256) :
    Calls Try.prog 27 #[.int .i64 x, .int .i64 n] w fun e w' => ∃ A cap, e = .returned (.tuple #[.slice A n cap, .int .i64 (shuf n x).2]) ∧ Own .i64 w' w.heap.size A 3 (shuf n x).1 ∧ Below w.heap.size w w' := by
  obtain ⟨i0, hi0, hz0, hz1, hz2⟩ := info_parts int_info
  go_enter Try.func27, Try.ntmps27
  go_wp2_with fail
  go_loopw [6, 7] (fun v i wr => ∃ k : Nat, k ≤ n ∧ i = .int .i64 k ∧ Acc .i64 wr w.heap.size 3 1 v k (rng k) ∧ Below w.heap.size w wr) (fun _ i _ => n - (intOf i).toNat)
  case atStart => exact ⟨0, Nat.zero_le _, rfl, Acc.nil _ _ _ _ _, Below.refl _ _⟩
  case round =>
    obtain ⟨k, hk, rfl, hown, hb⟩ := hrel
    by_cases hlt : k < n
    · have hlI : (k : Int) < (n : Int) := by omega
      go_wp2_with (at_builtin; refine wpList_app rfl _ _ 25 rfl .i64 w.heap.size 3 i0 _ 1 8 Try.underlying25 hi0 hz0 hz1 hz2 rfl (by decide) _ _ _ [(k : Int)] rfl hown _ rfl rfl rfl (by omega) (by decide) hb.size ?_; intro v' w1 hown1 hb1)
      exact ⟨⟨k + 1, by omega, by go_num, by rw [rng_succ]; exact hown1, hb.trans hb1⟩, by simp [intOf]; omega⟩
    · obtain rfl : k = n := by omega
      by_cases hk1 : k ≤ 1
      · have hst : shuf k x = (rng k, x) := by unfold shuf; rw [show k - 1 = 0 by omega]; rfl
        have HST := Lib.hid hst; clear hst
        go_wp2_with fail
        refine wp_loop_rounds 1 ?_
        rw [rounds_succ]
        go_wp2_with fail
        go_ret2
        rw [HST.out]
        obtain ⟨A, cap, rfl, ho⟩ := hown.own
        exact ⟨A, cap, rfl, ho, hb⟩
      · obtain ⟨g, cap, rfl, hbg, hrow⟩ := hown.row (by omega)
        clear hown
        have HR := Lib.hid hrow; clear hrow
        have hke : (k : Int) - 1 = ((k - 1 : Nat) : Int) := by omega
        go_wp2_with fail
        clear hke
        go_loopw [0, 8] (fun xx i wr => ∃ (m : Nat) (L : List Int) (X : Int), m < k ∧ xx = .int .i64 X ∧ i = .int .i64 m ∧ L.length = k ∧ shGo m L X = shuf k x ∧ 1 ≤ X ∧ X < 2147483647 ∧ Row wr g L ∧ Below w.heap.size w wr) (fun _ i _ => (intOf i).toNat)
        case atStart => exact ⟨k - 1, rng k, x, by omega, rfl, rfl, rng_len k, rfl, h0, h1, HR.out, hb⟩
        case round =>
          obtain ⟨m, L, X, hm, rfl, rfl, hL, hsh, hX0, hX1, hrow, hbw⟩ := hrel
          by_cases hm0 : m = 0
          · subst hm0
            have he : shuf k x = (L, X) := hsh.symm
            have HE := Lib.hid he
            have HR2 := Lib.hid hrow
            clear hrow he hsh
            go_wp2_with fail
            go_ret2
            rw [HE.out]
            exact ⟨_, _, rfl, HR2.out.own hbg, hbw⟩
          · have hd := drw_bd X (m + 1) (by omega)
            obtain ⟨j, hj⟩ := Int.eq_ofNat_of_zero_le hd.1
            have hjm : j ≤ m := by omega
            obtain ⟨m', rfl⟩ : ∃ m', m = m' + 1 := ⟨m - 1, by omega⟩
            have hsh' : shGo m' (swapL L (m' + 1) j) (tms X 48271) = shuf k x := by
              rw [← hsh, shGo]
              have : drw X (m' + 2) = (j : Int) := by rw [← hj]; congr 1
              rw [this]; rfl
            have HD := refBelow25 X ((m' : Int) + 1 + 1) wr hX0 hX1 (by omega) (by omega)
            rw [show drw X ((m' : Int) + 1 + 1) = (j : Int) by rw [← hj]; congr 1] at HD
            obtain ⟨c0, p0⟩ := hrow.cell (j := m' + 1) (by omega)
            obtain ⟨c1, p1⟩ := hrow.cell (j := j) (by omega)
            have HR2 := Lib.hid hrow; have HSH := Lib.hid hsh'; have HL2 := Lib.hid hL; have HDD := Lib.hid HD
            clear hrow hsh hsh' hL hj hd HD
            have hj0 : (0 : Int) ≤ (j : Int) := by omega
            have hj1 : (j : Int) < (k : Int) := by omega
            have hm1 : (m' : Int) + 1 < (k : Int) := by omega
            go_wp2_with fail
            refine HDD.out.mono ?_
            rintro e w1 ⟨rfl, rfl⟩
            go_wp2_with fail
            by_cases hne : j = m' + 1
            · subst hne
              go_region
              all_goals go_wp2_with fail
              refine ⟨⟨m', swapL L (m' + 1) (m' + 1), tms X 48271, by omega, rfl, rfl, by rw [swapL_len]; exact HL2.out, HSH.out, tms_pos X hX0 hX1, (tms_bd X _).2, ?_, ((hbw.setCell hbg _).setCell hbg _).drew⟩, by simp [intOf]⟩
              exact (HR2.out.set (by rw [HL2.out]; omega) _).set (by rw [List.length_set, HL2.out]; omega) _
            · go_region
              all_goals go_wp2_with fail
              refine ⟨⟨m', swapL L (m' + 1) j, tms X 48271, by omega, rfl, rfl, by rw [swapL_len]; exact HL2.out, HSH.out, tms_pos X hX0 hX1, (tms_bd X _).2, ?_, ((hbw.setCell hbg _).setCell hbg _).drew⟩, by simp [intOf]⟩
              exact (HR2.out.set (by rw [HL2.out]; omega) _).set (by rw [List.length_set, HL2.out]; omega) _
end Go.Proofs.Ytfpogcdffccldaa
