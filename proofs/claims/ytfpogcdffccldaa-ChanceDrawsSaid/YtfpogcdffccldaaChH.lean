/- Fates of the reference of package chance. -/
import Derived.Test.YtfpogcdffccldaaChG
namespace Go.Proofs.Ytfpogcdffccldaa
open Go.RowKit
attribute [local go_sem ↓] Go.wp_at_zero Go.wp_at_succ
attribute [local go_sem] wrap_lit

section
variable (lose delay run x : Int)
/-- The losses at the end of the list are counted by the state. -/
theorem ft_trail (hd : 0 ≤ delay) (k : Nat) :
    (∀ j : Nat, (j : Int) < ftC lose delay run x k → nth (ftL lose delay run x k) (k - 1 - j) = -1) ∧
    (ftC lose delay run x k = k ∨ ((ftC lose delay run x k).toNat < k ∧ nth (ftL lose delay run x k) (k - 1 - (ftC lose delay run x k).toNat) ≠ -1)) := by
  induction k with
  | zero => exact ⟨fun j hj => absurd hj (by show ¬ (j : Int) < 0; omega), .inl rfl⟩
  | succ k ih =>
    obtain ⟨i1, i2⟩ := ih
    have hlen := ft_len lose delay run x k
    have hc := ft_cbd lose delay run x k
    have hd2 := drw_bd (tms (ftX lose delay run x k) 48271) (delay + 1) (by omega)
    by_cases h : drw (ftX lose delay run x k) 100 < lose ∧ ftC lose delay run x k < run
    · obtain ⟨e1, _, e3⟩ := ft_hit lose delay run x k h
      rw [e1, e3]
      refine ⟨fun j hj => ?_, ?_⟩
      · by_cases hj0 : j = 0
        · subst hj0
          rw [nth_app_right _ _ _ (by omega), hlen, show k + 1 - 1 - 0 - k = 0 by omega]; rfl
        · rw [nth_app_left _ _ _ (by omega), show k + 1 - 1 - j = k - 1 - (j - 1) by omega]
          exact i1 (j - 1) (by omega)
      · rcases i2 with i2 | ⟨i2, i3⟩
        · exact .inl (by omega)
        · refine .inr ⟨by omega, ?_⟩
          rw [nth_app_left _ _ _ (by omega), show k + 1 - 1 - (ftC lose delay run x k + 1).toNat = k - 1 - (ftC lose delay run x k).toNat by omega]
          exact i3
    · obtain ⟨e1, _, e3⟩ := ft_miss lose delay run x k h
      rw [e1, e3]
      refine ⟨fun j hj => absurd hj (by omega), .inr ⟨by omega, ?_⟩⟩
      rw [nth_app_right _ _ _ (by omega), hlen, show k + 1 - 1 - (0 : Int).toNat - k = 0 by simp]
      show drw (tms (ftX lose delay run x k) 48271) (delay + 1) ≠ -1
      omega
theorem trail_uniq (hd : 0 ≤ delay) (k q : Nat) (hq : q ≤ k) (h1 : ∀ j, j < q → nth (ftL lose delay run x k) (k - 1 - j) = -1) (h2 : q = k ∨ nth (ftL lose delay run x k) (k - 1 - q) ≠ -1) : ftC lose delay run x k = q := by
  obtain ⟨t1, t2⟩ := ft_trail lose delay run x hd k
  have hc := ft_cbd lose delay run x k
  rcases Nat.lt_trichotomy (ftC lose delay run x k).toNat q with h | h | h
  · have := h1 _ h
    rcases t2 with t2 | ⟨_, t2⟩
    · omega
    · exact absurd this t2
  · omega
  · have := t1 q (by omega)
    rcases h2 with h2 | h2
    · omega
    · exact absurd this h2
end

set_option maxHeartbeats 4000000 in
theorem refFates30 (x : Int) (n : Nat) (lose delay run : Int) (w : World) (h0 : 1 ≤ x) (h1 : x < 2147483647) (hn : n ≤ 256) (d0 : 0 ≤ delay) (d1 : delay ≤ 8) :
    Calls Try.prog 30 #[.int .i64 x, .int .i64 n, .int .i64 lose, .int .i64 delay, .int .i64 run] w fun e w' => ∃ A cap, e = .returned (.tuple #[.slice A n cap, .int .i64 (ftX lose delay run x n)]) ∧ Own .i64 w' w.heap.size A 3 (ftL lose delay run x n) ∧ Below w.heap.size w w' := by
  obtain ⟨i0, hi0, hz0, hz1, hz2⟩ := info_parts int_info
  go_enter Try.func30, Try.ntmps30
  go_wp2_with fail
  go_loopw [0, 12, 13] (fun xx v i wr => ∃ k : Nat, k ≤ n ∧ xx = .int .i64 (ftX lose delay run x k) ∧ i = .int .i64 k ∧ Acc .i64 wr w.heap.size 3 1 v k (ftL lose delay run x k) ∧ Below w.heap.size w wr) (fun _ _ i _ => n - (intOf i).toNat)
  case atStart => exact ⟨0, Nat.zero_le _, rfl, rfl, Acc.nil _ _ _ _ _, Below.refl _ _⟩
  case round =>
    obtain ⟨k, hk, rfl, rfl, hacc, hb⟩ := hrel
    by_cases hlt : k < n
    · obtain ⟨x0, x1⟩ := ft_xbd lose delay run x h0 h1 k
      have hp1 := tms_pos _ x0 x1
      have hp2 := (tms_bd (ftX lose delay run x k) 48271).2
      have HH := Lib.hid (ft_hit lose delay run x k); have HM := Lib.hid (ft_miss lose delay run x k)
      have HU := Lib.hid (trail_uniq lose delay run x d0 k)
      have hcb := ft_cbd lose delay run x k
      have HCB := Lib.hid hcb; clear hcb
      have hrow : 0 < k → ∃ g cap, u12 = .slice (some ⟨g, 0, none⟩) k cap ∧ w.heap.size ≤ g ∧ Row wr g (ftL lose delay run x k) := fun hk0 => hacc.row hk0
      have HROW := Lib.hid hrow; clear hrow
      have HACC := Lib.hid hacc
      have hvv : ∃ A cap, u12 = .slice A k cap := by obtain ⟨A, cap, e, _⟩ := hacc.own; exact ⟨A, cap, e⟩
      obtain ⟨A, cap, rfl⟩ := hvv
      clear hacc
      have HLN := Lib.hid (ft_len lose delay run x k)
      generalize hX : ftX lose delay run x k = X at *
      have HX := Lib.hid hX; clear hX
      have hlI : (k : Int) < (n : Int) := by omega
      go_wp2_with fail
      refine (refBelow25 X 100 _ x0 x1 (by omega) (by omega)).mono ?_
      rintro e w1 ⟨rfl, rfl⟩
      go_wp2_with fail
      refine (refBelow25 (tms X 48271) (delay + 1) _ hp1 hp2 (by omega) (by omega)).mono ?_
      rintro e w1 ⟨rfl, rfl⟩
      go_wp2_with fail
      go_loop [16] (fun lo => ∃ q : Nat, q ≤ k ∧ lo = .int .i64 q ∧ ∀ j, j < q → nth (ftL lose delay run x k) (k - 1 - j) = -1) (fun lo => k - (intOf lo).toNat)
      case atStart => exact ⟨0, Nat.zero_le _, rfl, fun j h => absurd h (by omega)⟩
      case round =>
        obtain ⟨q, hq, rfl, hall⟩ := hrel
        have Hall := Lib.hid hall; clear hall
        by_cases hqk : q < k
        · obtain ⟨g, cap', hsl, hgb, hrw⟩ := HROW.out (by omega)
          obtain ⟨c0, p0⟩ := hrw.cell (j := k - 1 - q) (by rw [HLN.out]; omega)
          obtain ⟨rfl, -, rfl⟩ : A = some ⟨g, 0, none⟩ ∧ k = k ∧ cap = cap' := by simpa using hsl
          clear hrw hsl
          have hi0' : (0 : Int) ≤ (k : Int) - 1 - (q : Int) := by omega
          have hi1' : (k : Int) - 1 - (q : Int) < (k : Int) := by omega
          have hqI : (q : Int) < (k : Int) := by omega
          by_cases he : nth (ftL lose delay run x k) (k - 1 - q) = -1
          · rw [he] at c0
            have HE := Lib.hid he; clear he
            go_wp2_with fail
            refine ⟨⟨q + 1, by omega, by go_num, fun j hj => ?_⟩, by simp [intOf]; omega⟩
            by_cases e : j = q
            · rw [e]; exact HE.out
            · exact Hall.out j (by omega)
          · have heb : (nth (ftL lose delay run x k) (k - 1 - q) == -1) = false := by simp [he]
            have hQ := HU.out q hq Hall.out (.inr he)
            clear he
            have HQ := Lib.hid hQ; clear hQ
            have hq256 : (q : Int) ≤ 256 := by omega
            by_cases ha : drw X 100 < lose
            · by_cases hbb : (q : Int) < run
              · have hf := HH.out ⟨ha, by rw [HQ.out]; exact hbb⟩
                have HF := Lib.hid hf; clear hf
                go_wp2_with (at_builtin; refine wpList_app rfl _ _ 25 rfl .i64 w.heap.size 3 i0 _ 1 8 Try.underlying25 hi0 hz0 hz1 hz2 rfl (by decide) _ _ _ [-1] rfl HACC.out _ rfl rfl rfl (by omega) (by decide) hb.size ?_; intro v' w4 hown1 hb4)
                exact ⟨⟨k + 1, by omega, by rw [HF.out.2.1], by go_num, by rw [HF.out.1]; exact hown1, hb.trans hb4⟩, by simp [intOf]; omega⟩
              · have hf := HM.out (fun h => hbb (by rw [← HQ.out]; exact h.2))
                have HF := Lib.hid hf; clear hf
                go_wp2_with (at_builtin; refine wpList_app rfl _ _ 25 rfl .i64 w.heap.size 3 i0 _ 1 8 Try.underlying25 hi0 hz0 hz1 hz2 rfl (by decide) _ _ _ [drw (tms X 48271) (delay + 1)] rfl HACC.out _ rfl rfl rfl (by omega) (by decide) hb.size ?_; intro v' w4 hown1 hb4)
                exact ⟨⟨k + 1, by omega, by rw [HF.out.2.1], by go_num, by rw [HF.out.1]; exact hown1, hb.trans hb4⟩, by simp [intOf]; omega⟩
            · have hf := HM.out (fun h => ha h.1)
              have HF := Lib.hid hf; clear hf
              go_wp2_with (at_builtin; refine wpList_app rfl _ _ 25 rfl .i64 w.heap.size 3 i0 _ 1 8 Try.underlying25 hi0 hz0 hz1 hz2 rfl (by decide) _ _ _ [drw (tms X 48271) (delay + 1)] rfl HACC.out _ rfl rfl rfl (by omega) (by decide) hb.size ?_; intro v' w4 hown1 hb4)
              exact ⟨⟨k + 1, by omega, by rw [HF.out.2.1], by go_num, by rw [HF.out.1]; exact hown1, hb.trans hb4⟩, by simp [intOf]; omega⟩
        · obtain rfl : q = k := by omega
          have hQ := HU.out q hq Hall.out (.inl rfl)
          have HQ := Lib.hid hQ; clear hQ
          have hq256 : (q : Int) ≤ 256 := by omega
          by_cases ha : drw X 100 < lose
          · by_cases hbb : (q : Int) < run
            · have hf := HH.out ⟨ha, by rw [HQ.out]; exact hbb⟩
              have HF := Lib.hid hf; clear hf
              go_wp2_with (at_builtin; refine wpList_app rfl _ _ 25 rfl .i64 w.heap.size 3 i0 _ 1 8 Try.underlying25 hi0 hz0 hz1 hz2 rfl (by decide) _ _ _ [-1] rfl HACC.out _ rfl rfl rfl (by omega) (by decide) hb.size ?_; intro v' w4 hown1 hb4)
              exact ⟨⟨q + 1, by omega, by rw [HF.out.2.1], by go_num, by rw [HF.out.1]; exact hown1, hb.trans hb4⟩, by simp [intOf]; omega⟩
            · have hf := HM.out (fun h => hbb (by rw [← HQ.out]; exact h.2))
              have HF := Lib.hid hf; clear hf
              go_wp2_with (at_builtin; refine wpList_app rfl _ _ 25 rfl .i64 w.heap.size 3 i0 _ 1 8 Try.underlying25 hi0 hz0 hz1 hz2 rfl (by decide) _ _ _ [drw (tms X 48271) (delay + 1)] rfl HACC.out _ rfl rfl rfl (by omega) (by decide) hb.size ?_; intro v' w4 hown1 hb4)
              exact ⟨⟨q + 1, by omega, by rw [HF.out.2.1], by go_num, by rw [HF.out.1]; exact hown1, hb.trans hb4⟩, by simp [intOf]; omega⟩
          · have hf := HM.out (fun h => ha h.1)
            have HF := Lib.hid hf; clear hf
            go_wp2_with (at_builtin; refine wpList_app rfl _ _ 25 rfl .i64 w.heap.size 3 i0 _ 1 8 Try.underlying25 hi0 hz0 hz1 hz2 rfl (by decide) _ _ _ [drw (tms X 48271) (delay + 1)] rfl HACC.out _ rfl rfl rfl (by omega) (by decide) hb.size ?_; intro v' w4 hown1 hb4)
            exact ⟨⟨q + 1, by omega, by rw [HF.out.2.1], by go_num, by rw [HF.out.1]; exact hown1, hb.trans hb4⟩, by simp [intOf]; omega⟩
    · obtain rfl : k = n := by omega
      go_wp2_with fail
      go_ret2
      obtain ⟨A, cap, rfl, ho⟩ := hacc.own
      exact ⟨A, cap, rfl, ho, hb⟩
end Go.Proofs.Ytfpogcdffccldaa
