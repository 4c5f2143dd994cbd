/- clearwaykit.EqualInts. -/
import Derived.Test.YtkikokldijccnaaGreatDoorK2
namespace Go.Proofs.YtkikokldijccnaaGreatDoor
open Go.RowKit
attribute [local go_sem ↓] Go.wp_at_zero Go.wp_at_succ
attribute [local go_sem] wrap_lit

theorem nth_ne {xs ys : List Int} {k : Nat} (h : nth xs k ≠ nth ys k) : xs ≠ ys := fun e => h (by rw [e])

set_option maxHeartbeats 1000000 in
theorem equalInts (A A' : Option Addr) (cap cap' : Nat) (xs ys : List Int) (B : Nat) (w : World) (hA : Is .i64 w B A xs) (hA' : Is .i64 w B A' ys) (hl : xs.length ≤ 1000000) :
    Calls Tryz.prog 14 #[.slice A xs.length cap, .slice A' ys.length cap'] w fun e w' => e = .returned (.bool (decide (xs = ys))) ∧ ∃ n, w.drewN n = w' := by
  by_cases hlen : xs.length = ys.length
  · have hlb : ((xs.length : Int) != (ys.length : Int)) = false := by simp [hlen]
    go_enter Tryz.func14, Tryz.ntmps14
    go_wp2_with fail
    go_loopw [5] (fun i wr => ∃ k n : Nat, k ≤ xs.length ∧ i = .int .i64 k ∧ (∀ j, j < k → nth xs j = nth ys j) ∧ wr = w.drewN n) (fun i _ => xs.length - (intOf i).toNat)
    case atStart => exact ⟨0, 0, Nat.zero_le _, rfl, fun j h => absurd h (by omega), rfl⟩
    case round =>
      obtain ⟨k, n, hk, rfl, hall, rfl⟩ := hrel
      have Hall := Lib.hid hall; clear hall
      by_cases hlt : k < xs.length
      · obtain ⟨b, off, rfl, hbb, hc⟩ := hA (by omega)
        obtain ⟨b', off', rfl, hbb', hc'⟩ := hA' (by omega)
        have hcell := hc k hlt
        have hcell' := hc' k (by omega)
        clear hc hc' hA hA'
        have Hlen := Lib.hid hlen; clear hlen
        have h1 : (0 : Int) ≤ (k : Int) := by omega
        have h2 : (k : Int) < (xs.length : Int) := by omega
        have h3 : (k : Int) < (ys.length : Int) := by have := Hlen.out; omega
        by_cases he : nth xs k = nth ys k
        · have heb : (nth xs k != nth ys k) = false := by simp [he]
          have He := Lib.hid he; clear he
          go_wp2_with fail
          go_quiet (fail)
          go_wp2_with fail
          refine ⟨⟨k + 1, n + nq, by omega, by go_num, fun j hj => ?_, rfl⟩, by simp [intOf]; omega⟩
          by_cases hjk : j = k
          · rw [hjk]; exact He.out
          · exact Hall.out j (by omega)
        · have heb : (nth xs k != nth ys k) = true := by simp [he]
          go_wp2_with fail
          go_quiet (fail)
          go_wp2_with fail
          go_ret
          exact ⟨ret_bool (by simp [nth_ne he]), ⟨n + nq, by rw [World.drewN_drewN]⟩⟩
      · obtain rfl : k = xs.length := by omega
        have hxy : decide (xs = ys) = true := by simpa using nth_ext hlen Hall.out
        have Hxy := Lib.hid hxy; clear hxy hlen
        go_wp2_with fail
        go_ret
        exact ⟨ret_bool Hxy.out.symm, ⟨n, rfl⟩⟩
  · have hlb : ((xs.length : Int) != (ys.length : Int)) = true := by simp; omega
    have hne : xs ≠ ys := fun e => hlen (by rw [e])
    go_enter Tryz.func14, Tryz.ntmps14
    go_wp2_with fail
    go_ret
    exact ⟨ret_bool (by simp [hne]), ⟨0, rfl⟩⟩

end Go.Proofs.YtkikokldijccnaaGreatDoor
