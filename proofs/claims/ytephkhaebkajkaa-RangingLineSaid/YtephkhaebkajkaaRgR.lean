/- clearwaykit.CopyInts and EqualInts, and the law's equal. -/
import Derived.Test.YtephkhaebkajkaaK
namespace Go.Proofs.Ytephkhaebkajkaa
open Go.RowKit
attribute [local go_sem ↓] Go.wp_at_zero Go.wp_at_succ
attribute [local go_sem] wrap_lit

set_option maxHeartbeats 1000000 in
theorem copyInts (A : Option Addr) (cap : Nat) (xs : List Int) (w : World) (hA : Is .i64 w w.heap.size A xs) (hl : xs.length ≤ 1000000) :
    Calls Try.prog 20 #[.slice A xs.length cap] w fun e w' => ∃ v, e = .returned v ∧ Acc .i64 w' w.heap.size 3 1 v xs.length xs ∧ Below w.heap.size w w' := by
  obtain ⟨i0, hi0, hz0, hz1, hz2⟩ := info_parts int_info
  go_enter Try.func20, Try.ntmps20
  go_wp2_with fail
  go_loopw [3, 4] (fun v i wr => ∃ k : Nat, k ≤ xs.length ∧ i = .int .i64 k ∧ Acc .i64 wr w.heap.size 3 1 v k (xs.take k) ∧ Below w.heap.size w wr) (fun _ i _ => xs.length - (intOf i).toNat)
  case atStart => exact ⟨0, Nat.zero_le _, rfl, Acc.nil _ _ _ _ _, Below.refl _ _⟩
  case round =>
    obtain ⟨k, hk, rfl, hown, hb⟩ := hrel
    by_cases hlt : k < xs.length
    · obtain ⟨b, off, rfl, hbb, hc⟩ := hA (by omega)
      have hcell : wr.cell? ⟨b, off + k, none⟩ = some (.int .i64 (nth xs k)) := (hb.cell (p := ⟨b, off + k, none⟩) hbb).trans (hc k hlt)
      clear hc
      have hlI : (k : Int) < (xs.length : Int) := by omega
      go_wp2_with (at_builtin; refine wpList_app rfl _ _ 36 rfl .i64 w.heap.size 3 i0 _ 1 8 Try.underlying36 hi0 hz0 hz1 hz2 rfl (by decide) _ _ _ [nth xs k] rfl hown _ rfl rfl rfl (by omega) (by decide) hb.size ?_; intro v' w1 hown1 hb1)
      exact ⟨⟨k + 1, by omega, by go_num, by rw [take_nth _ _ hlt]; exact hown1, hb.trans hb1⟩, by simp [intOf]; omega⟩
    · obtain rfl : k = xs.length := by omega
      rw [List.take_length] at hown
      go_wp2_with fail
      go_ret
      exact ⟨_, rfl, hown, hb⟩

theorem nth_ne {xs ys : List Int} {k : Nat} (h : nth xs k ≠ nth ys k) : xs ≠ ys := fun e => h (by rw [e])

set_option maxHeartbeats 1000000 in
theorem equalInts (A A' : Option Addr) (cap cap' : Nat) (xs ys : List Int) (B : Nat) (w : World) (hA : Is .i64 w B A xs) (hA' : Is .i64 w B A' ys) (hl : xs.length ≤ 1000000) :
    Calls Try.prog 24 #[.slice A xs.length cap, .slice A' ys.length cap'] w fun e w' => e = .returned (.bool (decide (xs = ys))) ∧ ∃ n, w.drewN n = w' := by
  by_cases hlen : xs.length = ys.length
  · have hlb : ((xs.length : Int) != (ys.length : Int)) = false := by simp [hlen]
    go_enter Try.func24, Try.ntmps24
    go_wp2_with fail
    go_loopw [5] (fun i wr => ∃ k n : Nat, k ≤ xs.length ∧ i = .int .i64 k ∧ (∀ j, j < k → nth xs j = nth ys j) ∧ wr = w.drewN n) (fun i _ => xs.length - (intOf i).toNat)
    case atStart => exact ⟨0, 0, Nat.zero_le _, rfl, fun j h => absurd h (by omega), rfl⟩
    case round =>
      obtain ⟨k, n, hk, rfl, hall, rfl⟩ := hrel
      have Hall := Lib.hid hall; clear hall
      by_cases hlt : k < xs.length
      · obtain ⟨b, off, rfl, hbb, hc⟩ := hA (by omega)
        obtain ⟨b', off', rfl, hbb', hc'⟩ := hA' (by omega)
        have hcell := hc k hlt
        have hcell' := hc' k (by omega)
        clear hc hc' hA hA'
        have Hlen := Lib.hid hlen; clear hlen
        have h1 : (0 : Int) ≤ (k : Int) := by omega
        have h2 : (k : Int) < (xs.length : Int) := by omega
        have h3 : (k : Int) < (ys.length : Int) := by have := Hlen.out; omega
        by_cases he : nth xs k = nth ys k
        · have heb : (nth xs k != nth ys k) = false := by simp [he]
          have He := Lib.hid he; clear he
          go_wp2_with fail
          go_quiet (fail)
          go_wp2_with fail
          refine ⟨⟨k + 1, n + nq, by omega, by go_num, fun j hj => ?_, rfl⟩, by simp [intOf]; omega⟩
          by_cases hjk : j = k
          · rw [hjk]; exact He.out
          · exact Hall.out j (by omega)
        · have heb : (nth xs k != nth ys k) = true := by simp [he]
          go_wp2_with fail
          go_quiet (fail)
          go_wp2_with fail
          go_ret
          exact ⟨ret_bool (by simp [nth_ne he]), ⟨n + nq, by rw [World.drewN_drewN]⟩⟩
      · obtain rfl : k = xs.length := by omega
        have hxy : decide (xs = ys) = true := by simpa using nth_ext hlen Hall.out
        have Hxy := Lib.hid hxy; clear hxy hlen
        go_wp2_with fail
        go_ret
        exact ⟨ret_bool Hxy.out.symm, ⟨n, rfl⟩⟩
  · have hlb : ((xs.length : Int) != (ys.length : Int)) = true := by simp; omega
    have hne : xs ≠ ys := fun e => hlen (by rw [e])
    go_enter Try.func24, Try.ntmps24
    go_wp2_with fail
    go_ret
    exact ⟨ret_bool (by simp [hne]), ⟨0, rfl⟩⟩
theorem nth_ext3 {xs ys : List Int} {n : Nat} (hx : xs.length = 3 * n) (hy : ys.length = 3 * n) (h : ∀ j, j < n → nth xs (j * 3) = nth ys (j * 3) ∧ nth xs (j * 3 + 1) = nth ys (j * 3 + 1) ∧ nth xs (j * 3 + 2) = nth ys (j * 3 + 2)) : xs = ys :=
  nth_ext (by omega) fun j hj => by
    obtain ⟨h0, h1, h2⟩ := h (j / 3) (by omega)
    rcases (by omega : j = j / 3 * 3 ∨ j = j / 3 * 3 + 1 ∨ j = j / 3 * 3 + 2) with e | e | e <;> (rw [e]; assumption)

set_option maxHeartbeats 1000000 in
theorem equal23 (A A' : Option Addr) (cap cap' n n' : Nat) (xs ys : List Int) (B : Nat) (w : World) (hA : Is .i64 w B A xs) (hA' : Is .i64 w B A' ys) (hx : xs.length = 3 * n) (hy : ys.length = 3 * n') (hn : n ≤ 1000000) :
    Calls Try.prog 23 #[.slice A n cap, .slice A' n' cap'] w fun e w' => e = .returned (.bool (decide (xs = ys))) ∧ ∃ n, w.drewN n = w' := by
  by_cases hlen : n = n'
  · subst hlen
    have hlb : ((n : Int) != (n : Int)) = false := by simp
    go_enter Try.func23, Try.ntmps23
    go_wp2_with fail
    go_loopw [5] (fun i wr => ∃ k m : Nat, k ≤ n ∧ i = .int .i64 k ∧ (∀ j, j < k → nth xs (j * 3) = nth ys (j * 3) ∧ nth xs (j * 3 + 1) = nth ys (j * 3 + 1) ∧ nth xs (j * 3 + 2) = nth ys (j * 3 + 2)) ∧ wr = w.drewN m) (fun i _ => n - (intOf i).toNat)
    case atStart => exact ⟨0, 0, Nat.zero_le _, rfl, fun j h => absurd h (by omega), rfl⟩
    case round =>
      obtain ⟨k, m, hk, rfl, hall, rfl⟩ := hrel
      have Hall := Lib.hid hall; clear hall
      by_cases hlt : k < n
      · obtain ⟨b, off, rfl, hbb, hc⟩ := hA (by omega)
        obtain ⟨b', off', rfl, hbb', hc'⟩ := hA' (by omega)
        have c0 := hc (k * 3) (by omega)
        have c1 := hc (k * 3 + 1) (by omega)
        have c2 := hc (k * 3 + 2) (by omega)
        have d0 := hc' (k * 3) (by omega)
        have d1 := hc' (k * 3 + 1) (by omega)
        have d2 := hc' (k * 3 + 2) (by omega)
        rw [← Nat.add_assoc] at c1 c2 d1 d2
        clear hc hc' hA hA'
        have Hx := Lib.hid hx; have Hy := Lib.hid hy; clear hx hy
        have h1 : (0 : Int) ≤ (k : Int) := by omega
        have h2 : (k : Int) < (n : Int) := by omega
        go_wp2_with fail
        by_cases e0 : nth xs (k * 3) = nth ys (k * 3)
        · by_cases e1 : nth xs (k * 3 + 1) = nth ys (k * 3 + 1)
          · by_cases e2 : nth xs (k * 3 + 2) = nth ys (k * 3 + 2)
            · have E := Lib.hid (And.intro e0 (And.intro e1 e2))
              go_quiet (fail)
              go_wp2_with fail
              refine ⟨⟨k + 1, m + nq, by omega, by go_num, fun j hj => ?_, rfl⟩, by simp [intOf]; omega⟩
              by_cases hjk : j = k
              · rw [hjk]; exact E.out
              · exact Hall.out j (by omega)
            · have hne : xs ≠ ys := fun e => e2 (by rw [e])
              have hd : decide (xs = ys) = false := by simp [hne]
              have Hd := Lib.hid hd; clear hd hne
              go_quiet (fail)
              go_wp2_with fail
              go_ret
              exact ⟨ret_bool Hd.out.symm, ⟨m + nq, by simp only [World.drewN_drewN]⟩⟩
          · have hne : xs ≠ ys := fun e => e1 (by rw [e])
            have hd : decide (xs = ys) = false := by simp [hne]
            have Hd := Lib.hid hd; clear hd hne
            go_quiet (fail)
            go_wp2_with fail
            go_ret
            exact ⟨ret_bool Hd.out.symm, ⟨m + nq, by simp only [World.drewN_drewN]⟩⟩
        · have hne : xs ≠ ys := fun e => e0 (by rw [e])
          have hd : decide (xs = ys) = false := by simp [hne]
          have Hd := Lib.hid hd; clear hd hne
          go_quiet (fail)
          go_wp2_with fail
          go_ret
          exact ⟨ret_bool Hd.out.symm, ⟨m + nq, by simp only [World.drewN_drewN]⟩⟩
      · obtain rfl : k = n := by omega
        have hxy : decide (xs = ys) = true := by simpa using nth_ext3 hx hy Hall.out
        have Hxy := Lib.hid hxy; clear hxy
        go_wp2_with fail
        go_ret
        exact ⟨ret_bool Hxy.out.symm, ⟨m, rfl⟩⟩
  · have hlb : ((n : Int) != (n' : Int)) = true := by simp; omega
    have hne : xs ≠ ys := fun e => hlen (by rw [e] at hx; omega)
    go_enter Try.func23, Try.ntmps23
    go_wp2_with fail
    go_ret
    exact ⟨ret_bool (by simp [hne]), ⟨0, rfl⟩⟩
end Go.Proofs.Ytephkhaebkajkaa
