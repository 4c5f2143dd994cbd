/- digits and less of the reference of package geometry. -/
import Derived.Test.YtdflamblbhpngaaRows
import Derived.WalkKit
import Derived.WalkLawsBesides
import Derived.WalkSpells
import Derived.ProofKit
import Derived.Below
import Derived.Outline
import Derived.Lib.Hide
import Derived.Deep.RegionWith
import Derived.Deep.RegionHeld3
import Derived.Deep.DrawnRows
import Derived.StillTailTactics
import Derived.BigQuiet
import Derived.Deep.QuietTactic
import Derived.Deep.LoopGhost
import Derived.IntWalk
import Derived.Test.YtdflamblbhpngaaGeP
namespace Go.Proofs.Ytdflamblbhpngaa
open Go.RowKit
attribute [local go_sem ↓] Go.wp_at_zero Go.wp_at_succ
attribute [local go_sem] wrap_lit

def DRel (w wr : World) (n m : Int) (v : Value) : Prop := ∃ ys : List Int, 0 ≤ m ∧ m ≤ 10000000000000 ∧ Acc .i64 wr w.heap.size 3 1 v ys.length ys ∧ digL ys ∧ bval ys + bpow ys.length * m = n ∧ (m = 0 → canD ys) ∧ ys.length ≤ 3 ∧ Below w.heap.size w wr
theorem small_len (ys : List Int) (m n : Int) (hd : digL ys) (hm : 0 < m) (hn : n ≤ 10000000000000) (h : bval ys + bpow ys.length * m = n) : ys.length ≤ 2 := by
  rcases Nat.lt_or_ge 2 ys.length with hl | hl
  · have h1 := bpow_mono (show 3 ≤ ys.length by omega)
    have h2 : bpow 3 = 1000000000000000000 := by decide
    have h3 := (bval_bd ys hd).1
    have h4 : bpow ys.length * 1 ≤ bpow ys.length * m := Int.mul_le_mul_of_nonneg_left (by omega) (Int.le_of_lt (bpow_pos _))
    omega
  · omega

set_option maxHeartbeats 1000000 in
theorem digits52 (n : Int) (w : World) (h0 : 0 ≤ n) (h1 : n ≤ 10000000000000) : Calls Try.prog 52 #[.int .i64 n] w fun e w' => ∃ A cap ys, e = .returned (.slice A ys.length cap) ∧ canD ys ∧ bval ys = n ∧ ys.length ≤ 3 ∧ Own .i64 w' w.heap.size A 3 ys ∧ Below w.heap.size w w' := by
  obtain ⟨i0, hi0, hz0, hz1, hz2⟩ := info_parts int_info
  go_enter Try.func52, Try.ntmps52
  go_wp2_with fail
  go_loopw [0, 3] (fun x v wr => ∃ m : Int, x = .int .i64 m ∧ DRel w wr n m v) (fun x _ _ => (intOf x).toNat)
  case atStart => exact ⟨n, rfl, [], h0, h1, Acc.nil _ _ _ _ _, fun d hd => by simp at hd, by simp [bval, bpow], fun _ => ⟨fun d hd => by simp at hd, fun h => by simp at h⟩, by simp, Below.refl _ _⟩
  case round =>
    obtain ⟨m, rfl, ys, hm0, hm1, hacc, hdig, hval, hcan, hlen, hb⟩ := hrel
    by_cases hm : 0 < m
    · have hl2 := small_len ys m n hdig hm h1 hval
      have HV := Lib.hid hval
      have HDg := Lib.hid hdig
      have HN : Hid (Below w.heap.size w wr) := Lib.hid hb
      clear hval hcan hdig
      have hsz := hb.size
      go_wp2_with (at_builtin; refine wpList_app rfl _ _ 61 rfl .i64 w.heap.size 3 i0 _ 1 8 Try.underlying61 hi0 hz0 hz1 hz2 rfl (by decide) _ _ _ [m % 1000000] rfl hacc _ rfl rfl rfl (by omega) (by decide) hsz ?_; intro v' w1 hown1 hb1)
      refine ⟨⟨m / 1000000, rfl, ys ++ [m % 1000000], by omega, by omega, by simpa using hown1, ?_, ?_, ?_, by simp; omega, ?_⟩, by simp [intOf]; omega⟩
      · intro d hd
        rcases List.mem_append.1 hd with h | h
        · exact HDg.out d h
        · simp at h; omega
      · rw [bval_append, List.length_append, ← HV.out]
        show bval ys + bpow ys.length * (m % 1000000 + 1000000 * 0) + bpow (ys.length + 1) * (m / 1000000) = _
        rw [Nat.add_comm, bpow_add]
        have e : m = m % 1000000 + 1000000 * (m / 1000000) := by omega
        have e1 : bpow 1 = 1000000 := by decide
        rw [e1]
        generalize m / 1000000 = a at e
        generalize m % 1000000 = b at e
        subst e
        grind
      · intro hz
        refine ⟨?_, fun _ => ?_⟩
        · intro d hd
          rcases List.mem_append.1 hd with h | h
          · exact HDg.out d h
          · simp at h; omega
        · have : nth (ys ++ [m % 1000000]) ys.length = m % 1000000 := by simp [nth]
          rw [List.length_append]
          simp only [List.length_cons, List.length_nil, Nat.add_sub_cancel]
          rw [this]; omega
      · exact hb.trans hb1
    · obtain rfl : m = 0 := by omega
      obtain ⟨A, cap, rfl, hown⟩ := hacc.own
      have hv : bval ys = n := by rw [← hval]; simp
      have HV := Lib.hid hv
      have HC := Lib.hid (hcan rfl)
      clear hval hcan hv
      go_wp2_with fail
      go_ret
      exact ⟨A, cap, ys, rfl, HC.out, HV.out, hlen, hown, hb⟩

set_option maxHeartbeats 1000000 in
theorem lessD49 (A A' : Option Addr) (cap cap' : Nat) (xs ys : List Int) (N M : Nat) (w : World) (hA : Is .i64 w N A xs) (hA' : Is .i64 w M A' ys) (hx : canD xs) (hy : canD ys) (hl : xs.length ≤ 1000) :
    Calls Try.prog 49 #[.slice A xs.length cap, .slice A' ys.length cap'] w fun e w' => e = .returned (.bool (decide (bval xs < bval ys))) ∧ ∃ n, w.drewN n = w' := by
  by_cases hlen : xs.length = ys.length
  · have hlb : ((xs.length : Int) != (ys.length : Int)) = false := by simp [hlen]
    have HX := Lib.hid hx.1
    have HY := Lib.hid hy.1
    have Hlen := Lib.hid hlen
    clear hx hy hlen
    go_enter Try.func49, Try.ntmps49
    go_wp2_with fail
    go_loopw [5] (fun i wr => ∃ (k n : Nat), k ≤ xs.length ∧ i = .int .i64 ((k : Int) - 1) ∧ (∀ j, k ≤ j → j < xs.length → nth xs j = nth ys j) ∧ wr = w.drewN n) (fun i _ => (intOf i + 1).toNat)
    case atStart => exact ⟨xs.length, 0, Nat.le_refl _, rfl, fun j h1 h2 => absurd h1 (by omega), rfl⟩
    case round =>
      obtain ⟨k, n, hk, rfl, hall, rfl⟩ := hrel
      have Hall := Lib.hid hall; clear hall
      by_cases hk0 : 0 < k
      · obtain ⟨b, off, rfl, hbb, hc⟩ := hA (by omega)
        obtain ⟨b', off', rfl, hbb', hc'⟩ := hA' (by have := Hlen.out; omega)
        have hcell := hc (k - 1) (by omega)
        have hcell' := hc' (k - 1) (by have := Hlen.out; omega)
        clear hc hc' hA hA'
        have e1 : ((k : Int) - 1) = ((k - 1 : Nat) : Int) := by omega
        have e2 : ((k - 1 : Nat) : Int) - 1 = ((k - 1 : Nat) : Int) - 1 := rfl
        generalize hj : k - 1 = j at hcell hcell' e1
        have hjk : k = j + 1 := by omega
        subst hjk
        clear hj e2
        have e3 : (((j + 1 : Nat) : Int) - 1) = (j : Int) := by omega
        rw [e3]
        clear e1 e3
        have h1 : (0 : Int) ≤ (j : Int) := by omega
        have h2 : (j : Int) < (xs.length : Int) := by omega
        have h3 : (j : Int) < (ys.length : Int) := by have := Hlen.out; omega
        by_cases he : nth xs j = nth ys j
        · have heb : (nth xs j != nth ys j) = false := by simp [he]
          have He := Lib.hid he; clear he
          go_wp2_with fail
          go_quiet (fail)
          go_wp2_with fail
          refine ⟨⟨j, n + nq, by omega, rfl, fun i h1 h2 => ?_, by first | rfl | rw [World.drewN_drewN]⟩, by simp [intOf]⟩
          by_cases hij : i = j
          · rw [hij]; exact He.out
          · exact Hall.out i (by omega) h2
        · have heb : (nth xs j != nth ys j) = true := by simp [he]
          have hR : decide (bval xs < bval ys) = decide (nth xs j < nth ys j) := by
            rw [decide_eq_decide]
            constructor
            · intro h
              rcases Int.lt_trichotomy (nth xs j) (nth ys j) with g | g | g
              · exact g
              · exact absurd g he
              · have := bval_top ys xs HY.out HX.out Hlen.out.symm j (by have := Hlen.out; omega) (fun i g1 g2 => (Hall.out i (by omega) (by have := Hlen.out; omega)).symm) g
                omega
            · exact fun h => bval_top xs ys HX.out HY.out Hlen.out j (by omega) (fun i g1 g2 => Hall.out i (by omega) g2) h
          have HR := Lib.hid hR; clear hR
          clear he
          go_wp2_with fail
          go_quiet (fail)
          go_wp2_with fail
          go_quiet (fail)
          go_wp2_with fail
          go_ret
          first | exact ⟨ret_bool HR.out.symm, _, rfl⟩ | exact ⟨ret_bool HR.out.symm, _, (World.drewN_drewN _ _ _).symm⟩ | exact ⟨ret_bool HR.out.symm, _, by rw [World.drewN_drewN, World.drewN_drewN]⟩
      · obtain rfl : k = 0 := by omega
        have hxy : xs = ys := nth_ext Hlen.out fun j hj => Hall.out j (by omega) hj
        have hR : decide (bval xs < bval ys) = false := by rw [hxy]; simp
        have HR := Lib.hid hR; clear hR hxy
        go_wp2_with fail
        go_ret
        exact ⟨ret_bool HR.out.symm, n, rfl⟩
  · have hlb : ((xs.length : Int) != (ys.length : Int)) = true := by simp; omega
    have hR : decide (bval xs < bval ys) = decide ((xs.length : Int) < (ys.length : Int)) := by
      rw [decide_eq_decide]
      rcases Nat.lt_or_ge xs.length ys.length with h | h
      · exact ⟨fun _ => by omega, fun _ => bval_short xs ys hx hy h⟩
      · have := bval_short ys xs hy hx (by omega)
        exact ⟨fun _ => by omega, fun _ => by omega⟩
    have HR := Lib.hid hR; clear hR hx hy
    go_enter Try.func49, Try.ntmps49
    go_wp2_with fail
    go_ret
    exact ⟨ret_bool (by rw [HR.out]; simp), 0, rfl⟩
end Go.Proofs.Ytdflamblbhpngaa
