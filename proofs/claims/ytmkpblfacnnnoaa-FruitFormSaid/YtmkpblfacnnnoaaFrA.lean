/- Package fruit and its reference: Check, near, side. -/
import Derived.Test.YtmkpblfacnnnoaaRows
import Derived.WalkKit
import Derived.WalkLawsBesides
import Derived.WalkSpells
import Derived.ProofKit
import Derived.Below
import Derived.Outline
import Derived.Lib.Hide
import Derived.Deep.RegionWith
import Derived.Deep.RegionHeld3
import Derived.Deep.DrawnRows
import Derived.StillTailTactics
import Derived.BigQuiet
import Derived.Deep.QuietTactic
import Derived.Deep.LoopGhost
import Derived.IntWalk
import Derived.Test.YtmkpblfacnnnoaaFrQ
namespace Go.Proofs.Ytmkpblfacnnnoaa
open Go.RowKit
attribute [local go_sem ↓] Go.wp_at_zero Go.wp_at_succ
attribute [local go_sem] wrap_lit

theorem ck_long {xs : List Int} (h : 64 < xs.length) : ckS xs = 4 := by unfold ckS; rw [if_pos h]
theorem ck_good {xs : List Int} (h : ¬ 64 < xs.length) (h' : okTo xs xs.length = true) : ckS xs = 0 := by unfold ckS; rw [if_neg h, if_pos h']
theorem ck_bad {xs : List Int} (h : ¬ 64 < xs.length) {k : Nat} (hk : k < xs.length) (h' : ¬ (lst xs k ≤ nth xs k ∧ nth xs k ≤ 1023)) : ckS xs = 1 := by
  unfold ckS; rw [if_neg h, if_neg (by rw [okTo_bad hk h']; simp)]
theorem okTo_step {xs : List Int} {k : Nat} (h : okTo xs k = true) (h' : lst xs k ≤ nth xs k ∧ nth xs k ≤ 1023) : okTo xs (k + 1) = true := by
  unfold okTo; rw [h, Bool.true_and]; exact decide_eq_true h'
theorem lst_nn {xs : List Int} {k : Nat} (h : okTo xs k = true) : 0 ≤ lst xs k := by
  cases k with
  | zero => exact Int.le_refl _
  | succ k => exact okTo_pos h (Nat.lt_succ_self k)
theorem lst_le {xs : List Int} {k : Nat} (h : okTo xs k = true) : lst xs k ≤ 1023 := by
  cases k with
  | zero => show (0 : Int) ≤ 1023; omega
  | succ k => exact (okTo_at h (Nat.lt_succ_self k)).2

set_option maxHeartbeats 1000000 in
theorem check15 (A : Option Addr) (cap : Nat) (xs : List Int) (B : Nat) (w : World) (hA : Is .i64 w B A xs) (hl : xs.length ≤ 1000000) :
    Calls Try.prog 15 #[.slice A xs.length cap] w fun e w' => e = .returned (.int .i64 (ckS xs)) ∧ w = w' := by
  by_cases h64 : 64 < xs.length
  · rw [ck_long h64]
    have hI : (64 : Int) < (xs.length : Int) := by omega
    go_enter Try.func15, Try.ntmps15
    go_wp2_with fail
    go_ret
    exact ⟨rfl, rfl⟩
  · have hI : (xs.length : Int) ≤ 64 := by omega
    have H64 := Lib.hid h64
    clear h64
    go_enter Try.func15, Try.ntmps15
    go_wp2_with fail
    go_loop [3, 11] (fun l i => ∃ k : Nat, k ≤ xs.length ∧ i = .int .i64 k ∧ l = .int .i64 (lst xs k) ∧ okTo xs k = true) (fun _ i => xs.length - (intOf i).toNat)
    case atStart => exact ⟨0, Nat.zero_le _, rfl, rfl, rfl⟩
    case round =>
      obtain ⟨k, hk, rfl, rfl, hok⟩ := hrel
      have HO := Lib.hid hok
      have l0 := lst_nn hok
      have l1 := lst_le hok
      clear hok
      by_cases hlt : k < xs.length
      · obtain ⟨b, off, rfl, hbb, hc⟩ := hA (by omega)
        have hcell := hc k hlt
        clear hc hA
        have h2 : (k : Int) < (xs.length : Int) := by omega
        by_cases hg : lst xs k ≤ nth xs k ∧ nth xs k ≤ 1023
        · have HS := Lib.hid (okTo_step HO.out hg)
          obtain ⟨g1, g2⟩ := hg
          go_wp2_with fail
          exact ⟨⟨k + 1, by omega, by go_num, rfl, HS.out⟩, by simp [intOf]; omega⟩
        · have HB := Lib.hid (ck_bad H64.out hlt hg)
          rcases (by omega : nth xs k < lst xs k ∨ (lst xs k ≤ nth xs k ∧ 1024 ≤ nth xs k)) with g | ⟨g, g'⟩
          all_goals
            clear hg
            go_wp2_with fail
            go_ret
            exact ⟨ret_int HB.out.symm, rfl⟩
      · obtain rfl : k = xs.length := by omega
        have HB := Lib.hid (ck_good H64.out HO.out)
        go_wp2_with fail
        go_ret
        exact ⟨ret_int HB.out.symm, rfl⟩

set_option maxHeartbeats 2000000 in
theorem check16 (A : Option Addr) (cap : Nat) (xs : List Int) (B : Nat) (w : World) (hA : Is .i64 w B A xs) (hl : xs.length ≤ 1000000) :
    Calls Try.prog 16 #[.slice A xs.length cap] w fun e w' => e = .returned (.int .i64 (ckS xs)) ∧ ∃ n, w.drewN n = w' := by
  by_cases h64 : 64 < xs.length
  · rw [ck_long h64]
    have hI : (64 : Int) < (xs.length : Int) := by omega
    go_enter Try.func16, Try.ntmps16
    go_wp2_with fail
    go_ret
    exact ⟨rfl, 0, rfl⟩
  · have hI : (xs.length : Int) ≤ 64 := by omega
    have H64 := Lib.hid h64
    clear h64
    go_enter Try.func16, Try.ntmps16
    go_wp2_with fail
    go_loopw [3] (fun i wr => ∃ k n : Nat, k ≤ xs.length ∧ i = .int .i64 k ∧ okTo xs k = true ∧ wr = w.drewN n) (fun i _ => xs.length - (intOf i).toNat)
    case atStart => exact ⟨0, 0, Nat.zero_le _, rfl, rfl, rfl⟩
    case round =>
      obtain ⟨k, n, hk, rfl, hok, rfl⟩ := hrel
      have HO := Lib.hid hok
      have l0 := lst_nn hok
      have l1 := lst_le hok
      clear hok
      by_cases hlt : k < xs.length
      · obtain ⟨b, off, rfl, hbb, hc⟩ := hA (by omega)
        have hcell := hc k hlt
        have h2 : (k : Int) < (xs.length : Int) := by omega
        have h1 : (0 : Int) ≤ (k : Int) := by omega
        cases k with
        | zero =>
          rw [Nat.add_zero] at hcell
          clear hc hA
          have l2 : lst xs 0 = 0 := rfl
          rw [l2] at l0 l1
          by_cases hg : lst xs 0 ≤ nth xs 0 ∧ nth xs 0 ≤ 1023
          · have HS := Lib.hid (okTo_step HO.out hg)
            rw [l2] at hg
            obtain ⟨g1, g2⟩ := hg
            have d1 : decide (nth xs 0 < 0) = false := by simp; omega
            have d2 : decide (1023 < nth xs 0) = false := by simp; omega
            clear l2
            go_wp2_with fail
            go_quiet (fail)
            go_wp2_with fail
            exact ⟨⟨1, n + nq, by omega, by go_num, HS.out, rfl⟩, by simp [intOf]; omega⟩
          · have HB := Lib.hid (ck_bad H64.out hlt hg)
            rw [l2] at hg
            rcases (by omega : nth xs 0 < 0 ∨ (0 ≤ nth xs 0 ∧ 1023 < nth xs 0)) with g | ⟨g, g'⟩
            · have d1 : decide (nth xs 0 < 0) = true := by simp; omega
              clear hg l2
              go_wp2_with fail
              go_quiet (fail)
              go_wp2_with fail
              go_ret
              exact ⟨ret_int HB.out.symm, n + nq, by rw [World.drewN_drewN]⟩
            · have d1 : decide (nth xs 0 < 0) = false := by simp; omega
              have d2 : decide (1023 < nth xs 0) = true := by simp; omega
              clear hg l2
              go_wp2_with fail
              go_quiet (fail)
              go_wp2_with fail
              go_ret
              exact ⟨ret_int HB.out.symm, n + nq, by rw [World.drewN_drewN]⟩
        | succ k =>
          have hcell0 := hc k (by omega)
          clear hc hA
          have l2 : lst xs (k + 1) = nth xs k := rfl
          rw [l2] at l0 l1
          have e1 : (((k + 1 : Nat) : Int) - 1) = (k : Int) := by omega
          have h3 : (k : Int) < (xs.length : Int) := by omega
          have h4 : (0 : Int) ≤ (k : Int) := by omega
          by_cases hg : lst xs (k + 1) ≤ nth xs (k + 1) ∧ nth xs (k + 1) ≤ 1023
          · have HS := Lib.hid (okTo_step HO.out hg)
            rw [l2] at hg
            obtain ⟨g1, g2⟩ := hg
            have d1 : decide (nth xs (k + 1) < 0) = false := by simp; omega
            have d2 : decide (1023 < nth xs (k + 1)) = false := by simp; omega
            have d3 : decide (nth xs (k + 1) < nth xs k) = false := by simp; omega
            clear l2
            go_wp2_with fail
            go_quiet (fail)
            go_wp2_with fail
            exact ⟨⟨k + 1 + 1, n + nq, by omega, by go_num, HS.out, rfl⟩, by simp [intOf]; omega⟩
          · have HB := Lib.hid (ck_bad H64.out hlt hg)
            rw [l2] at hg
            rcases (by omega : nth xs (k + 1) < 0 ∨ (0 ≤ nth xs (k + 1) ∧ 1023 < nth xs (k + 1)) ∨ (0 ≤ nth xs (k + 1) ∧ nth xs (k + 1) ≤ 1023 ∧ nth xs (k + 1) < nth xs k)) with g | ⟨g, g'⟩ | ⟨g, g', g''⟩
            · have d1 : decide (nth xs (k + 1) < 0) = true := by simp; omega
              clear hg l2
              go_wp2_with fail
              go_quiet (fail)
              go_wp2_with fail
              go_ret
              exact ⟨ret_int HB.out.symm, n + nq, by rw [World.drewN_drewN]⟩
            · have d1 : decide (nth xs (k + 1) < 0) = false := by simp; omega
              have d2 : decide (1023 < nth xs (k + 1)) = true := by simp; omega
              clear hg l2
              go_wp2_with fail
              go_quiet (fail)
              go_wp2_with fail
              go_ret
              exact ⟨ret_int HB.out.symm, n + nq, by rw [World.drewN_drewN]⟩
            · have d1 : decide (nth xs (k + 1) < 0) = false := by simp; omega
              have d2 : decide (1023 < nth xs (k + 1)) = false := by simp; omega
              have d3 : decide (nth xs (k + 1) < nth xs k) = true := by simp; omega
              clear hg l2
              go_wp2_with fail
              go_quiet (fail)
              go_wp2_with fail
              go_ret
              exact ⟨ret_int HB.out.symm, n + nq, by rw [World.drewN_drewN]⟩
      · obtain rfl : k = xs.length := by omega
        have HB := Lib.hid (ck_good H64.out HO.out)
        go_wp2_with fail
        go_ret
        exact ⟨ret_int HB.out.symm, n, rfl⟩

def nrB (x y w : Int) : Bool := decide (x - y ≤ w ∧ y - x ≤ w)
theorem near38 (x y u : Int) (w : World) (hx : 0 ≤ x ∧ x ≤ 1023) (hy : 0 ≤ y ∧ y ≤ 1023) :
    Calls Try.prog 38 #[.int .i64 x, .int .i64 y, .int .i64 u] w fun e w' => e = .returned (.bool (nrB x y u)) ∧ w = w' := by
  obtain ⟨x0, x1⟩ := hx
  obtain ⟨y0, y1⟩ := hy
  by_cases h1 : x - y ≤ u <;> by_cases h2 : y - x ≤ u
  all_goals
    have H : Hid (nrB x y u = decide (x - y ≤ u ∧ y - x ≤ u)) := Lib.hid rfl
    go_enter Try.func38, Try.ntmps38
    go_wp2_with fail
    go_ret
    exact ⟨ret_bool (by rw [H.out]; simp [h1, h2]), rfl⟩
theorem side36 (x y u : Int) (w : World) (hx : 0 ≤ x ∧ x ≤ 1023) (hy : 0 ≤ y ∧ y ≤ 1023) :
    Calls Try.prog 36 #[.int .i64 u, .int .i64 x, .int .i64 y] w fun e w' => e = .returned (.int .i64 (sd u x y)) ∧ w = w' := by
  obtain ⟨x0, x1⟩ := hx
  obtain ⟨y0, y1⟩ := hy
  by_cases h1 : u < x - y
  · have H : Hid (sd u x y = 1) := Lib.hid (by unfold sd; rw [if_pos h1])
    go_enter Try.func36, Try.ntmps36
    go_wp2_with fail
    go_ret
    exact ⟨ret_int H.out.symm, rfl⟩
  · by_cases h2 : u < y - x
    · have H : Hid (sd u x y = -1) := Lib.hid (by unfold sd; rw [if_neg h1, if_pos h2])
      go_enter Try.func36, Try.ntmps36
      go_wp2_with fail
      go_ret
      exact ⟨ret_int H.out.symm, rfl⟩
    · have H : Hid (sd u x y = 0) := Lib.hid (by unfold sd; rw [if_neg h1, if_neg h2])
      go_enter Try.func36, Try.ntmps36
      go_wp2_with fail
      go_ret
      exact ⟨ret_int H.out.symm, rfl⟩
end Go.Proofs.Ytmkpblfacnnnoaa
