/- Checks of steps and sensitivities; answers; long. -/
import Derived.Test.YtlbchidgadcmpaaRows
import Derived.WalkKit
import Derived.WalkLawsBesides
import Derived.WalkSpells
import Derived.ProofKit
import Derived.Below
import Derived.Outline
import Derived.Lib.Hide
import Derived.Deep.RegionWith
import Derived.Deep.RegionHeld3
import Derived.Deep.DrawnRows
import Derived.StillTailTactics
import Derived.BigQuiet
import Derived.Deep.QuietTactic
import Derived.Deep.LoopGhost
import Derived.IntWalk
import Derived.Test.YtlbchidgadcmpaaWhQ
import Derived.Test.YtlbchidgadcmpaaKW
namespace Go.Proofs.Ytlbchidgadcmpaa
open Go.RowKit
attribute [local go_sem ↓] Go.wp_at_zero Go.wp_at_succ
attribute [local go_sem] wrap_lit

theorem ckT_0 {st : List (Int × Int)} (h : st.length = 0) : ckT st = 3 := by unfold ckT; rw [if_pos h]
theorem ckT_33 {st : List (Int × Int)} (h : 32 < st.length) : ckT st = 4 := by unfold ckT; rw [if_neg (by omega), if_pos h]
theorem ckT_bad {st : List (Int × Int)} (h0 : 0 < st.length) (h : st.length ≤ 32) {k : Nat} (hk : k < st.length) (h' : ¬ (0 ≤ stl st k ∧ stl st k < sth st k ∧ sth st k ≤ 255)) : ckT st = 1 := by
  unfold ckT; rw [if_neg (by omega), if_neg (by omega), if_neg (by rw [stOk_bad hk h']; simp)]
theorem ckN_65 {xs : List Int} (h : 64 < xs.length) : ckN xs = 4 := by unfold ckN; rw [if_pos h]
theorem ckN_bad {xs : List Int} (h : ¬ 64 < xs.length) {k : Nat} (hk : k < xs.length) (h' : ¬ (1 ≤ nth xs k ∧ nth xs k ≤ 255)) : ckN xs = 1 := by
  unfold ckN; rw [if_neg h, if_neg (by rw [snOk_bad hk h']; simp)]
/-- The cells of a step. -/
theorem step_at {w : World} {B : Nat} {A : Option Addr} {st : List (Int × Int)} (h : Is .i64 w B A (flatS st)) {k : Nat} (hk : k < st.length) : ∃ b off, A = some ⟨b, off, none⟩ ∧ b < B ∧ w.cell? ⟨b, off + k * 2, none⟩ = some (.int .i64 (stl st k)) ∧ w.cell? ⟨b, off + k * 2 + 1, none⟩ = some (.int .i64 (sth st k)) := by
  have f0 := flatS_len st
  obtain ⟨b, off, e, hb, hc⟩ := h (by omega)
  obtain ⟨f1, f2⟩ := flatS_nth st k hk
  have c1 := hc (k * 2) (by omega)
  have c2 := hc (k * 2 + 1) (by omega)
  rw [f1] at c1
  rw [f2, ← Nat.add_assoc] at c2
  exact ⟨b, off, e, hb, c1, c2⟩

set_option maxHeartbeats 2000000 in
theorem check19 (A : Option Addr) (cap : Nat) (st : List (Int × Int)) (B : Nat) (w : World) (hB : B ≤ w.heap.size) (hA : Is .i64 w B A (flatS st)) (hl : st.length ≤ 1000000) :
    Calls Try.prog 19 #[.slice A st.length cap] w fun e w' => e = .returned (.int .i64 (ckT st)) ∧ Below w.heap.size w w' := by
  by_cases h0 : st.length = 0
  · rw [ckT_0 h0]
    have hz : ((st.length : Int) == 0) = true := by rw [beq_iff_eq]; omega
    clear hA
    go_enter Try.func19, Try.ntmps19
    go_wp2_with fail
    go_ret
    exact ⟨rfl, Below.refl _ _⟩
  · have hz : ((st.length : Int) == 0) = false := by rw [beq_eq_false_iff_ne]; omega
    by_cases h32 : 32 < st.length
    · rw [ckT_33 h32]
      have hI : (32 : Int) < (st.length : Int) := by omega
      clear hA
      go_enter Try.func19, Try.ntmps19
      go_wp2_with fail
      go_ret
      exact ⟨rfl, Below.refl _ _⟩
    · have hI : (st.length : Int) ≤ 32 := by omega
      have H32 := Lib.hid (And.intro h0 h32)
      have HA := Lib.hid hA
      clear h32 h0 hA
      go_enter Try.func19, Try.ntmps19
      go_wp2_with fail
      go_loopw [13] (fun i wr => ∃ k : Nat, k ≤ st.length ∧ i = .int .i64 k ∧ stOk st k = true ∧ Below w.heap.size w wr) (fun i _ => st.length - (intOf i).toNat)
      case atStart => exact ⟨0, Nat.zero_le _, rfl, rfl, Below.refl _ _⟩
      case round =>
        obtain ⟨k, hk, rfl, hok, hb⟩ := hrel
        have HO := Lib.hid hok
        have HB := Lib.hid hb
        clear hok hb
        by_cases hlt : k < st.length
        · obtain ⟨b, off, rfl, hbb, c1, c2⟩ := step_at (HA.out.below (HB.out.mono hB)) hlt
          have hkI : (k : Int) < (st.length : Int) := by omega
          have hk0 : (0 : Int) ≤ (k : Int) := by omega
          obtain ⟨l, hll⟩ : ∃ l, l = stl st k := ⟨_, rfl⟩
          obtain ⟨h, hhh⟩ : ∃ h, h = sth st k := ⟨_, rfl⟩
          rw [← hll] at c1
          rw [← hhh] at c2
          have HL := Lib.hid (And.intro hll hhh)
          clear hll hhh
          by_cases g : 0 ≤ l ∧ l < h ∧ h ≤ 255
          · have HS := Lib.hid (stOk_step HO.out (by rw [← HL.out.1, ← HL.out.2]; exact g))
            obtain ⟨g1, g2, g3⟩ := g
            go_wp2_with fail
            exact ⟨⟨k + 1, by omega, by go_num, HS.out, HB.out.alloc HB.out.size _⟩, by simp [intOf]; omega⟩
          · have HBad := Lib.hid (ckT_bad (by have := H32.out; omega) (by have := H32.out; omega) hlt (by rw [← HL.out.1, ← HL.out.2]; exact g))
            have g' : l < 0 ∨ (0 ≤ l ∧ h ≤ l) ∨ (0 ≤ l ∧ l < h ∧ 255 < h) := by omega
            clear g
            rcases g' with g1 | ⟨g1, g2⟩ | ⟨g1, g2, g3⟩
            all_goals
              go_wp2_with fail
              go_ret
              exact ⟨ret_int HBad.out.symm, HB.out.alloc HB.out.size _⟩
        · obtain rfl : k = st.length := by omega
          have hck : ckT st = 0 := ckT_ok.2 ⟨⟨by have := H32.out; omega, by have := H32.out; omega⟩, HO.out⟩
          have HK := Lib.hid hck
          clear hck
          go_wp2_with fail
          go_ret
          exact ⟨ret_int HK.out.symm, HB.out⟩

set_option maxHeartbeats 2000000 in
theorem check20 (A : Option Addr) (cap : Nat) (st : List (Int × Int)) (B : Nat) (w : World) (hB : B ≤ w.heap.size) (hA : Is .i64 w B A (flatS st)) (hl : st.length ≤ 1000000) :
    Calls Try.prog 20 #[.slice A st.length cap] w fun e w' => e = .returned (.int .i64 (ckT st)) ∧ Below w.heap.size w w' := by
  by_cases h0 : st.length = 0
  · rw [ckT_0 h0]
    have hz : ((st.length : Int) == 0) = true := by rw [beq_iff_eq]; omega
    clear hA
    go_enter Try.func20, Try.ntmps20
    go_wp2_with fail
    go_ret
    exact ⟨rfl, Below.refl _ _⟩
  · have hz : ((st.length : Int) == 0) = false := by rw [beq_eq_false_iff_ne]; omega
    by_cases h32 : 32 < st.length
    · rw [ckT_33 h32]
      have hI : (32 : Int) < (st.length : Int) := by omega
      clear hA
      go_enter Try.func20, Try.ntmps20
      go_wp2_with fail
      go_ret
      exact ⟨rfl, Below.refl _ _⟩
    · have hI : (st.length : Int) ≤ 32 := by omega
      have H32 := Lib.hid (And.intro h0 h32)
      have HA := Lib.hid hA
      clear h32 h0 hA
      go_enter Try.func20, Try.ntmps20
      go_wp2_with fail
      go_loopw [3] (fun i wr => ∃ k : Nat, k ≤ st.length ∧ i = .int .i64 k ∧ stOk st k = true ∧ Below w.heap.size w wr) (fun i _ => st.length - (intOf i).toNat)
      case atStart => exact ⟨0, Nat.zero_le _, rfl, rfl, Below.refl _ _⟩
      case round =>
        obtain ⟨k, hk, rfl, hok, hb⟩ := hrel
        have HO := Lib.hid hok
        have HB := Lib.hid hb
        clear hok hb
        by_cases hlt : k < st.length
        · obtain ⟨b, off, rfl, hbb, c1, c2⟩ := step_at (HA.out.below (HB.out.mono hB)) hlt
          have hkI : (k : Int) < (st.length : Int) := by omega
          have hk0 : (0 : Int) ≤ (k : Int) := by omega
          obtain ⟨l, hll⟩ : ∃ l, l = stl st k := ⟨_, rfl⟩
          obtain ⟨h, hhh⟩ : ∃ h, h = sth st k := ⟨_, rfl⟩
          rw [← hll] at c1
          rw [← hhh] at c2
          have HL := Lib.hid (And.intro hll hhh)
          clear hll hhh
          by_cases g : 0 ≤ l ∧ l < h ∧ h ≤ 255
          · have HS := Lib.hid (stOk_step HO.out (by rw [← HL.out.1, ← HL.out.2]; exact g))
            obtain ⟨g1, g2, g3⟩ := g
            have d1 : decide (l < 0) = false := decide_eq_false (by omega)
            have d2 : decide (h ≤ l) = false := decide_eq_false (by omega)
            have d3 : decide (255 < h) = false := decide_eq_false (by omega)
            go_wp2_with fail
            go_quiet (fail)
            go_wp2_with fail
            exact ⟨⟨k + 1, by omega, by go_num, HS.out, below_drewN HB.out _⟩, by simp [intOf]; omega⟩
          · have HBad := Lib.hid (ckT_bad (by have := H32.out; omega) (by have := H32.out; omega) hlt (by rw [← HL.out.1, ← HL.out.2]; exact g))
            have g' : l < 0 ∨ (0 ≤ l ∧ h ≤ l) ∨ (0 ≤ l ∧ l < h ∧ 255 < h) := by omega
            clear g
            rcases g' with g1 | ⟨g1, g2⟩ | ⟨g1, g2, g3⟩
            all_goals
              go_wp2_with fail
              go_quiet (fail)
              go_wp2_with fail
              go_ret
              exact ⟨ret_int HBad.out.symm, below_drewN HB.out _⟩
        · obtain rfl : k = st.length := by omega
          have hck : ckT st = 0 := ckT_ok.2 ⟨⟨by have := H32.out; omega, by have := H32.out; omega⟩, HO.out⟩
          have HK := Lib.hid hck
          clear hck
          go_wp2_with fail
          go_ret
          exact ⟨ret_int HK.out.symm, HB.out⟩

set_option maxHeartbeats 2000000 in
theorem sens30 (A : Option Addr) (cap : Nat) (xs : List Int) (B : Nat) (w : World) (hA : Is .i64 w B A xs) (hl : xs.length ≤ 1000000) :
    Calls Try.prog 30 #[.slice A xs.length cap] w fun e w' => e = .returned (.int .i64 (ckN xs)) ∧ w = w' := by
  by_cases h64 : 64 < xs.length
  · rw [ckN_65 h64]
    have hI : (64 : Int) < (xs.length : Int) := by omega
    clear hA
    go_enter Try.func30, Try.ntmps30
    go_wp2_with fail
    go_ret
    exact ⟨rfl, rfl⟩
  · have hI : (xs.length : Int) ≤ 64 := by omega
    have H64 := Lib.hid h64
    have HA := Lib.hid hA
    clear h64 hA
    go_enter Try.func30, Try.ntmps30
    go_wp2_with fail
    go_loop [10] (fun i => ∃ k : Nat, k ≤ xs.length ∧ i = .int .i64 k ∧ snOk xs k = true) (fun i => xs.length - (intOf i).toNat)
    case atStart => exact ⟨0, Nat.zero_le _, rfl, rfl⟩
    case round =>
      obtain ⟨k, hk, rfl, hok⟩ := hrel
      have HO := Lib.hid hok
      clear hok
      by_cases hlt : k < xs.length
      · obtain ⟨b, off, rfl, hbb, hc⟩ := HA.out (by omega)
        have c1 := hc k hlt
        have hkI : (k : Int) < (xs.length : Int) := by omega
        have hk0 : (0 : Int) ≤ (k : Int) := by omega
        obtain ⟨l, hll⟩ : ∃ l, l = nth xs k := ⟨_, rfl⟩
        rw [← hll] at c1
        have HL := Lib.hid hll
        clear hll hc
        by_cases g : 1 ≤ l ∧ l ≤ 255
        · have HS := Lib.hid (snOk_step HO.out (by rw [← HL.out]; exact g))
          obtain ⟨g1, g2⟩ := g
          go_wp2_with fail
          exact ⟨⟨k + 1, by omega, by go_num, HS.out⟩, by simp [intOf]; omega⟩
        · have HBad := Lib.hid (ckN_bad H64.out hlt (by rw [← HL.out]; exact g))
          have g' : l < 1 ∨ (1 ≤ l ∧ 255 < l) := by omega
          clear g
          rcases g' with g1 | ⟨g1, g2⟩
          all_goals
            go_wp2_with fail
            go_ret
            exact ⟨ret_int HBad.out.symm, rfl⟩
      · obtain rfl : k = xs.length := by omega
        have hck : ckN xs = 0 := ckN_ok.2 ⟨by have := H64.out; omega, HO.out⟩
        have HK := Lib.hid hck
        clear hck
        go_wp2_with fail
        go_ret
        exact ⟨ret_int HK.out.symm, rfl⟩

set_option maxHeartbeats 2000000 in
theorem sens31 (A : Option Addr) (cap : Nat) (xs : List Int) (B : Nat) (w : World) (hA : Is .i64 w B A xs) (hl : xs.length ≤ 1000000) :
    Calls Try.prog 31 #[.slice A xs.length cap] w fun e w' => e = .returned (.int .i64 (ckN xs)) ∧ w = w' := by
  by_cases h64 : 64 < xs.length
  · rw [ckN_65 h64]
    have hI : (64 : Int) < (xs.length : Int) := by omega
    clear hA
    go_enter Try.func31, Try.ntmps31
    go_wp2_with fail
    go_ret
    exact ⟨rfl, rfl⟩
  · have hI : (xs.length : Int) ≤ 64 := by omega
    have H64 := Lib.hid h64
    have HA := Lib.hid hA
    clear h64 hA
    go_enter Try.func31, Try.ntmps31
    go_wp2_with fail
    go_loop [3] (fun i => ∃ k : Nat, k ≤ xs.length ∧ i = .int .i64 k ∧ snOk xs k = true) (fun i => xs.length - (intOf i).toNat)
    case atStart => exact ⟨0, Nat.zero_le _, rfl, rfl⟩
    case round =>
      obtain ⟨k, hk, rfl, hok⟩ := hrel
      have HO := Lib.hid hok
      clear hok
      by_cases hlt : k < xs.length
      · obtain ⟨b, off, rfl, hbb, hc⟩ := HA.out (by omega)
        have c1 := hc k hlt
        have hkI : (k : Int) < (xs.length : Int) := by omega
        have hk0 : (0 : Int) ≤ (k : Int) := by omega
        obtain ⟨l, hll⟩ : ∃ l, l = nth xs k := ⟨_, rfl⟩
        rw [← hll] at c1
        have HL := Lib.hid hll
        clear hll hc
        by_cases g : 1 ≤ l ∧ l ≤ 255
        · have HS := Lib.hid (snOk_step HO.out (by rw [← HL.out]; exact g))
          obtain ⟨g1, g2⟩ := g
          go_wp2_with fail
          exact ⟨⟨k + 1, by omega, by go_num, HS.out⟩, by simp [intOf]; omega⟩
        · have HBad := Lib.hid (ckN_bad H64.out hlt (by rw [← HL.out]; exact g))
          have g' : l < 1 ∨ (1 ≤ l ∧ 255 < l) := by omega
          clear g
          rcases g' with g1 | ⟨g1, g2⟩
          all_goals
            go_wp2_with fail
            go_ret
            exact ⟨ret_int HBad.out.symm, rfl⟩
      · obtain rfl : k = xs.length := by omega
        have hck : ckN xs = 0 := ckN_ok.2 ⟨by have := H64.out; omega, HO.out⟩
        have HK := Lib.hid hck
        clear hck
        go_wp2_with fail
        go_ret
        exact ⟨ret_int HK.out.symm, rfl⟩

set_option maxHeartbeats 2000000 in
theorem answers34 (A : Option Addr) (cap : Nat) (xs : List Int) (lo hi : Int) (B : Nat) (w : World) (hA : Is .i64 w B A xs) (hl : xs.length ≤ 1000000) :
    Calls Try.prog 34 #[.slice A xs.length cap, .int .i64 lo, .int .i64 hi] w fun e w' => e = .returned (.int .i64 (cnt xs lo hi : Nat)) ∧ w = w' := by
  have HA := Lib.hid hA
  clear hA
  go_enter Try.func34, Try.ntmps34
  go_wp2_with fail
  go_loop [7, 8] (fun n i => ∃ k : Nat, k ≤ xs.length ∧ i = .int .i64 k ∧ n = .int .i64 (cnt (xs.take k) lo hi : Nat)) (fun _ i => xs.length - (intOf i).toNat)
  case atStart => exact ⟨0, Nat.zero_le _, rfl, rfl⟩
  case round =>
    obtain ⟨k, hk, rfl, rfl⟩ := hrel
    by_cases hlt : k < xs.length
    · obtain ⟨b, off, rfl, hbb, hc⟩ := HA.out (by omega)
      have c1 := hc k hlt
      have hkI : (k : Int) < (xs.length : Int) := by omega
      have hk0 : (0 : Int) ≤ (k : Int) := by omega
      have hcs := cnt_snoc (xs.take k) (nth xs k) lo hi
      rw [← take_nth xs k hlt] at hcs
      have hcl := cnt_le (xs.take k) lo hi
      have hcl2 : cnt (xs.take k) lo hi ≤ 1000000 := by have := List.length_take_le k xs; omega
      obtain ⟨l, hll⟩ : ∃ l, l = nth xs k := ⟨_, rfl⟩
      obtain ⟨c, hcc⟩ : ∃ c, c = cnt (xs.take k) lo hi := ⟨_, rfl⟩
      rw [← hll] at c1 hcs
      rw [← hcc] at hcl2 hcs ⊢
      have c0 : (c : Int) ≤ 1000000 := by omega
      have HC := Lib.hid hcs
      clear hll hc hcs hcl hcc hcl2
      by_cases g1 : lo < l
      · by_cases g2 : l ≤ hi
        · have HS := Lib.hid (show cnt (xs.take (k + 1)) lo hi = c + 1 by rw [HC.out, if_pos ⟨g1, g2⟩])
          go_wp2_with fail
          exact ⟨⟨k + 1, by omega, by go_num, by rw [HS.out]; go_num⟩, by simp [intOf]; omega⟩
        · have HS := Lib.hid (show cnt (xs.take (k + 1)) lo hi = c by rw [HC.out, if_neg (fun h => g2 h.2), Nat.add_zero])
          go_wp2_with fail
          exact ⟨⟨k + 1, by omega, by go_num, by rw [HS.out]⟩, by simp [intOf]; omega⟩
      · have HS := Lib.hid (show cnt (xs.take (k + 1)) lo hi = c by rw [HC.out, if_neg (fun h => g1 h.1), Nat.add_zero])
        go_wp2_with fail
        exact ⟨⟨k + 1, by omega, by go_num, by rw [HS.out]⟩, by simp [intOf]; omega⟩
    · obtain rfl : k = xs.length := by omega
      go_wp2_with fail
      go_ret
      exact ⟨ret_int (by first | rfl | rw [List.take_length]), rfl⟩

set_option maxHeartbeats 2000000 in
theorem answers28 (A : Option Addr) (cap : Nat) (xs : List Int) (lo hi : Int) (B : Nat) (w : World) (hA : Is .i64 w B A xs) (hl : xs.length ≤ 1000000) :
    Calls Try.prog 28 #[.slice A xs.length cap, .int .i64 lo, .int .i64 hi] w fun e w' => e = .returned (.int .i64 (cnt xs lo hi : Nat)) ∧ w = w' := by
  have HA := Lib.hid hA
  clear hA
  go_enter Try.func28, Try.ntmps28
  go_wp2_with fail
  go_loop [7, 8] (fun n i => ∃ k : Nat, k ≤ xs.length ∧ i = .int .i64 k ∧ n = .int .i64 (cnt (xs.take k) lo hi : Nat)) (fun _ i => xs.length - (intOf i).toNat)
  case atStart => exact ⟨0, Nat.zero_le _, rfl, rfl⟩
  case round =>
    obtain ⟨k, hk, rfl, rfl⟩ := hrel
    by_cases hlt : k < xs.length
    · obtain ⟨b, off, rfl, hbb, hc⟩ := HA.out (by omega)
      have c1 := hc k hlt
      have hkI : (k : Int) < (xs.length : Int) := by omega
      have hk0 : (0 : Int) ≤ (k : Int) := by omega
      have hcs := cnt_snoc (xs.take k) (nth xs k) lo hi
      rw [← take_nth xs k hlt] at hcs
      have hcl := cnt_le (xs.take k) lo hi
      have hcl2 : cnt (xs.take k) lo hi ≤ 1000000 := by have := List.length_take_le k xs; omega
      obtain ⟨l, hll⟩ : ∃ l, l = nth xs k := ⟨_, rfl⟩
      obtain ⟨c, hcc⟩ : ∃ c, c = cnt (xs.take k) lo hi := ⟨_, rfl⟩
      rw [← hll] at c1 hcs
      rw [← hcc] at hcl2 hcs ⊢
      have c0 : (c : Int) ≤ 1000000 := by omega
      have HC := Lib.hid hcs
      clear hll hc hcs hcl hcc hcl2
      by_cases g1 : lo < l
      · by_cases g2 : l ≤ hi
        · have HS := Lib.hid (show cnt (xs.take (k + 1)) lo hi = c + 1 by rw [HC.out, if_pos ⟨g1, g2⟩])
          go_wp2_with fail
          exact ⟨⟨k + 1, by omega, by go_num, by rw [HS.out]; go_num⟩, by simp [intOf]; omega⟩
        · have HS := Lib.hid (show cnt (xs.take (k + 1)) lo hi = c by rw [HC.out, if_neg (fun h => g2 h.2), Nat.add_zero])
          go_wp2_with fail
          exact ⟨⟨k + 1, by omega, by go_num, by rw [HS.out]⟩, by simp [intOf]; omega⟩
      · have HS := Lib.hid (show cnt (xs.take (k + 1)) lo hi = c by rw [HC.out, if_neg (fun h => g1 h.1), Nat.add_zero])
        go_wp2_with fail
        exact ⟨⟨k + 1, by omega, by go_num, by rw [HS.out]⟩, by simp [intOf]; omega⟩
    · obtain rfl : k = xs.length := by omega
      go_wp2_with fail
      go_ret
      exact ⟨ret_int (by first | rfl | rw [List.take_length]), rfl⟩

theorem long9 (A A' : Option Addr) (cap cap' m n : Nat) (w : World) (hm : m ≤ maxLen) (hn : n ≤ maxLen) :
    Calls Try.prog 9 #[.slice A m cap, .slice A' n cap'] w fun e w' => e = .returned (.bool (decide (40 < m ∨ 80 < n))) ∧ w = w' := by
  unfold maxLen at hm hn
  by_cases h1 : 40 < m
  · have hd : decide (40 < m ∨ 80 < n) = true := by simp [h1]
    have hI : (40 : Int) < (m : Int) := by omega
    rw [hd]
    clear hd
    go_enter Try.func9, Try.ntmps9
    go_wp2_with fail
    go_ret
    exact ⟨rfl, rfl⟩
  · have hI : (m : Int) ≤ 40 := by omega
    by_cases h2 : 80 < n
    · have hd : decide (40 < m ∨ 80 < n) = true := by simp [h2]
      have hI2 : (80 : Int) < (n : Int) := by omega
      rw [hd]
      clear hd h1
      go_enter Try.func9, Try.ntmps9
      go_wp2_with fail
      go_ret
      exact ⟨rfl, rfl⟩
    · have hd : decide (40 < m ∨ 80 < n) = false := decide_eq_false (by omega)
      have hI2 : (n : Int) ≤ 80 := by omega
      rw [hd]
      clear hd h1 h2
      go_enter Try.func9, Try.ntmps9
      go_wp2_with fail
      go_ret
      exact ⟨ret_bool (by first | rfl | (simp; omega)), rfl⟩
end Go.Proofs.Ytlbchidgadcmpaa
