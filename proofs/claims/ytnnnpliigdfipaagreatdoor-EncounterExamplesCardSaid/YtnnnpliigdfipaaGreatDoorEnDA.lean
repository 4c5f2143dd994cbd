/- encounter: the law's own functions: Long, EqualPlanes, text. -/
import Derived.Test.YtnnnpliigdfipaaGreatDoorRows
import Derived.WalkKit
import Derived.WalkLawsBesides
import Derived.WalkSpells
import Derived.ProofKit
import Derived.Below
import Derived.Outline
import Derived.Lib.Hide
import Derived.Deep.RegionWith
import Derived.Deep.RegionHeld3
import Derived.Deep.DrawnRows
import Derived.StillTailTactics
import Derived.BigQuiet
import Derived.Deep.QuietTactic
import Derived.Deep.LoopGhost
import Derived.IntWalk
import Derived.Test.YtnnnpliigdfipaaGreatDoorEnCB
import Derived.Test.YtnnnpliigdfipaaGreatDoorEnBC
import Derived.Test.YtnnnpliigdfipaaGreatDoorEnO
namespace Go.Proofs.YtnnnpliigdfipaaGreatDoor
open Go.RowKit
attribute [local go_sem ↓] Go.wp_at_zero Go.wp_at_succ
attribute [local go_sem] wrap_lit
def exE : En := ⟨10, 0, [⟨7, ⟨0, 0, 1000⟩, ⟨2, 0, 0⟩, 5, [(3, 10)], 1, 5, 8, 0⟩, ⟨9, ⟨30, 0, 1000⟩, ⟨-1, 0, 0⟩, 5, [], 0, 0, 5, 0⟩]⟩
def lgB (x : En) : Bool := decide ((∃ c ∈ x.cs, 30 < c.lg.length) ∨ 12 < x.cs.length)
theorem wrap_nat {k n : Nat} (h : k < n) (hn : n ≤ maxLen) : IntKind.i64.wrap ((k : Int) + 1) = (k : Int) + 1 := by
  unfold maxLen at hn
  exact IntWalk.i64_in _ (by omega)
set_option maxHeartbeats 1000000 in
theorem long10 (x : En) (A : Option Addr) (cap : Nat) (w : World) (hc : InCr w w.heap.size A x.cs) (hN : x.cs.length ≤ maxLen) :
    Calls Tryz.prog 10 #[.agg #[.int .i64 x.cy, .int .i64 x.gr, .slice A x.cs.length cap]] w fun e w' => e = .returned (.bool (lgB x)) ∧ Below w.heap.size w w' := by
  have HC := Lib.hid hc
  have HN := Lib.hid hN
  clear hc hN
  go_enter Tryz.func10, Tryz.ntmps10
  go_wp2_with fail
  go_loop [3] (fun v => ∃ k : Nat, k ≤ x.cs.length ∧ v = .int .i64 k ∧ ∀ q c, q < k → x.cs[q]? = some c → c.lg.length ≤ 30) (fun v => x.cs.length - (intOf v).toNat)
  case atStart => exact ⟨0, Nat.zero_le _, rfl, fun q c h => absurd h (by omega)⟩
  case round =>
    obtain ⟨k, hk, rfl, hall⟩ := hrel
    have HA := Lib.hid hall
    clear hall
    by_cases hlt : k < x.cs.length
    · obtain ⟨c, hci⟩ : ∃ c, x.cs[k]? = some c := ⟨_, List.getElem?_eq_getElem hlt⟩
      obtain ⟨b0, off, rfl, hb0, hcr⟩ := HC.out (by omega)
      obtain ⟨LA, lcap, hat, -⟩ := hcr k c hci
      have c8 := (hat.below ((Below.refl w.heap.size w).alloc (Nat.le_refl _) (.cells #[.int .i64 x.cy, .int .i64 x.gr, .slice (some ⟨b0, off, none⟩) x.cs.length cap] 24)) hb0).c8
      have hkI : (k : Int) < (x.cs.length : Int) := by omega
      have hwr := wrap_nat hlt HN.out
      clear hat hcr
      by_cases h30 : 30 < c.lg.length
      · have h30I : (30 : Int) < (c.lg.length : Int) := by omega
        have HT : Hid (lgB x = true) := Lib.hid (decide_eq_true (.inl ⟨c, List.mem_of_getElem? hci, h30⟩))
        clear hci
        go_wp2_with fail
        go_ret
        exact ⟨ret_bool HT.out.symm, (Below.refl _ _).alloc (Nat.le_refl _) _⟩
      · have h30I : (c.lg.length : Int) ≤ 30 := by omega
        have HA' := Lib.hid (show ∀ q d, q < k + 1 → x.cs[q]? = some d → d.lg.length ≤ 30 from fun q d hq hd => by
          rcases Nat.lt_or_ge q k with g | g
          · exact HA.out q d g hd
          · obtain rfl : q = k := by omega
            rw [hci] at hd
            cases hd
            omega)
        clear hci
        go_wp2_with fail
        exact ⟨⟨k + 1, by omega, by go_num, HA'.out⟩, by simp [intOf]; omega⟩
    · have hkI : ¬ (k : Int) < (x.cs.length : Int) := by omega
      have HF : Hid (lgB x = decide (12 < (x.cs.length : Int))) := Lib.hid (by
        unfold lgB
        rw [decide_eq_decide]
        constructor
        · rintro (⟨c, hc, h⟩ | h)
          · obtain ⟨q, hq, rfl⟩ := List.mem_iff_getElem.1 hc
            have := HA.out q _ (by omega) (List.getElem?_eq_getElem hq)
            omega
          · omega
        · intro h; exact .inr (by omega))
      go_wp2_with fail
      go_ret
      exact ⟨ret_bool HF.out.symm, (Below.refl _ _).alloc (Nat.le_refl _) _⟩
set_option maxHeartbeats 1000000 in
theorem planes23 (A A' : Option Addr) (c c' : Nat) (ps : List (Int × Int)) (w : World) (hA : Is .i64 w w.heap.size A (flat ps)) (hA' : Is .i64 w w.heap.size A' (flat ps)) (hp : ps.length ≤ 1000) :
    Calls Tryz.prog 23 #[.slice A ps.length c, .slice A' ps.length c'] w fun e w' => e = .returned (.bool true) ∧ Below w.heap.size w w' := by
  have HA := Lib.hid hA
  have HA' := Lib.hid hA'
  clear hA hA'
  go_enter Tryz.func23, Tryz.ntmps23
  go_wp2_with fail
  go_loopw [5] (fun v wr => ∃ k : Nat, k ≤ ps.length ∧ v = .int .i64 k ∧ ∃ n, wr = w.drewN n) (fun v _ => ps.length - (intOf v).toNat)
  case atStart => exact ⟨0, Nat.zero_le _, rfl, 0, rfl⟩
  case round =>
    obtain ⟨k, hk, rfl, n, rfl⟩ := hrel
    by_cases hlt : k < ps.length
    · obtain ⟨b1, o1, rfl, hb1, hc1⟩ := HA.out (by rw [flat2_len]; omega)
      obtain ⟨b2, o2, rfl, hb2, hc2⟩ := HA'.out (by rw [flat2_len]; omega)
      obtain ⟨p, hp'⟩ : ∃ p, ps[k]? = some p := ⟨_, List.getElem?_eq_getElem hlt⟩
      have x0 := leg_cell0 hc1 hp'
      have x1 := leg_cell1 hc1 hp'
      have y0 := leg_cell0 hc2 hp'
      have y1 := leg_cell1 hc2 hp'
      have hkI : (k : Int) < (ps.length : Int) := by omega
      clear hc1 hc2 hp'
      go_wp2_with fail
      go_quiet (fail)
      go_wp2_with fail
      exact ⟨⟨k + 1, by omega, by go_num, _, rfl⟩, by simp [intOf]; omega⟩
    · have hkI : ¬ (k : Int) < (ps.length : Int) := by omega
      go_wp2_with fail
      go_ret
      exact ⟨rfl, below_drewN (Below.refl _ _) _⟩
def exT : Tx := [101, 110, 99, 111, 117, 110, 116, 101, 114, 32, 49, 48, 32, 48, 10, 99, 114, 97, 102, 116, 32, 55, 32, 97, 116, 32, 48, 32, 48, 32, 49, 48, 48, 48, 32, 109, 111, 118, 105, 110, 103, 32, 50, 32, 48, 32, 48, 32, 112, 117, 108, 108, 32, 53, 32, 109, 111, 100, 101, 32, 116, 97, 98, 108, 101, 115, 32, 112, 105, 108, 111, 116, 32, 53, 32, 56, 32, 48, 10, 108, 101, 103, 32, 51, 32, 49, 48, 10, 99, 114, 97, 102, 116, 32, 57, 32, 97, 116, 32, 51, 48, 32, 48, 32, 49, 48, 48, 48, 32, 109, 111, 118, 105, 110, 103, 32, 45, 49, 32, 48, 32, 48, 32, 112, 117, 108, 108, 32, 53, 32, 109, 111, 100, 101, 32, 110, 111, 110, 101, 32, 112, 105, 108, 111, 116, 32, 48, 32, 53, 32, 48, 10]
theorem ex_tx : txE exE = exT := by decide +kernel
theorem text56 (w : World) : Calls Tryz.prog 56 #[] w fun e w' => e = .returned (.string (S exT)) ∧ w = w' := by
  go_enter Tryz.func56, Tryz.ntmps56
  go_wp2_with fail
  go_ret
  exact ⟨rfl, rfl⟩
theorem ex_ch : chE exE = 0 := by decide +kernel
theorem ex_pa : paE exT = (exE, 0, 0) := by
  rw [← ex_tx]
  exact paE_tx ex_ch (by decide)
theorem ex_fo : foE exE = (exT, 0) := by
  unfold foE
  rw [if_neg (fun h => h ex_ch), ex_tx]
def exL : List (Int × Int) := [(1000, 0), (1000, 0), (1000, 0), (1000, 0), (1000, 5), (1005, 10), (1015, 10), (1025, 10), (1035, 10), (1045, 10), (1055, 10)]
theorem ex_path : pathR exE 0 = (exL, 0) := by decide +kernel
theorem ex_near : nearR exE 0 1 = ((10, 0), 0) := by decide +kernel
def exB : Tx := [101, 110, 99, 111, 117, 110, 116, 101, 114, 32, 49, 48, 32, 48, 10, 108, 101, 103, 32, 51, 32, 49, 48, 10]
theorem ex_bad : (paE exB).2 = (2, 2) ∧ (paE exB).1.cs = [] := by decide +kernel
end Go.Proofs.YtnnnpliigdfipaaGreatDoor
