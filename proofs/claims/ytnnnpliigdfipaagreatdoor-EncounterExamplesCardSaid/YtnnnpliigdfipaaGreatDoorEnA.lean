/- Planes: Check, Fly of the package and of the reference. -/
import Derived.Test.YtnnnpliigdfipaaGreatDoorRows
import Derived.WalkKit
import Derived.WalkLawsBesides
import Derived.WalkSpells
import Derived.ProofKit
import Derived.Below
import Derived.Outline
import Derived.Lib.Hide
import Derived.Deep.RegionWith
import Derived.Deep.RegionHeld3
import Derived.Deep.DrawnRows
import Derived.StillTailTactics
import Derived.BigQuiet
import Derived.Deep.QuietTactic
import Derived.Deep.LoopGhost
import Derived.IntWalk
import Derived.Lib.MinMax
import Derived.Test.YtnnnpliigdfipaaGreatDoorK2
namespace Go.Proofs.YtnnnpliigdfipaaGreatDoor
open Go.RowKit
attribute [local go_sem ↓] Go.wp_at_zero Go.wp_at_succ
attribute [local go_sem] wrap_lit
def inB (n lo hi : Int) : Bool := decide (lo ≤ n) && decide (n ≤ hi)
theorem inB_t {n lo hi : Int} (h1 : lo ≤ n) (h2 : n ≤ hi) : inB n lo hi = true := by simp [inB, h1, h2]
theorem inB_f {n lo hi : Int} (h : n < lo ∨ hi < n) : inB n lo hi = false := by
  cases e : inB n lo hi with
  | false => rfl
  | true => simp [inB] at e; omega
theorem inB_iff {n lo hi : Int} (h : inB n lo hi = true) : lo ≤ n ∧ n ≤ hi := by simpa [inB] using h
theorem inB_not {n lo hi : Int} (h : inB n lo hi = false) : n < lo ∨ hi < n := by
  rcases Int.lt_or_le n lo with g | g
  · exact .inl g
  · rcases Int.lt_or_le hi n with g' | g'
    · exact .inr g'
    · rw [inB_t g g'] at h; cases h
theorem in116 (n lo hi : Int) (w : World) : Calls Tryz.prog 116 #[.int .i64 n, .int .i64 lo, .int .i64 hi] w fun e w' => e = .returned (.bool (inB n lo hi)) ∧ w = w' := by
  by_cases h1 : lo ≤ n <;> by_cases h2 : n ≤ hi
  · have HV := Lib.hid (inB_t h1 h2)
    go_enter Tryz.func116, Tryz.ntmps116
    go_wp2_with fail
    go_ret
    exact ⟨ret_bool HV.out.symm, rfl⟩
  all_goals
    have HV := Lib.hid (inB_f (n := n) (lo := lo) (hi := hi) (by omega))
    go_enter Tryz.func116, Tryz.ntmps116
    go_wp2_with fail
    go_ret
    exact ⟨ret_bool HV.out.symm, rfl⟩
theorem outside71 (n lo hi : Int) (w : World) : Calls Tryz.prog 71 #[.int .i64 n, .int .i64 lo, .int .i64 hi] w fun e w' => e = .returned (.bool (!inB n lo hi)) ∧ w = w' := by
  by_cases h1 : lo ≤ n <;> by_cases h2 : n ≤ hi
  · have HV : Hid ((!inB n lo hi) = false) := Lib.hid (by rw [inB_t h1 h2]; rfl)
    have b1 : decide (n < lo) = false := by simp; omega
    have b2 : decide (hi < n) = false := by simp; omega
    clear h1 h2
    go_enter Tryz.func71, Tryz.ntmps71
    go_wp2_with fail
    go_ret
    exact ⟨ret_bool HV.out.symm, rfl⟩
  all_goals
    have HV : Hid ((!inB n lo hi) = true) := Lib.hid (by rw [inB_f (n := n) (lo := lo) (hi := hi) (by omega)]; rfl)
    go_enter Tryz.func71, Tryz.ntmps71
    go_wp2_with fail
    go_ret
    exact ⟨ret_bool HV.out.symm, rfl⟩
theorem within75 (n lo hi : Int) (w : World) : Calls Tryz.prog 75 #[.int .i64 n, .int .i64 lo, .int .i64 hi] w fun e w' => e = .returned (.bool (inB n lo hi)) ∧ w = w' := by
  by_cases h1 : lo ≤ n <;> by_cases h2 : n ≤ hi
  · have HV := Lib.hid (inB_t h1 h2)
    go_enter Tryz.func75, Tryz.ntmps75
    go_wp2_with fail
    go_ret
    exact ⟨ret_bool HV.out.symm, rfl⟩
  all_goals
    have HV := Lib.hid (inB_f (n := n) (lo := lo) (hi := hi) (by omega))
    go_enter Tryz.func75, Tryz.ntmps75
    go_wp2_with fail
    go_ret
    exact ⟨ret_bool HV.out.symm, rfl⟩
def plE (z v : Int) : Int := if inB z (-1000) 50000 = true ∧ inB v (-100) 100 = true then 0 else 1
set_option maxHeartbeats 1000000 in
theorem pcheck114 (z v : Int) (w : World) : Calls Tryz.prog 114 #[.agg #[.int .i64 z, .int .i64 v]] w fun e w' => e = .returned (.int .i64 (plE z v)) ∧ Below w.heap.size w w' := by
  cases h1 : inB z (-1000) 50000 with
  | false =>
    have HV : Hid (plE z v = 1) := Lib.hid (by unfold plE; rw [if_neg (by simp [h1])])
    have H1 := Lib.hid h1
    clear h1
    go_enter Tryz.func114, Tryz.ntmps114
    go_wp2_with fail
    refine (in116 z (-1000) 50000 _).mono ?_
    rintro e w1 ⟨rfl, rfl⟩
    rw [H1.out]
    go_wp2_with fail
    go_ret
    exact ⟨ret_int HV.out.symm, (Below.refl _ _).alloc (Nat.le_refl _) _⟩
  | true =>
    cases h2 : inB v (-100) 100 with
    | false =>
      have HV : Hid (plE z v = 1) := Lib.hid (by unfold plE; rw [if_neg (by simp [h2])])
      have H1 := Lib.hid h1
      have H2 := Lib.hid h2
      clear h1 h2
      go_enter Tryz.func114, Tryz.ntmps114
      go_wp2_with fail
      refine (in116 z (-1000) 50000 _).mono ?_
      rintro e w1 ⟨rfl, rfl⟩
      rw [H1.out]
      go_wp2_with fail
      refine (in116 v (-100) 100 _).mono ?_
      rintro e w1 ⟨rfl, rfl⟩
      rw [H2.out]
      go_wp2_with fail
      go_ret
      exact ⟨ret_int HV.out.symm, (Below.refl _ _).alloc (Nat.le_refl _) _⟩
    | true =>
      have HV : Hid (plE z v = 0) := Lib.hid (by unfold plE; rw [if_pos ⟨h1, h2⟩])
      have H1 := Lib.hid h1
      have H2 := Lib.hid h2
      clear h1 h2
      go_enter Tryz.func114, Tryz.ntmps114
      go_wp2_with fail
      refine (in116 z (-1000) 50000 _).mono ?_
      rintro e w1 ⟨rfl, rfl⟩
      rw [H1.out]
      go_wp2_with fail
      refine (in116 v (-100) 100 _).mono ?_
      rintro e w1 ⟨rfl, rfl⟩
      rw [H2.out]
      go_wp2_with fail
      go_ret
      exact ⟨ret_int HV.out.symm, (Below.refl _ _).alloc (Nat.le_refl _) _⟩
end Go.Proofs.YtnnnpliigdfipaaGreatDoor
