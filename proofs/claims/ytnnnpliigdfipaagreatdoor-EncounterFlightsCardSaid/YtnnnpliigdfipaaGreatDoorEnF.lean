/- The reference's plane: Check, wrong. -/
import Derived.Test.YtnnnpliigdfipaaGreatDoorRows
import Derived.WalkKit
import Derived.WalkLawsBesides
import Derived.WalkSpells
import Derived.ProofKit
import Derived.Below
import Derived.Outline
import Derived.Lib.Hide
import Derived.Deep.RegionWith
import Derived.Deep.RegionHeld3
import Derived.Deep.DrawnRows
import Derived.StillTailTactics
import Derived.BigQuiet
import Derived.Deep.QuietTactic
import Derived.Deep.LoopGhost
import Derived.IntWalk
import Derived.Lib.MinMax
import Derived.Test.YtnnnpliigdfipaaGreatDoorEnC
namespace Go.Proofs.YtnnnpliigdfipaaGreatDoor
open Go.RowKit
attribute [local go_sem ↓] Go.wp_at_zero Go.wp_at_succ
attribute [local go_sem] wrap_lit
theorem inB_false {a lo hi : Int} (h : a < lo ∨ hi < a) : inB a lo hi = false := by
  cases e : inB a lo hi with
  | false => rfl
  | true => exact absurd (inB_iff e) (by omega)
set_option maxHeartbeats 1000000 in
theorem pcheck111 (z v : Int) (w : World) : Calls Tryz.prog 111 #[.agg #[.int .i64 z, .int .i64 v]] w fun e w' => e = .returned (.int .i64 (plE z v)) ∧ Below w.heap.size w w' := by
  by_cases a1 : z < -1000
  · have HV : Hid (plE z v = 1) := Lib.hid (by unfold plE; first | rw [if_neg (by rw [inB_false (a := z) (by omega)]; simp)] | rw [if_neg (by rw [inB_false (a := v) (by omega)]; simp)])
    go_enter Tryz.func111, Tryz.ntmps111
    go_wp2_with fail
    go_ret
    exact ⟨ret_int HV.out.symm, (Below.refl _ _).alloc (Nat.le_refl _) _⟩
  by_cases a2 : 50000 < z
  · have HV : Hid (plE z v = 1) := Lib.hid (by unfold plE; first | rw [if_neg (by rw [inB_false (a := z) (by omega)]; simp)] | rw [if_neg (by rw [inB_false (a := v) (by omega)]; simp)])
    go_enter Tryz.func111, Tryz.ntmps111
    go_wp2_with fail
    go_ret
    exact ⟨ret_int HV.out.symm, (Below.refl _ _).alloc (Nat.le_refl _) _⟩
  by_cases a3 : v < -100
  · have HV : Hid (plE z v = 1) := Lib.hid (by unfold plE; first | rw [if_neg (by rw [inB_false (a := z) (by omega)]; simp)] | rw [if_neg (by rw [inB_false (a := v) (by omega)]; simp)])
    go_enter Tryz.func111, Tryz.ntmps111
    go_wp2_with fail
    go_ret
    exact ⟨ret_int HV.out.symm, (Below.refl _ _).alloc (Nat.le_refl _) _⟩
  by_cases a4 : 100 < v
  · have HV : Hid (plE z v = 1) := Lib.hid (by unfold plE; first | rw [if_neg (by rw [inB_false (a := z) (by omega)]; simp)] | rw [if_neg (by rw [inB_false (a := v) (by omega)]; simp)])
    go_enter Tryz.func111, Tryz.ntmps111
    go_wp2_with fail
    go_ret
    exact ⟨ret_int HV.out.symm, (Below.refl _ _).alloc (Nat.le_refl _) _⟩
  have HV : Hid (plE z v = 0) := Lib.hid (by unfold plE; rw [if_pos (by constructor <;> unfold inB <;> simp <;> omega)])
  go_enter Tryz.func111, Tryz.ntmps111
  go_wp2_with fail
  go_ret
  exact ⟨ret_int HV.out.symm, (Below.refl _ _).alloc (Nat.le_refl _) _⟩
/-- The reference's word on a band. -/
def wrE (lo hi : Int) : Int := if bdB lo hi = true then 0 else 1
theorem bdB_false {lo hi : Int} (h : lo < -100 ∨ 100 < lo ∨ hi < -100 ∨ 100 < hi ∨ hi < lo) : bdB lo hi = false := by
  unfold bdB
  cases e : inB lo (-100) hi with
  | false => rfl
  | true => have := inB_iff e; simp; omega
set_option maxHeartbeats 1000000 in
theorem wrong112 (lo hi : Int) (w : World) : Calls Tryz.prog 112 #[.int .i64 lo, .int .i64 hi] w fun e w' => e = .returned (.int .i64 (wrE lo hi)) ∧ w' = w := by
  by_cases a1 : lo < -100
  · have HV : Hid (wrE lo hi = 1) := Lib.hid (by unfold wrE; rw [bdB_false (by omega)]; rfl)
    go_enter Tryz.func112, Tryz.ntmps112
    go_wp2_with fail
    go_ret
    exact ⟨ret_int HV.out.symm, rfl⟩
  by_cases a2 : 100 < lo
  · have HV : Hid (wrE lo hi = 1) := Lib.hid (by unfold wrE; rw [bdB_false (by omega)]; rfl)
    go_enter Tryz.func112, Tryz.ntmps112
    go_wp2_with fail
    go_ret
    exact ⟨ret_int HV.out.symm, rfl⟩
  by_cases a3 : hi < -100
  · have HV : Hid (wrE lo hi = 1) := Lib.hid (by unfold wrE; rw [bdB_false (by omega)]; rfl)
    go_enter Tryz.func112, Tryz.ntmps112
    go_wp2_with fail
    go_ret
    exact ⟨ret_int HV.out.symm, rfl⟩
  by_cases a4 : 100 < hi
  · have HV : Hid (wrE lo hi = 1) := Lib.hid (by unfold wrE; rw [bdB_false (by omega)]; rfl)
    go_enter Tryz.func112, Tryz.ntmps112
    go_wp2_with fail
    go_ret
    exact ⟨ret_int HV.out.symm, rfl⟩
  by_cases a5 : hi < lo
  · have HV : Hid (wrE lo hi = 1) := Lib.hid (by unfold wrE; rw [bdB_false (by omega)]; rfl)
    go_enter Tryz.func112, Tryz.ntmps112
    go_wp2_with fail
    go_ret
    exact ⟨ret_int HV.out.symm, rfl⟩
  have HV : Hid (wrE lo hi = 0) := Lib.hid (by unfold wrE; rw [if_pos (by unfold bdB inB; simp; omega)])
  go_enter Tryz.func112, Tryz.ntmps112
  go_wp2_with fail
  go_ret
  exact ⟨ret_int HV.out.symm, rfl⟩
end Go.Proofs.YtnnnpliigdfipaaGreatDoor
