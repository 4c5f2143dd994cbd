/- encounter: readPair. -/
import Derived.Test.YtnnnpliigdfipaaGreatDoorRows
import Derived.WalkKit
import Derived.WalkLawsBesides
import Derived.WalkSpells
import Derived.ProofKit
import Derived.Below
import Derived.Outline
import Derived.Lib.Hide
import Derived.Deep.RegionWith
import Derived.Deep.RegionHeld3
import Derived.Deep.DrawnRows
import Derived.StillTailTactics
import Derived.BigQuiet
import Derived.Deep.QuietTactic
import Derived.Deep.LoopGhost
import Derived.IntWalk
import Derived.Lib.MinMax
import Derived.Test.YtnnnpliigdfipaaGreatDoorEnX
namespace Go.Proofs.YtnnnpliigdfipaaGreatDoor
open Go.RowKit
attribute [local go_sem ↓] Go.wp_at_zero Go.wp_at_succ
attribute [local go_sem] wrap_lit
/-- a new scanner -/
theorem Sc.new {w : World} {A : Option Addr} {ws : List Tx} {c : Nat} (h : InT w w.heap.size A ws) (hc : ws.length ≤ c) : Sc w.heap.size (w.alloc (.cells #[.slice A ws.length c, .bool false] 134)) w.heap.size ws false :=
  ⟨A, c, heap_alloc_new _ _, h.below ((Below.refl _ _).alloc (Nat.le_refl _) _), hc, Nat.le_refl _⟩
/-- what the scanner's three steps of a pair give -/
theorem rd2_scan (p : Tx) (ws : List Tx) : rd2 p ws = if (ws.isEmpty = false ∧ ws.headD [] = p ∧ (numO (ws.tail.headD [])).isSome = true ∧ (numO (ws.tail.tail.headD [])).isSome = true ∧ ws.tail.tail.tail = []) then some ((numO (ws.tail.headD [])).getD 0, (numO (ws.tail.tail.headD [])).getD 0) else none := by
  have n0 : numO [] = none := numO_none (fun v => by simp [Lib.atoiAll])
  rcases ws with _ | ⟨x, _ | ⟨y, _ | ⟨z, r⟩⟩⟩
  · simp [rd2, readP]
  · simp [rd2, readP, n0]
  · by_cases hx : x = p
    · cases hy : numO y <;> simp [rd2, readP, n0, hx, hy]
    · simp [rd2, readP, n0, hx]
  · by_cases hx : x = p
    · cases hy : numO y with
      | none => simp [rd2, readP, hx, hy]
      | some a =>
        cases hz : numO z with
        | none => simp [rd2, readP, hx, hy, hz]
        | some b =>
          cases r with
          | nil => simp [rd2, readP, hx, hy, hz]
          | cons q s => simp [rd2, readP, hx, hy, hz]
    · simp [rd2, readP, hx]
theorem ok_gen (i0 : Bool) (hd p : Tx) (i1 i2 : Option Int) (i3 : List Tx) : (!(false || i0 || hd != p || i1.isNone || i2.isNone) && i3.isEmpty) = (if (i0 = false ∧ hd = p ∧ i1.isSome = true ∧ i2.isSome = true ∧ i3 = []) then some (i1.getD 0, i2.getD 0) else none).isSome := by
  by_cases hh : hd = p <;> cases i0 <;> cases i1 <;> cases i2 <;> cases i3 <;> simp [hh]
theorem ret_ok3 {a b : Int} {x y : Bool} (h : x = y) : Ending.returned (.tuple #[.int .i64 a, .int .i64 b, .bool x]) = .returned (.tuple #[.int .i64 a, .int .i64 b, .bool y]) := by rw [h]
set_option maxHeartbeats 2000000 in
theorem pair69 (K : Nat) (A : Option Addr) (c : Nat) (ws : List Tx) (p : Tx) (w : World) (E : Env K w) (hK : K ≤ w.heap.size) (h : InT w w.heap.size A ws) (hc : ws.length ≤ c) (hl : ws.length ≤ 100000) (hw : ∀ x ∈ ws, x.length ≤ 100000) : Calls Tryz.prog 69 #[.slice A ws.length c, .string (S p)] w fun e w' => (∃ a b : Int, e = .returned (.tuple #[.int .i64 a, .int .i64 b, .bool (rd2 p ws).isSome]) ∧ ∀ x y, rd2 p ws = some (x, y) → a = x ∧ b = y) ∧ Below w.heap.size w w' := by
  have hw1 : ∀ x ∈ ws.tail, x.length ≤ 100000 := fun x hx => hw x (List.mem_of_mem_tail hx)
  have hw2 : ∀ x ∈ ws.tail.tail, x.length ≤ 100000 := fun x hx => hw1 x (List.mem_of_mem_tail hx)
  have l1 : ws.tail.length ≤ 100000 := by simp; omega
  have l2 : ws.tail.tail.length ≤ 100000 := by simp; omega
  have l3 : ws.tail.tail.tail.length ≤ 100000 := by simp; omega
  have S0 := Lib.hid (Sc.new h hc)
  go_enter Tryz.func69, Tryz.ntmps69
  go_wp2_with fail
  refine (word99 w.heap.size w.heap.size ws false p _ S0.out hl).mono ?_
  rintro e w1 ⟨rfl, s1, g1⟩
  have S1 := Lib.hid s1
  have B1 := Lib.hid (((Below.refl w.heap.size w).alloc (Nat.le_refl _) (.cells #[.slice A ws.length c, .bool false] 134)).grown g1 (by simp) (fun k hk => by injection hk with hk; omega))
  clear s1 g1 S0
  go_wp2_with fail
  refine (number100 K w.heap.size w.heap.size ws.tail _ w1 (E.below (B1.out.mono hK)) S1.out hK l1 hw1).mono ?_
  rintro e w2 ⟨rfl, s2, g2⟩
  have S2 := Lib.hid s2
  have B2 := Lib.hid (B1.out.grown g2 B1.out.size (fun k hk => by injection hk with hk; omega))
  clear s2 g2 S1 B1
  go_wp2_with fail
  refine (number100 K w.heap.size w.heap.size ws.tail.tail _ w2 (E.below (B2.out.mono hK)) S2.out hK l2 hw2).mono ?_
  rintro e w3 ⟨rfl, s3, g3⟩
  have S3 := Lib.hid s3
  have B3 := Lib.hid (B2.out.grown g3 B2.out.size (fun k hk => by injection hk with hk; omega))
  clear s3 g3 S2 B2
  go_wp2_with fail
  refine (done101 w.heap.size w.heap.size ws.tail.tail.tail _ w3 S3.out l3).mono ?_
  rintro e w4 ⟨rfl, rfl⟩
  have HR := Lib.hid (rd2_scan p ws)
  go_wp2_with fail
  go_ret3
  refine ⟨⟨_, _, ret_ok3 ?_, fun x y hxy => ?_⟩, B3.out⟩
  · rw [HR.out]
    simpa using ok_gen ws.isEmpty (ws.headD []) p (numO (ws.tail.headD [])) (numO (ws.tail.tail.headD [])) ws.tail.tail.tail
  · rw [HR.out] at hxy
    split at hxy
    · simp only [Option.some.injEq, Prod.mk.injEq] at hxy
      simpa using hxy
    · cases hxy
end Go.Proofs.YtnnnpliigdfipaaGreatDoor
