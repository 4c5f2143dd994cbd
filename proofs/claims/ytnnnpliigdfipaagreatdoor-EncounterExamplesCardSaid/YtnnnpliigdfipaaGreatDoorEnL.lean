/- encounter: Aim. -/
import Derived.Test.YtnnnpliigdfipaaGreatDoorRows
import Derived.WalkKit
import Derived.WalkLawsBesides
import Derived.WalkSpells
import Derived.ProofKit
import Derived.Below
import Derived.Outline
import Derived.Lib.Hide
import Derived.Deep.RegionWith
import Derived.Deep.RegionHeld3
import Derived.Deep.DrawnRows
import Derived.StillTailTactics
import Derived.BigQuiet
import Derived.Deep.QuietTactic
import Derived.Deep.LoopGhost
import Derived.IntWalk
import Derived.Lib.MinMax
import Derived.Test.YtnnnpliigdfipaaGreatDoorEnK
namespace Go.Proofs.YtnnnpliigdfipaaGreatDoor
open Go.RowKit
attribute [local go_sem ↓] Go.wp_at_zero Go.wp_at_succ
attribute [local go_sem] wrap_lit
theorem is1 {w : World} {b B : Nat} {i : Int} (h : w.cell? ⟨b, 0, none⟩ = some (.int .i64 i)) (hb : b < B) : Is .i64 w B (some ⟨b, 0, none⟩) [i] := fun _ =>
  ⟨b, 0, rfl, hb, fun j hj => by obtain rfl : j = 0 := by simpa using hj
                                 exact h⟩
theorem num1 (x : En) (A : Option Addr) (cap : Nat) (NA : Option Addr) (ncap : Nat) (i : Int) (w : World) (hc : InCr w w.heap.size A x.cs) (hcap : x.cs.length ≤ cap) (hn : Is .i64 w w.heap.size NA [i]) : Calls Tryz.prog 79 #[.agg #[.int .i64 x.cy, .int .i64 x.gr, .slice A x.cs.length cap], .slice NA 1 ncap] w fun e w' => e = .returned (.int .i64 (numE x [i])) ∧ Below w.heap.size w w' := numbers79 x A cap NA ncap [i] w hc hcap hn (by simp)
theorem num2 (x : En) (A : Option Addr) (cap : Nat) (NA : Option Addr) (ncap : Nat) (i k : Int) (w : World) (hc : InCr w w.heap.size A x.cs) (hcap : x.cs.length ≤ cap) (hn : Is .i64 w w.heap.size NA [i, k]) : Calls Tryz.prog 79 #[.agg #[.int .i64 x.cy, .int .i64 x.gr, .slice A x.cs.length cap], .slice NA 2 ncap] w fun e w' => e = .returned (.int .i64 (numE x [i, k])) ∧ Below w.heap.size w w' := numbers79 x A cap NA ncap [i, k] w hc hcap hn (by simp)
theorem ret_pr {R : Int × Int} {a c : Int} (h : R = (a, c)) : Ending.returned (.tuple #[.int .i64 a, .int .i64 c]) = .returned (.tuple #[.int .i64 R.1, .int .i64 R.2]) := by rw [h]
def crAt (x : En) (i : Int) : Cr := x.cs.getD i.toNat ⟨0, ⟨0, 0, 0⟩, ⟨0, 0, 0⟩, 0, [], 0, 0, 0, 0⟩
def aimR (x : En) (i k : Int) : Int × Int := if numE x [i] ≠ 0 then (0, numE x [i]) else if inB k 0 (x.cy - 1) = false then (0, 8) else (aimE (crAt x i) k, 0)
theorem crAt_n {x : En} {n : Nat} {c : Cr} (h : x.cs[n]? = some c) : crAt x n = c := by
  unfold crAt
  rw [List.getD_eq_getElem?_getD, show ((n : Int)).toNat = n by omega, h]; rfl
theorem cr_ok {x : En} {n : Nat} {c : Cr} (h : x.cs[n]? = some c) (hx : allE x.cy [] x.cs = 0) : inB c.ad 0 16777215 = true ∧ crE c x.cy = 0 := allE_ok x.cs [] hx c (List.mem_of_getElem? h)
set_option maxHeartbeats 2000000 in
theorem aim24 (x : En) (A : Option Addr) (cap : Nat) (i k : Int) (w : World) (hc : InCr w w.heap.size A x.cs) (hcap : x.cs.length ≤ cap) : Calls Tryz.prog 24 #[.agg #[.int .i64 x.cy, .int .i64 x.gr, .slice A x.cs.length cap], .int .i64 i, .int .i64 k] w fun e w' => e = .returned (.tuple #[.int .i64 (aimR x i k).1, .int .i64 (aimR x i k).2]) ∧ Below w.heap.size w w' := by
  by_cases hx : numE x [i] = 0
  · obtain ⟨h0, hi⟩ := numE_0 hx
    have hi0 := hi 0 (by simp)
    have OK := Lib.hid (chE_ok h0)
    simp only [nth, List.getD_cons_zero] at hi0
    obtain ⟨n, rfl⟩ : ∃ n : Nat, i = n := ⟨i.toNat, by omega⟩
    have hn : n < x.cs.length := by omega
    have hq : (numE x [(n : Int)] != 0) = false := by simp [hx]
    have HX := Lib.hid hx
    clear hx h0 hi hi0
    have q3 : IntKind.i64.wrap (x.cy - 1) = x.cy - 1 := by have := OK.out.1; exact IntWalk.i64_in _ (by omega)
    go_enter Tryz.func24, Tryz.ntmps24
    go_wp2_with fail
    obtain ⟨X1, hX1⟩ : ∃ X1, X1 = (w.alloc (.cells #[.int .i64 x.cy, .int .i64 x.gr, .slice A x.cs.length cap] 24)).alloc (.cells #[.int .i64 n] 3) := ⟨_, rfl⟩
    have BX1 : Hid (Below w.heap.size w X1) := Lib.hid (by rw [hX1]; exact ((Below.refl _ _).alloc (Nat.le_refl _) _).alloc (by simp) _)
    have zxX1 : w.heap.size < X1.heap.size := by rw [hX1]; simp <;> omega
    have xX1_0 : X1.cell? ⟨w.heap.size, 0, none⟩ = some (.int .i64 x.cy) := by rw [hX1]; go_simp
    have xX1_1 : X1.cell? ⟨w.heap.size, 1, none⟩ = some (.int .i64 x.gr) := by rw [hX1]; go_simp
    have xX1_2 : X1.cell? ⟨w.heap.size, 2, none⟩ = some (.slice A x.cs.length cap) := by rw [hX1]; go_simp
    have znX1 : w.heap.size + 1 < X1.heap.size := by rw [hX1]; simp <;> omega
    have nX1_0 : X1.cell? ⟨w.heap.size + 1, 0, none⟩ = some (.int .i64 n) := by rw [hX1]; go_simp
    have mX1 : w.heap.size ≤ X1.heap.size := by rw [hX1]; simp <;> omega
    rw [← hX1]
    clear hX1
    have IX1 := Lib.hid ((hc.below BX1.out).mono mX1)
    clear hc
    have N1 := is1 nX1_0 znX1
    refine (num1 x A cap _ 1 n X1 IX1.out hcap N1).mono ?_
    rintro e w1 ⟨rfl, hw1⟩
    have Bw1 : Hid (Below w.heap.size w w1) := Lib.hid (BX1.out.trans ((hw1).mono mX1))
    have mw1 : w.heap.size ≤ w1.heap.size := Nat.le_trans mX1 (hw1).size
    have zxw1 : w.heap.size < w1.heap.size := Nat.lt_of_lt_of_le zxX1 (hw1).size
    have xw1_0 := ((hw1).cell (p := ⟨w.heap.size, 0, none⟩) zxX1).trans xX1_0
    have xw1_1 := ((hw1).cell (p := ⟨w.heap.size, 1, none⟩) zxX1).trans xX1_1
    have xw1_2 := ((hw1).cell (p := ⟨w.heap.size, 2, none⟩) zxX1).trans xX1_2
    have znw1 : w.heap.size + 1 < w1.heap.size := Nat.lt_of_lt_of_le znX1 (hw1).size
    have nw1_0 := ((hw1).cell (p := ⟨w.heap.size + 1, 0, none⟩) znX1).trans nX1_0
    have Iw1 := Lib.hid ((IX1.out.below (hw1)).mono (hw1).size)
    clear BX1 mX1 xX1_0 xX1_1 xX1_2 zxX1 nX1_0 znX1 IX1
    clear hw1
    clear N1
    clear znw1 nw1_0
    obtain ⟨b, off, rfl, hbb, hcc⟩ := Iw1.out (by omega)
    obtain ⟨c, hcj⟩ : ∃ c, x.cs[n]? = some c := ⟨_, List.getElem?_eq_getElem (by omega)⟩
    obtain ⟨LA, cap', hA, hL⟩ := hcc n c hcj
    have Lw1 := Lib.hid hL
    have HJ := Lib.hid hcj
    clear hcc hcj hL
    obtain ⟨a0, a1, a2, a3, a4, a5, a6, a7, a8, a9, a10, a11, a12⟩ := hA
    go_wp2_with fail
    refine (outside71 k 0 (x.cy - 1) _).mono ?_
    rintro e wS ⟨rfl, rfl⟩
    go_wp2_with fail
    · have HZ : Hid (aimR x n k = (0, 8)) := Lib.hid (by unfold aimR; rw [if_neg (by rw [HX.out]; decide), if_pos (by simpa using (by assumption : (!inB k 0 (x.cy - 1)) = true))])
      go_ret2
      exact ⟨ret_pr HZ.out, Bw1.out⟩
    have G1 : Hid (inB k 0 (x.cy - 1) = true) := Lib.hid (bnot (by assumption))
    refine (aim80 c LA cap' k w1.heap.size _ Lw1.out (Nat.le_refl _) (crE_ok (cr_ok HJ.out OK.out.2.2.2.2).2).2.2.2.2.2.2.1).mono ?_
    rintro e w2 ⟨rfl, hb2⟩
    go_wp2_with fail
    have HZ : Hid (aimR x n k = (aimE c k, 0)) := Lib.hid (by unfold aimR; rw [if_neg (by rw [HX.out]; decide), if_neg (by rw [G1.out]; decide), crAt_n HJ.out])
    go_ret2
    exact ⟨ret_pr HZ.out, Bw1.out.trans (hb2.mono mw1)⟩
  · have hq : (numE x [i] != 0) = true := by simp [hx]
    have HZ : Hid (aimR x i k = (0, numE x [i])) := Lib.hid (by unfold aimR; rw [if_pos hx])
    clear hx
    go_enter Tryz.func24, Tryz.ntmps24
    go_wp2_with fail
    obtain ⟨X1, hX1⟩ : ∃ X1, X1 = (w.alloc (.cells #[.int .i64 x.cy, .int .i64 x.gr, .slice A x.cs.length cap] 24)).alloc (.cells #[.int .i64 i] 3) := ⟨_, rfl⟩
    have BX1 : Hid (Below w.heap.size w X1) := Lib.hid (by rw [hX1]; exact ((Below.refl _ _).alloc (Nat.le_refl _) _).alloc (by simp) _)
    have zxX1 : w.heap.size < X1.heap.size := by rw [hX1]; simp <;> omega
    have xX1_0 : X1.cell? ⟨w.heap.size, 0, none⟩ = some (.int .i64 x.cy) := by rw [hX1]; go_simp
    have xX1_1 : X1.cell? ⟨w.heap.size, 1, none⟩ = some (.int .i64 x.gr) := by rw [hX1]; go_simp
    have xX1_2 : X1.cell? ⟨w.heap.size, 2, none⟩ = some (.slice A x.cs.length cap) := by rw [hX1]; go_simp
    have znX1 : w.heap.size + 1 < X1.heap.size := by rw [hX1]; simp <;> omega
    have nX1_0 : X1.cell? ⟨w.heap.size + 1, 0, none⟩ = some (.int .i64 i) := by rw [hX1]; go_simp
    have mX1 : w.heap.size ≤ X1.heap.size := by rw [hX1]; simp <;> omega
    rw [← hX1]
    clear hX1
    have IX1 := Lib.hid ((hc.below BX1.out).mono mX1)
    clear hc
    have N1 := is1 nX1_0 znX1
    refine (num1 x A cap _ 1 i X1 IX1.out hcap N1).mono ?_
    rintro e w1 ⟨rfl, hw1⟩
    have Bw1 : Hid (Below w.heap.size w w1) := Lib.hid (BX1.out.trans ((hw1).mono mX1))
    have mw1 : w.heap.size ≤ w1.heap.size := Nat.le_trans mX1 (hw1).size
    have zxw1 : w.heap.size < w1.heap.size := Nat.lt_of_lt_of_le zxX1 (hw1).size
    have xw1_0 := ((hw1).cell (p := ⟨w.heap.size, 0, none⟩) zxX1).trans xX1_0
    have xw1_1 := ((hw1).cell (p := ⟨w.heap.size, 1, none⟩) zxX1).trans xX1_1
    have xw1_2 := ((hw1).cell (p := ⟨w.heap.size, 2, none⟩) zxX1).trans xX1_2
    have znw1 : w.heap.size + 1 < w1.heap.size := Nat.lt_of_lt_of_le znX1 (hw1).size
    have nw1_0 := ((hw1).cell (p := ⟨w.heap.size + 1, 0, none⟩) znX1).trans nX1_0
    have Iw1 := Lib.hid ((IX1.out.below (hw1)).mono (hw1).size)
    clear BX1 mX1 xX1_0 xX1_1 xX1_2 zxX1 nX1_0 znX1 IX1
    clear hw1
    clear N1
    clear znw1 nw1_0
    go_wp2_with fail
    go_ret2
    exact ⟨ret_pr HZ.out, Bw1.out⟩
end Go.Proofs.YtnnnpliigdfipaaGreatDoor
