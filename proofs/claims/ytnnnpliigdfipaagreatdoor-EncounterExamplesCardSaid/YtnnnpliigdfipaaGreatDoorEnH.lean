/- pilot.Check, moved. -/
import Derived.Test.YtnnnpliigdfipaaGreatDoorRows
import Derived.WalkKit
import Derived.WalkLawsBesides
import Derived.WalkSpells
import Derived.ProofKit
import Derived.Below
import Derived.Outline
import Derived.Lib.Hide
import Derived.Deep.RegionWith
import Derived.Deep.RegionHeld3
import Derived.Deep.DrawnRows
import Derived.StillTailTactics
import Derived.BigQuiet
import Derived.Deep.QuietTactic
import Derived.Deep.LoopGhost
import Derived.IntWalk
import Derived.Lib.MinMax
import Derived.Test.YtnnnpliigdfipaaGreatDoorEnU
namespace Go.Proofs.YtnnnpliigdfipaaGreatDoor
open Go.RowKit
attribute [local go_sem ↓] Go.wp_at_zero Go.wp_at_succ
attribute [local go_sem] wrap_lit
set_option maxHeartbeats 1000000 in
theorem pil107 (a b d : Int) (w : World) : Calls Tryz.prog 107 #[.agg #[.int .i64 a, .int .i64 b, .int .i64 d]] w fun e w' => e = .returned (.int .i64 (pilE a b d)) ∧ Below w.heap.size w w' := by
  by_cases a1 : a < 0
  · have HV : Hid (pilE a b d = 1) := Lib.hid (by unfold pilE; rw [if_neg]; rintro ⟨g1, g2, g3⟩; have := inB_iff g1; have := inB_iff g2; have := inB_iff g3; omega)
    go_enter Tryz.func107, Tryz.ntmps107
    go_wp2_with fail
    go_ret
    exact ⟨ret_int HV.out.symm, (Below.refl _ _).alloc (Nat.le_refl _) _⟩
  by_cases a2 : 16 < a
  · have HV : Hid (pilE a b d = 1) := Lib.hid (by unfold pilE; rw [if_neg]; rintro ⟨g1, g2, g3⟩; have := inB_iff g1; have := inB_iff g2; have := inB_iff g3; omega)
    go_enter Tryz.func107, Tryz.ntmps107
    go_wp2_with fail
    go_ret
    exact ⟨ret_int HV.out.symm, (Below.refl _ _).alloc (Nat.le_refl _) _⟩
  by_cases a3 : b < 1
  · have HV : Hid (pilE a b d = 1) := Lib.hid (by unfold pilE; rw [if_neg]; rintro ⟨g1, g2, g3⟩; have := inB_iff g1; have := inB_iff g2; have := inB_iff g3; omega)
    go_enter Tryz.func107, Tryz.ntmps107
    go_wp2_with fail
    go_ret
    exact ⟨ret_int HV.out.symm, (Below.refl _ _).alloc (Nat.le_refl _) _⟩
  by_cases a4 : 32 < b
  · have HV : Hid (pilE a b d = 1) := Lib.hid (by unfold pilE; rw [if_neg]; rintro ⟨g1, g2, g3⟩; have := inB_iff g1; have := inB_iff g2; have := inB_iff g3; omega)
    go_enter Tryz.func107, Tryz.ntmps107
    go_wp2_with fail
    go_ret
    exact ⟨ret_int HV.out.symm, (Below.refl _ _).alloc (Nat.le_refl _) _⟩
  by_cases a5 : d < 0
  · have HV : Hid (pilE a b d = 1) := Lib.hid (by unfold pilE; rw [if_neg]; rintro ⟨g1, g2, g3⟩; have := inB_iff g1; have := inB_iff g2; have := inB_iff g3; omega)
    go_enter Tryz.func107, Tryz.ntmps107
    go_wp2_with fail
    go_ret
    exact ⟨ret_int HV.out.symm, (Below.refl _ _).alloc (Nat.le_refl _) _⟩
  by_cases a6 : 100 < d
  · have HV : Hid (pilE a b d = 1) := Lib.hid (by unfold pilE; rw [if_neg]; rintro ⟨g1, g2, g3⟩; have := inB_iff g1; have := inB_iff g2; have := inB_iff g3; omega)
    go_enter Tryz.func107, Tryz.ntmps107
    go_wp2_with fail
    go_ret
    exact ⟨ret_int HV.out.symm, (Below.refl _ _).alloc (Nat.le_refl _) _⟩
  have HV : Hid (pilE a b d = 0) := Lib.hid (by unfold pilE; rw [if_pos ⟨inB_t (by omega) (by omega), inB_t (by omega) (by omega), inB_t (by omega) (by omega)⟩])
  go_enter Tryz.func107, Tryz.ntmps107
  go_wp2_with fail
  go_ret
  exact ⟨ret_int HV.out.symm, (Below.refl _ _).alloc (Nat.le_refl _) _⟩
set_option maxHeartbeats 1000000 in
theorem pil110 (a b d : Int) (w : World) : Calls Tryz.prog 110 #[.agg #[.int .i64 a, .int .i64 b, .int .i64 d]] w fun e w' => e = .returned (.int .i64 (pilE a b d)) ∧ Below w.heap.size w w' := by
  by_cases a1 : a < 0
  · have HV : Hid (pilE a b d = 1) := Lib.hid (by unfold pilE; rw [if_neg]; rintro ⟨g1, g2, g3⟩; have := inB_iff g1; have := inB_iff g2; have := inB_iff g3; omega)
    go_enter Tryz.func110, Tryz.ntmps110
    go_wp2_with fail
    go_ret
    exact ⟨ret_int HV.out.symm, (Below.refl _ _).alloc (Nat.le_refl _) _⟩
  by_cases a2 : 16 < a
  · have HV : Hid (pilE a b d = 1) := Lib.hid (by unfold pilE; rw [if_neg]; rintro ⟨g1, g2, g3⟩; have := inB_iff g1; have := inB_iff g2; have := inB_iff g3; omega)
    go_enter Tryz.func110, Tryz.ntmps110
    go_wp2_with fail
    go_ret
    exact ⟨ret_int HV.out.symm, (Below.refl _ _).alloc (Nat.le_refl _) _⟩
  by_cases a3 : b < 1
  · have HV : Hid (pilE a b d = 1) := Lib.hid (by unfold pilE; rw [if_neg]; rintro ⟨g1, g2, g3⟩; have := inB_iff g1; have := inB_iff g2; have := inB_iff g3; omega)
    go_enter Tryz.func110, Tryz.ntmps110
    go_wp2_with fail
    go_ret
    exact ⟨ret_int HV.out.symm, (Below.refl _ _).alloc (Nat.le_refl _) _⟩
  by_cases a4 : 32 < b
  · have HV : Hid (pilE a b d = 1) := Lib.hid (by unfold pilE; rw [if_neg]; rintro ⟨g1, g2, g3⟩; have := inB_iff g1; have := inB_iff g2; have := inB_iff g3; omega)
    go_enter Tryz.func110, Tryz.ntmps110
    go_wp2_with fail
    go_ret
    exact ⟨ret_int HV.out.symm, (Below.refl _ _).alloc (Nat.le_refl _) _⟩
  by_cases a5 : d < 0
  · have HV : Hid (pilE a b d = 1) := Lib.hid (by unfold pilE; rw [if_neg]; rintro ⟨g1, g2, g3⟩; have := inB_iff g1; have := inB_iff g2; have := inB_iff g3; omega)
    go_enter Tryz.func110, Tryz.ntmps110
    go_wp2_with fail
    go_ret
    exact ⟨ret_int HV.out.symm, (Below.refl _ _).alloc (Nat.le_refl _) _⟩
  by_cases a6 : 100 < d
  · have HV : Hid (pilE a b d = 1) := Lib.hid (by unfold pilE; rw [if_neg]; rintro ⟨g1, g2, g3⟩; have := inB_iff g1; have := inB_iff g2; have := inB_iff g3; omega)
    go_enter Tryz.func110, Tryz.ntmps110
    go_wp2_with fail
    go_ret
    exact ⟨ret_int HV.out.symm, (Below.refl _ _).alloc (Nat.le_refl _) _⟩
  have HV : Hid (pilE a b d = 0) := Lib.hid (by unfold pilE; rw [if_pos ⟨inB_t (by omega) (by omega), inB_t (by omega) (by omega), inB_t (by omega) (by omega)⟩])
  go_enter Tryz.func110, Tryz.ntmps110
  go_wp2_with fail
  go_ret
  exact ⟨ret_int HV.out.symm, (Below.refl _ _).alloc (Nat.le_refl _) _⟩
theorem mv_bd {k a : Int} (h0 : 0 ≤ k) (h1 : k ≤ 120) (a0 : -64 ≤ a) (a1 : a ≤ 64) : -7680 ≤ k * a ∧ k * a ≤ 7680 := by
  have := mul_bd (a := k) (b := a) (A := 120) (B := 64) (by omega) (by omega) (by omega) (by omega)
  omega
set_option maxHeartbeats 1000000 in
theorem moved82 (c : Cr) (LA : Option Addr) (cap : Nat) (k z : Int) (w : World) (hp : okP c.p) (hv : okV c.v) (h0 : 0 ≤ k) (h1 : k ≤ 120) : Calls Tryz.prog 82 #[.agg #[.int .i64 c.ad, .int .i64 c.p.x, .int .i64 c.p.y, .int .i64 c.p.z, .int .i64 c.v.x, .int .i64 c.v.y, .int .i64 c.v.z, .int .i64 c.pu, .slice LA c.lg.length cap, .int .u8 c.mo, .int .i64 c.de, .int .i64 c.pp, .int .i64 c.mi], .int .i64 k, .int .i64 z] w fun e w' => e = .returned (.agg #[.int .i64 (c.at k z).x, .int .i64 (c.at k z).y, .int .i64 (c.at k z).z]) ∧ Below w.heap.size w w' := by
  unfold okP at hp
  unfold okV at hv
  obtain ⟨m1, m2⟩ := mv_bd h0 h1 hv.1 hv.2.1
  obtain ⟨m3, m4⟩ := mv_bd h0 h1 hv.2.2.1 hv.2.2.2.1
  have q1 : IntKind.i64.wrap (k * c.v.x) = k * c.v.x := IntWalk.i64_in _ (by omega)
  have q2 : IntKind.i64.wrap (k * c.v.y) = k * c.v.y := IntWalk.i64_in _ (by omega)
  have q3 : IntKind.i64.wrap (c.p.x + k * c.v.x) = c.p.x + k * c.v.x := IntWalk.i64_in _ (by omega)
  have q4 : IntKind.i64.wrap (c.p.y + k * c.v.y) = c.p.y + k * c.v.y := IntWalk.i64_in _ (by omega)
  clear hp hv m1 m2 m3 m4 h0 h1
  go_enter Tryz.func82, Tryz.ntmps82
  go_wp2_with fail
  (try simp only [Exit.inBlock, Exit.then])
  exact bodyPost_ret (v := .agg #[.int .i64 (c.p.x + k * c.v.x), .int .i64 (c.p.y + k * c.v.y), .int .i64 z]) (by simp [results, Tryz.results82, go_sem]) rfl ⟨rfl, ((Below.refl _ _).alloc (Nat.le_refl _) _).alloc (by simp) _⟩
/-- the numbers of legs -/
def flat : List (Int × Int) → List Int
  | [] => []
  | x :: l => x.1 :: x.2 :: flat l
theorem bnot {b : Bool} (h : (!b) = false) : b = true := by cases b <;> simp_all
theorem legE_1 {cy l : Int} {x : Int × Int} {r : List (Int × Int)} (h : (!inB x.1 l (cy - 1)) = true) : legE cy l (x :: r) = 2 := by
  unfold legE; rw [if_pos (by simpa using h)]
theorem legE_2 {cy l : Int} {x : Int × Int} {r : List (Int × Int)} (g : inB x.1 l (cy - 1) = true) (h : (!inB x.2 (-100) 100) = true) : legE cy l (x :: r) = 1 := by
  unfold legE; rw [if_neg (by rw [g]; decide), if_pos (by simpa using h)]
theorem legE_3 {cy l : Int} {x : Int × Int} {r : List (Int × Int)} (g : inB x.1 l (cy - 1) = true) (h : inB x.2 (-100) 100 = true) : legE cy l (x :: r) = legE cy (x.1 + 1) r := by
  conv => lhs; unfold legE
  rw [if_neg (by rw [g]; decide), if_neg (by rw [h]; decide)]
theorem flat2_len : ∀ l : List (Int × Int), (flat l).length = l.length * 2
  | [] => rfl
  | x :: l => by simp only [flat, List.length_cons, flat2_len l]; omega
theorem nth_flat : ∀ (l : List (Int × Int)) (n : Nat) (h : n < l.length), nth (flat l) (n * 2) = l[n].1 ∧ nth (flat l) (n * 2 + 1) = l[n].2
  | [], n, h => absurd h (by simp)
  | x :: l, 0, h => ⟨rfl, rfl⟩
  | x :: l, n + 1, h => by
    have := nth_flat l n (by simpa using h)
    have e : (n + 1) * 2 = n * 2 + 1 + 1 := by omega
    rw [e]
    simpa [flat, nth] using this
theorem ckP_ok {p : V3} (h : (ckP p != 0) = false) : okP p := by
  apply Decidable.byContradiction; intro hn; unfold ckP at h; rw [if_neg hn] at h; simp at h
theorem ckV_ok {p : V3} (h : (ckV p != 0) = false) : okV p := by
  apply Decidable.byContradiction; intro hn; unfold ckV at h; rw [if_neg hn] at h; simp at h
theorem crE_1 (c : Cr) (cy : Int) (h : (ckP c.p != 0) = true) : crE c cy = ckP c.p := by unfold crE; simp at h; simp [h]
theorem crE_2 (c : Cr) (cy : Int) (g1 : (ckP c.p != 0) = false) (h : (ckV c.v != 0) = true) : crE c cy = ckV c.v := by unfold crE; simp at g1 h; simp [g1, h]
theorem crE_3 (c : Cr) (cy : Int) (g1 : (ckP c.p != 0) = false) (g2 : (ckV c.v != 0) = false) (h : (ckP (c.at cy c.p.z) != 0) = true) : crE c cy = 7 := by unfold crE; simp at g1 g2 h; simp [g1, g2, h]
theorem crE_4 (c : Cr) (cy : Int) (g1 : (ckP c.p != 0) = false) (g2 : (ckV c.v != 0) = false) (g3 : (ckP (c.at cy c.p.z) != 0) = false) (h : (!inB c.pu 1 32) = true) : crE c cy = 1 := by unfold crE; simp at g1 g2 g3 h; simp [g1, g2, g3, h]
theorem crE_5 (c : Cr) (cy : Int) (g1 : (ckP c.p != 0) = false) (g2 : (ckV c.v != 0) = false) (g3 : (ckP (c.at cy c.p.z) != 0) = false) (g4 : (!inB c.pu 1 32) = false) (h : 2 < c.mo) : crE c cy = 6 := by unfold crE; simp at g1 g2 g3 g4; simp [g1, g2, g3, g4, h]
theorem crE_6 (c : Cr) (cy : Int) (g1 : (ckP c.p != 0) = false) (g2 : (ckV c.v != 0) = false) (g3 : (ckP (c.at cy c.p.z) != 0) = false) (g4 : (!inB c.pu 1 32) = false) (g5 : c.mo ≤ 2) (h : (pilE c.de c.pp c.mi != 0) = true) : crE c cy = pilE c.de c.pp c.mi := by unfold crE; simp at g1 g2 g3 g4 h; simp [g1, g2, g3, g4, Int.not_lt.2 g5, h]
theorem crE_7 (c : Cr) (cy : Int) (g1 : (ckP c.p != 0) = false) (g2 : (ckV c.v != 0) = false) (g3 : (ckP (c.at cy c.p.z) != 0) = false) (g4 : (!inB c.pu 1 32) = false) (g5 : c.mo ≤ 2) (g6 : (pilE c.de c.pp c.mi != 0) = false) (h : 16 < (c.lg.length : Int)) : crE c cy = 4 := by unfold crE; simp at g1 g2 g3 g4 g6; have h' : 16 < c.lg.length := (by omega); simp [g1, g2, g3, g4, Int.not_lt.2 g5, g6, h']
theorem crE_8 (c : Cr) (cy : Int) (g1 : (ckP c.p != 0) = false) (g2 : (ckV c.v != 0) = false) (g3 : (ckP (c.at cy c.p.z) != 0) = false) (g4 : (!inB c.pu 1 32) = false) (g5 : c.mo ≤ 2) (g6 : (pilE c.de c.pp c.mi != 0) = false) (h : (c.lg.length : Int) ≤ 16) : crE c cy = legE cy 0 c.lg := by unfold crE; simp at g1 g2 g3 g4 g6; have h' : ¬ 16 < c.lg.length := (by omega); simp [g1, g2, g3, g4, Int.not_lt.2 g5, g6, h']
set_option maxHeartbeats 4000000 in
theorem craft74 (c : Cr) (LA : Option Addr) (cap : Nat) (cy : Int) (B : Nat) (w : World) (h0 : 1 ≤ cy) (h1 : cy ≤ 120) (hl : Is .i64 w B LA (flat c.lg)) (hB : B ≤ w.heap.size) : Calls Tryz.prog 74 #[.agg #[.int .i64 c.ad, .int .i64 c.p.x, .int .i64 c.p.y, .int .i64 c.p.z, .int .i64 c.v.x, .int .i64 c.v.y, .int .i64 c.v.z, .int .i64 c.pu, .slice LA c.lg.length cap, .int .u8 c.mo, .int .i64 c.de, .int .i64 c.pp, .int .i64 c.mi], .int .i64 cy] w fun e w' => e = .returned (.int .i64 (crE c cy)) ∧ Below w.heap.size w w' := by
  go_enter Tryz.func74, Tryz.ntmps74
  go_wp2_with fail
  obtain ⟨W0, hW0⟩ : ∃ W0, W0 = w.alloc (.cells #[.int .i64 c.ad, .int .i64 c.p.x, .int .i64 c.p.y, .int .i64 c.p.z, .int .i64 c.v.x, .int .i64 c.v.y, .int .i64 c.v.z, .int .i64 c.pu, .slice LA c.lg.length cap, .int .u8 c.mo, .int .i64 c.de, .int .i64 c.pp, .int .i64 c.mi] 63) := ⟨_, rfl⟩
  have BW0 : Hid (Below w.heap.size w W0) := Lib.hid (by rw [hW0]; exact (Below.refl _ _).alloc (Nat.le_refl _) _)
  have zcW0 : w.heap.size < W0.heap.size := by rw [hW0]; simp <;> omega
  have cW0_0 : W0.cell? ⟨w.heap.size, 0, none⟩ = some (.int .i64 c.ad) := by rw [hW0]; go_simp
  have cW0_1 : W0.cell? ⟨w.heap.size, 1, none⟩ = some (.int .i64 c.p.x) := by rw [hW0]; go_simp
  have cW0_2 : W0.cell? ⟨w.heap.size, 2, none⟩ = some (.int .i64 c.p.y) := by rw [hW0]; go_simp
  have cW0_3 : W0.cell? ⟨w.heap.size, 3, none⟩ = some (.int .i64 c.p.z) := by rw [hW0]; go_simp
  have cW0_4 : W0.cell? ⟨w.heap.size, 4, none⟩ = some (.int .i64 c.v.x) := by rw [hW0]; go_simp
  have cW0_5 : W0.cell? ⟨w.heap.size, 5, none⟩ = some (.int .i64 c.v.y) := by rw [hW0]; go_simp
  have cW0_6 : W0.cell? ⟨w.heap.size, 6, none⟩ = some (.int .i64 c.v.z) := by rw [hW0]; go_simp
  have cW0_7 : W0.cell? ⟨w.heap.size, 7, none⟩ = some (.int .i64 c.pu) := by rw [hW0]; go_simp
  have cW0_8 : W0.cell? ⟨w.heap.size, 8, none⟩ = some (.slice LA c.lg.length cap) := by rw [hW0]; go_simp
  have cW0_9 : W0.cell? ⟨w.heap.size, 9, none⟩ = some (.int .u8 c.mo) := by rw [hW0]; go_simp
  have cW0_10 : W0.cell? ⟨w.heap.size, 10, none⟩ = some (.int .i64 c.de) := by rw [hW0]; go_simp
  have cW0_11 : W0.cell? ⟨w.heap.size, 11, none⟩ = some (.int .i64 c.pp) := by rw [hW0]; go_simp
  have cW0_12 : W0.cell? ⟨w.heap.size, 12, none⟩ = some (.int .i64 c.mi) := by rw [hW0]; go_simp
  have mW0 : w.heap.size ≤ W0.heap.size := by rw [hW0]; simp <;> omega
  rw [← hW0]
  clear hW0
  refine (chkB31 c.p _).mono ?_
  rintro e w1 ⟨rfl, hw1⟩
  have Bw1 : Hid (Below w.heap.size w w1) := Lib.hid (BW0.out.trans ((hw1).mono mW0))
  have mw1 : w.heap.size ≤ w1.heap.size := Nat.le_trans mW0 (hw1).size
  have zcw1 : w.heap.size < w1.heap.size := Nat.lt_of_lt_of_le zcW0 (hw1).size
  have cw1_0 := ((hw1).cell (p := ⟨w.heap.size, 0, none⟩) zcW0).trans cW0_0
  have cw1_1 := ((hw1).cell (p := ⟨w.heap.size, 1, none⟩) zcW0).trans cW0_1
  have cw1_2 := ((hw1).cell (p := ⟨w.heap.size, 2, none⟩) zcW0).trans cW0_2
  have cw1_3 := ((hw1).cell (p := ⟨w.heap.size, 3, none⟩) zcW0).trans cW0_3
  have cw1_4 := ((hw1).cell (p := ⟨w.heap.size, 4, none⟩) zcW0).trans cW0_4
  have cw1_5 := ((hw1).cell (p := ⟨w.heap.size, 5, none⟩) zcW0).trans cW0_5
  have cw1_6 := ((hw1).cell (p := ⟨w.heap.size, 6, none⟩) zcW0).trans cW0_6
  have cw1_7 := ((hw1).cell (p := ⟨w.heap.size, 7, none⟩) zcW0).trans cW0_7
  have cw1_8 := ((hw1).cell (p := ⟨w.heap.size, 8, none⟩) zcW0).trans cW0_8
  have cw1_9 := ((hw1).cell (p := ⟨w.heap.size, 9, none⟩) zcW0).trans cW0_9
  have cw1_10 := ((hw1).cell (p := ⟨w.heap.size, 10, none⟩) zcW0).trans cW0_10
  have cw1_11 := ((hw1).cell (p := ⟨w.heap.size, 11, none⟩) zcW0).trans cW0_11
  have cw1_12 := ((hw1).cell (p := ⟨w.heap.size, 12, none⟩) zcW0).trans cW0_12
  clear BW0 mW0 cW0_0 cW0_1 cW0_2 cW0_3 cW0_4 cW0_5 cW0_6 cW0_7 cW0_8 cW0_9 cW0_10 cW0_11 cW0_12 zcW0
  clear hw1
  go_wp2_with fail
  · have HX := Lib.hid (crE_1 c cy (show (ckP c.p != 0) = true by assumption))
    go_ret
    exact ⟨ret_int HX.out.symm, Bw1.out⟩
  have G1 := Lib.hid (show (ckP c.p != 0) = false by assumption)
  refine (chkB33 c.v _).mono ?_
  rintro e w2 ⟨rfl, hw2⟩
  have Bw2 : Hid (Below w.heap.size w w2) := Lib.hid (Bw1.out.trans ((hw2).mono mw1))
  have mw2 : w.heap.size ≤ w2.heap.size := Nat.le_trans mw1 (hw2).size
  have zcw2 : w.heap.size < w2.heap.size := Nat.lt_of_lt_of_le zcw1 (hw2).size
  have cw2_0 := ((hw2).cell (p := ⟨w.heap.size, 0, none⟩) zcw1).trans cw1_0
  have cw2_1 := ((hw2).cell (p := ⟨w.heap.size, 1, none⟩) zcw1).trans cw1_1
  have cw2_2 := ((hw2).cell (p := ⟨w.heap.size, 2, none⟩) zcw1).trans cw1_2
  have cw2_3 := ((hw2).cell (p := ⟨w.heap.size, 3, none⟩) zcw1).trans cw1_3
  have cw2_4 := ((hw2).cell (p := ⟨w.heap.size, 4, none⟩) zcw1).trans cw1_4
  have cw2_5 := ((hw2).cell (p := ⟨w.heap.size, 5, none⟩) zcw1).trans cw1_5
  have cw2_6 := ((hw2).cell (p := ⟨w.heap.size, 6, none⟩) zcw1).trans cw1_6
  have cw2_7 := ((hw2).cell (p := ⟨w.heap.size, 7, none⟩) zcw1).trans cw1_7
  have cw2_8 := ((hw2).cell (p := ⟨w.heap.size, 8, none⟩) zcw1).trans cw1_8
  have cw2_9 := ((hw2).cell (p := ⟨w.heap.size, 9, none⟩) zcw1).trans cw1_9
  have cw2_10 := ((hw2).cell (p := ⟨w.heap.size, 10, none⟩) zcw1).trans cw1_10
  have cw2_11 := ((hw2).cell (p := ⟨w.heap.size, 11, none⟩) zcw1).trans cw1_11
  have cw2_12 := ((hw2).cell (p := ⟨w.heap.size, 12, none⟩) zcw1).trans cw1_12
  clear Bw1 mw1 cw1_0 cw1_1 cw1_2 cw1_3 cw1_4 cw1_5 cw1_6 cw1_7 cw1_8 cw1_9 cw1_10 cw1_11 cw1_12 zcw1
  clear hw2
  go_wp2_with fail
  · have HX := Lib.hid (crE_2 c cy G1.out (show (ckV c.v != 0) = true by assumption))
    go_ret
    exact ⟨ret_int HX.out.symm, Bw2.out⟩
  have G2 := Lib.hid (show (ckV c.v != 0) = false by assumption)
  refine (moved82 c LA cap cy c.p.z _ (ckP_ok G1.out) (ckV_ok G2.out) (by omega) h1).mono ?_
  rintro e w3 ⟨rfl, hw3⟩
  have Bw3 : Hid (Below w.heap.size w w3) := Lib.hid (Bw2.out.trans ((hw3).mono mw2))
  have mw3 : w.heap.size ≤ w3.heap.size := Nat.le_trans mw2 (hw3).size
  have zcw3 : w.heap.size < w3.heap.size := Nat.lt_of_lt_of_le zcw2 (hw3).size
  have cw3_0 := ((hw3).cell (p := ⟨w.heap.size, 0, none⟩) zcw2).trans cw2_0
  have cw3_1 := ((hw3).cell (p := ⟨w.heap.size, 1, none⟩) zcw2).trans cw2_1
  have cw3_2 := ((hw3).cell (p := ⟨w.heap.size, 2, none⟩) zcw2).trans cw2_2
  have cw3_3 := ((hw3).cell (p := ⟨w.heap.size, 3, none⟩) zcw2).trans cw2_3
  have cw3_4 := ((hw3).cell (p := ⟨w.heap.size, 4, none⟩) zcw2).trans cw2_4
  have cw3_5 := ((hw3).cell (p := ⟨w.heap.size, 5, none⟩) zcw2).trans cw2_5
  have cw3_6 := ((hw3).cell (p := ⟨w.heap.size, 6, none⟩) zcw2).trans cw2_6
  have cw3_7 := ((hw3).cell (p := ⟨w.heap.size, 7, none⟩) zcw2).trans cw2_7
  have cw3_8 := ((hw3).cell (p := ⟨w.heap.size, 8, none⟩) zcw2).trans cw2_8
  have cw3_9 := ((hw3).cell (p := ⟨w.heap.size, 9, none⟩) zcw2).trans cw2_9
  have cw3_10 := ((hw3).cell (p := ⟨w.heap.size, 10, none⟩) zcw2).trans cw2_10
  have cw3_11 := ((hw3).cell (p := ⟨w.heap.size, 11, none⟩) zcw2).trans cw2_11
  have cw3_12 := ((hw3).cell (p := ⟨w.heap.size, 12, none⟩) zcw2).trans cw2_12
  clear Bw2 mw2 cw2_0 cw2_1 cw2_2 cw2_3 cw2_4 cw2_5 cw2_6 cw2_7 cw2_8 cw2_9 cw2_10 cw2_11 cw2_12 zcw2
  clear hw3
  go_wp2_with fail
  refine (chkB31 (c.at cy c.p.z) _).mono ?_
  rintro e w4 ⟨rfl, hw4⟩
  have Bw4 : Hid (Below w.heap.size w w4) := Lib.hid (Bw3.out.trans ((hw4).mono mw3))
  have mw4 : w.heap.size ≤ w4.heap.size := Nat.le_trans mw3 (hw4).size
  have zcw4 : w.heap.size < w4.heap.size := Nat.lt_of_lt_of_le zcw3 (hw4).size
  have cw4_0 := ((hw4).cell (p := ⟨w.heap.size, 0, none⟩) zcw3).trans cw3_0
  have cw4_1 := ((hw4).cell (p := ⟨w.heap.size, 1, none⟩) zcw3).trans cw3_1
  have cw4_2 := ((hw4).cell (p := ⟨w.heap.size, 2, none⟩) zcw3).trans cw3_2
  have cw4_3 := ((hw4).cell (p := ⟨w.heap.size, 3, none⟩) zcw3).trans cw3_3
  have cw4_4 := ((hw4).cell (p := ⟨w.heap.size, 4, none⟩) zcw3).trans cw3_4
  have cw4_5 := ((hw4).cell (p := ⟨w.heap.size, 5, none⟩) zcw3).trans cw3_5
  have cw4_6 := ((hw4).cell (p := ⟨w.heap.size, 6, none⟩) zcw3).trans cw3_6
  have cw4_7 := ((hw4).cell (p := ⟨w.heap.size, 7, none⟩) zcw3).trans cw3_7
  have cw4_8 := ((hw4).cell (p := ⟨w.heap.size, 8, none⟩) zcw3).trans cw3_8
  have cw4_9 := ((hw4).cell (p := ⟨w.heap.size, 9, none⟩) zcw3).trans cw3_9
  have cw4_10 := ((hw4).cell (p := ⟨w.heap.size, 10, none⟩) zcw3).trans cw3_10
  have cw4_11 := ((hw4).cell (p := ⟨w.heap.size, 11, none⟩) zcw3).trans cw3_11
  have cw4_12 := ((hw4).cell (p := ⟨w.heap.size, 12, none⟩) zcw3).trans cw3_12
  clear Bw3 mw3 cw3_0 cw3_1 cw3_2 cw3_3 cw3_4 cw3_5 cw3_6 cw3_7 cw3_8 cw3_9 cw3_10 cw3_11 cw3_12 zcw3
  clear hw4
  go_wp2_with fail
  · have HX := Lib.hid (crE_3 c cy G1.out G2.out (show (ckP (c.at cy c.p.z) != 0) = true by assumption))
    go_ret
    exact ⟨ret_int HX.out.symm, Bw4.out⟩
  have G3 := Lib.hid (show (ckP (c.at cy c.p.z) != 0) = false by assumption)
  refine (outside71 c.pu 1 32 _).mono ?_
  rintro e wS ⟨rfl, rfl⟩
  go_wp2_with fail
  · have HX := Lib.hid (crE_4 c cy G1.out G2.out G3.out (show (!inB c.pu 1 32) = true by assumption))
    go_ret
    exact ⟨ret_int HX.out.symm, Bw4.out⟩
  · have HX := Lib.hid (crE_5 c cy G1.out G2.out G3.out (by assumption) (show 2 < c.mo by assumption))
    go_ret
    exact ⟨ret_int HX.out.symm, Bw4.out⟩
  have G4 := Lib.hid (show (!inB c.pu 1 32) = false by assumption)
  have G5 := Lib.hid (show c.mo ≤ 2 by assumption)
  refine (pil107 c.de c.pp c.mi _).mono ?_
  rintro e w5 ⟨rfl, hw5⟩
  have Bw5 : Hid (Below w.heap.size w w5) := Lib.hid (Bw4.out.trans ((hw5).mono mw4))
  have mw5 : w.heap.size ≤ w5.heap.size := Nat.le_trans mw4 (hw5).size
  have zcw5 : w.heap.size < w5.heap.size := Nat.lt_of_lt_of_le zcw4 (hw5).size
  have cw5_0 := ((hw5).cell (p := ⟨w.heap.size, 0, none⟩) zcw4).trans cw4_0
  have cw5_1 := ((hw5).cell (p := ⟨w.heap.size, 1, none⟩) zcw4).trans cw4_1
  have cw5_2 := ((hw5).cell (p := ⟨w.heap.size, 2, none⟩) zcw4).trans cw4_2
  have cw5_3 := ((hw5).cell (p := ⟨w.heap.size, 3, none⟩) zcw4).trans cw4_3
  have cw5_4 := ((hw5).cell (p := ⟨w.heap.size, 4, none⟩) zcw4).trans cw4_4
  have cw5_5 := ((hw5).cell (p := ⟨w.heap.size, 5, none⟩) zcw4).trans cw4_5
  have cw5_6 := ((hw5).cell (p := ⟨w.heap.size, 6, none⟩) zcw4).trans cw4_6
  have cw5_7 := ((hw5).cell (p := ⟨w.heap.size, 7, none⟩) zcw4).trans cw4_7
  have cw5_8 := ((hw5).cell (p := ⟨w.heap.size, 8, none⟩) zcw4).trans cw4_8
  have cw5_9 := ((hw5).cell (p := ⟨w.heap.size, 9, none⟩) zcw4).trans cw4_9
  have cw5_10 := ((hw5).cell (p := ⟨w.heap.size, 10, none⟩) zcw4).trans cw4_10
  have cw5_11 := ((hw5).cell (p := ⟨w.heap.size, 11, none⟩) zcw4).trans cw4_11
  have cw5_12 := ((hw5).cell (p := ⟨w.heap.size, 12, none⟩) zcw4).trans cw4_12
  clear Bw4 mw4 cw4_0 cw4_1 cw4_2 cw4_3 cw4_4 cw4_5 cw4_6 cw4_7 cw4_8 cw4_9 cw4_10 cw4_11 cw4_12 zcw4
  clear hw5
  go_wp2_with fail
  · have HX := Lib.hid (crE_6 c cy G1.out G2.out G3.out G4.out G5.out (show (pilE c.de c.pp c.mi != 0) = true by assumption))
    go_ret
    exact ⟨ret_int HX.out.symm, Bw5.out⟩
  · have HX := Lib.hid (crE_7 c cy G1.out G2.out G3.out G4.out G5.out (by assumption) (show 16 < (c.lg.length : Int) by assumption))
    go_ret
    exact ⟨ret_int HX.out.symm, Bw5.out⟩
  have G6 := Lib.hid (show (pilE c.de c.pp c.mi != 0) = false by assumption)
  have G7 := Lib.hid (show (c.lg.length : Int) ≤ 16 by assumption)
  have HF := Lib.hid (crE_8 c cy G1.out G2.out G3.out G4.out G5.out G6.out G7.out)
  have q1 : decide (2 < c.mo) = false := by simpa using G5.out
  have q2 : decide (16 < (c.lg.length : Int)) = false := by simpa using G7.out
  have q3 := G6.out
  simp only [q1, q2, q3]
  have LI := Lib.hid hl
  clear hl
  go_loopw [8, 53] (fun x y wr => ∃ (n : Nat) (l : Int), n ≤ c.lg.length ∧ x = .int .i64 l ∧ y = .int .i64 n ∧ 0 ≤ l ∧ l ≤ 120 ∧ legE cy l (c.lg.drop n) = crE c cy ∧ Below w.heap.size w wr) (fun _ y _ => c.lg.length - (intOf y).toNat)
  case atStart => exact ⟨0, 0, Nat.zero_le _, rfl, rfl, by omega, by omega, HF.out.symm, Bw5.out⟩
  case round =>
    obtain ⟨n, l, hn, rfl, rfl, l0, l1, hE, hb⟩ := hrel
    have HE := Lib.hid hE
    have HB := Lib.hid hb
    clear hE hb
    by_cases hlt : n < c.lg.length
    · obtain ⟨b, off, rfl, hbb, hc⟩ := LI.out (by rw [flat2_len]; omega)
      obtain ⟨x, hx⟩ : ∃ x, x = c.lg[n] := ⟨_, rfl⟩
      have d1 : c.lg.drop n = x :: c.lg.drop (n + 1) := by rw [hx]; exact List.drop_eq_getElem_cons hlt
      have HD := Lib.hid d1
      clear d1
      have e0 : wr.cell? ⟨b, off + n * 2, none⟩ = some (.int .i64 x.1) := by rw [HB.out.cell (p := ⟨b, off + n * 2, none⟩) (by show b < _; omega), hc (n * 2) (by rw [flat2_len]; omega), (nth_flat c.lg n hlt).1, hx]
      have e1 : wr.cell? ⟨b, off + n * 2 + 1, none⟩ = some (.int .i64 x.2) := by rw [HB.out.cell (p := ⟨b, off + n * 2 + 1, none⟩) (by show b < _; omega), Nat.add_assoc, hc (n * 2 + 1) (by rw [flat2_len]; omega), (nth_flat c.lg n hlt).2, hx]
      have hlI : (n : Int) < (c.lg.length : Int) := by omega
      clear hc hx
      go_wp2_with fail
      refine (outside71 x.1 l (cy - 1) _).mono ?_
      rintro e wS ⟨rfl, rfl⟩
      go_wp2_with fail
      · have HX : Hid (crE c cy = 2) := Lib.hid (by rw [← HE.out, HD.out]; exact legE_1 (by assumption))
        go_ret
        exact ⟨ret_int HX.out.symm, HB.out.alloc (by have := HB.out.size; omega) _⟩
      have g8 : inB x.1 l (cy - 1) = true := bnot (by assumption)
      obtain ⟨x0, x1⟩ := inB_iff g8
      have G8 := Lib.hid g8
      clear g8
      refine (outside71 x.2 (-100) 100 _).mono ?_
      rintro e wS ⟨rfl, rfl⟩
      go_wp2_with fail
      · have HX : Hid (crE c cy = 1) := Lib.hid (by rw [← HE.out, HD.out]; exact legE_2 G8.out (by assumption))
        go_ret
        exact ⟨ret_int HX.out.symm, HB.out.alloc (by have := HB.out.size; omega) _⟩
      have G9 : Hid (inB x.2 (-100) 100 = true) := Lib.hid (bnot (by assumption))
      exact ⟨⟨n + 1, x.1 + 1, by omega, rfl, by go_num, by omega, by omega, by rw [← HE.out, HD.out, legE_3 G8.out G9.out], HB.out.alloc (by have := HB.out.size; omega) _⟩, by simp [intOf]; omega⟩
    · have HX : Hid (crE c cy = 0) := Lib.hid (by rw [← HE.out, List.drop_eq_nil_of_le (by omega)]; rfl)
      have hlI : ¬ (n : Int) < (c.lg.length : Int) := by omega
      go_wp2_with fail
      go_ret
      exact ⟨ret_int HX.out.symm, HB.out⟩
end Go.Proofs.YtnnnpliigdfipaaGreatDoor
