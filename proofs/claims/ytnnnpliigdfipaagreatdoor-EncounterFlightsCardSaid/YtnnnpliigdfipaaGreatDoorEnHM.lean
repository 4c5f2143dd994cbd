/- encounter: the reference's Where and Nearest. -/
import Derived.Test.YtnnnpliigdfipaaGreatDoorRows
import Derived.WalkKit
import Derived.WalkLawsBesides
import Derived.WalkSpells
import Derived.ProofKit
import Derived.Below
import Derived.Outline
import Derived.Lib.Hide
import Derived.Deep.RegionWith
import Derived.Deep.RegionHeld3
import Derived.Deep.DrawnRows
import Derived.StillTailTactics
import Derived.BigQuiet
import Derived.Deep.QuietTactic
import Derived.Deep.LoopGhost
import Derived.IntWalk
import Derived.Lib.MinMax
import Derived.OrdersHeld
import Derived.Deep.CutBlock
import Derived.Deep.CutRange
import Derived.Deep.DeepCutAuto
import Derived.Test.YtnnnpliigdfipaaGreatDoorEnHL
import Derived.Test.YtnnnpliigdfipaaGreatDoorEnO
import Derived.Test.YtnnnpliigdfipaaGreatDoorEnHR
import Derived.Test.YtnnnpliigdfipaaGreatDoorEnHC
namespace Go.Proofs.YtnnnpliigdfipaaGreatDoor
open Go.RowKit
attribute [local go_sem ↓] Go.wp_at_zero Go.wp_at_succ
attribute [local go_sem] wrap_lit
set_option maxRecDepth 100000 in
set_option maxHeartbeats 4000000 in
theorem where27 (x : En) (A : Option Addr) (cap : Nat) (i k : Int) (w : World) (hc : InCr w w.heap.size A x.cs) (hcap : x.cs.length ≤ cap) (hcm : cap ≤ maxLen) : Calls Tryz.prog 27 #[.agg #[.int .i64 x.cy, .int .i64 x.gr, .slice A x.cs.length cap], .int .i64 i, .int .i64 k] w fun e w' => e = .returned (.tuple #[.agg #[.int .i64 (wheR x i k).1.x, .int .i64 (wheR x i k).1.y, .int .i64 (wheR x i k).1.z], .int .i64 (wheR x i k).2]) ∧ Below w.heap.size w w' := by
  have Iw := Lib.hid hc
  clear hc
  go_enter Tryz.func27, Tryz.ntmps27
  go_wp2_with fail
  obtain ⟨w0, hw0⟩ : ∃ w0, w0 = (w.alloc (.cells #[.int .i64 x.cy, .int .i64 x.gr, .slice A x.cs.length cap] 24)).alloc (.cells #[.int .i64 0, .int .i64 0, .int .i64 0] 46) := ⟨_, rfl⟩
  have bw0 : Below w.heap.size w w0 := by rw [hw0]; exact ((Below.refl _ _).alloc (Nat.le_refl _) _).alloc (by simp) _
  have Xw0 := Lib.hid (show w0.heap[w.heap.size]? = some (.cells #[.int .i64 x.cy, .int .i64 x.gr, .slice A x.cs.length cap] 24 (0, 0)) by rw [hw0]; exact (Below.heap_alloc _ _ _ (by simp)).trans (heap_alloc_new _ _))
  have Rw0 := Lib.hid (show w0.heap[w.heap.size + 1]? = some (.cells #[.int .i64 0, .int .i64 0, .int .i64 0] 46 (0, 0)) by rw [hw0]; exact heap_alloc_at _ _ _ (by simp))
  have Bw0 : Hid (Below w.heap.size w w0) := Lib.hid ((bw0))
  have mw0 : w.heap.size ≤ w0.heap.size := (bw0).size
  have Iw0 := Lib.hid ((Iw.out.below (bw0)).mono (bw0).size)
  clear Iw
  rw [← hw0]
  clear hw0 bw0
  have Xc0w0 : w0.cell? ⟨w.heap.size, 0, none⟩ = some (.int .i64 x.cy) := by simp [World.cell?, Xw0.out]
  have Xc1w0 : w0.cell? ⟨w.heap.size, 1, none⟩ = some (.int .i64 x.gr) := by simp [World.cell?, Xw0.out]
  have Xc2w0 : w0.cell? ⟨w.heap.size, 2, none⟩ = some (.slice A x.cs.length cap) := by simp [World.cell?, Xw0.out]
  have Rc0w0 : w0.cell? ⟨w.heap.size + 1, 0, none⟩ = some (.int .i64 0) := by simp [World.cell?, Rw0.out]
  have Rc1w0 : w0.cell? ⟨w.heap.size + 1, 1, none⟩ = some (.int .i64 0) := by simp [World.cell?, Rw0.out]
  have Rc2w0 : w0.cell? ⟨w.heap.size + 1, 2, none⟩ = some (.int .i64 0) := by simp [World.cell?, Rw0.out]
  have s0 : w.heap.size + 1 < w0.heap.size := heap_lt Rw0.out
  refine (path21 x A cap i w0 Iw0.out hcap hcm).mono ?_
  rintro e w1 ⟨PA, pc, rfl, hpc, hown, hw1⟩
  have Bw1 := Lib.hid (Bw0.out.trans ((hw1).mono mw0))
  have mw1 : w.heap.size ≤ w1.heap.size := Nat.le_trans mw0 (hw1).size
  have Iw1 := Lib.hid ((Iw0.out.below (hw1)).mono (hw1).size)
  have Xw1 := Lib.hid (((hw1).block _ (heap_lt Xw0.out)).trans Xw0.out)
  have Rw1 := Lib.hid (((hw1).block _ (heap_lt Rw0.out)).trans Rw0.out)
  clear Bw0 mw0 Iw0 Xw0 Rw0 Xc0w0 Xc1w0 Xc2w0 Rc0w0 Rc1w0 Rc2w0
  have Xc0w1 : w1.cell? ⟨w.heap.size, 0, none⟩ = some (.int .i64 x.cy) := by simp [World.cell?, Xw1.out]
  have Xc1w1 : w1.cell? ⟨w.heap.size, 1, none⟩ = some (.int .i64 x.gr) := by simp [World.cell?, Xw1.out]
  have Xc2w1 : w1.cell? ⟨w.heap.size, 2, none⟩ = some (.slice A x.cs.length cap) := by simp [World.cell?, Xw1.out]
  have Rc0w1 : w1.cell? ⟨w.heap.size + 1, 0, none⟩ = some (.int .i64 0) := by simp [World.cell?, Rw1.out]
  have Rc1w1 : w1.cell? ⟨w.heap.size + 1, 1, none⟩ = some (.int .i64 0) := by simp [World.cell?, Rw1.out]
  have Rc2w1 : w1.cell? ⟨w.heap.size + 1, 2, none⟩ = some (.int .i64 0) := by simp [World.cell?, Rw1.out]
  clear hw1
  have fr : ∀ i, w1.frozen? ⟨w.heap.size + 1, i, none⟩ = false := fun i => by simp [World.frozen?, Rw1.out]
  by_cases hx : ¬ (pathR x i).2 = 0
  · have HR : Hid (wheR x i k = (⟨0, 0, 0⟩, (pathR x i).2)) := Lib.hid (by unfold wheR; rw [if_pos hx])
    obtain ⟨ee, hee⟩ : ∃ ee, ee = (pathR x i).2 := ⟨_, rfl⟩
    rw [← hee] at hx HR ⊢
    have hcb : (ee != 0) = true := by simpa using hx
    clear hx hown hpc hee
    go_wp2_with fail
    (try simp only [Exit.inBlock, Exit.then])
    have z0 := fun (X Z T : Value) => set3_0' w1 (w.heap.size + 1) X Z T (by rw [Rc0w1]; rfl)
    have z1 := fun (X Z T : Value) => set3_1' w1 (w.heap.size + 1) X Z T (by rw [Rc1w1]; rfl)
    have z2 := fun (X Z T : Value) => set3_2' w1 (w.heap.size + 1) X Z T (by rw [Rc2w1]; rfl)
    exact bodyPost_ret (v := .tuple #[.agg #[.int .i64 0, .int .i64 0, .int .i64 0], .int .i64 ee]) (by simp [results, Tryz.results27, go_sem, z0, z1, z2]) rfl ⟨ret_ws HR.out, ((Bw1.out.setCell (p := ⟨w.heap.size + 1, 0, none⟩) (Nat.le_succ _) _).setCell (p := ⟨w.heap.size + 1, 1, none⟩) (Nat.le_succ _) _).setCell (p := ⟨w.heap.size + 1, 2, none⟩) (Nat.le_succ _) _⟩
  have hx := Classical.not_not.1 hx
  obtain ⟨h0, n, c, rfl, hn, hcj, hpr, hcr⟩ := pathR_ok hx
  have OK := Lib.hid (chE_ok h0)
  rw [hx]
  have hcy := OK.out.1
  have HR0 : Hid (wheR x n k = if inB k 0 x.cy = false then (⟨0, 0, 0⟩, 8) else (posAt c k.toNat, 0)) := Lib.hid (by unfold wheR; rw [hx, if_neg (fun h => h rfl), hcr])
  rw [hpr] at hpc hown ⊢
  have HCR := Lib.hid hcr
  clear hx hcr hpr h0
  go_wp2_with fail
  refine (within75 k 0 x.cy w1).mono ?_
  rintro e wS ⟨rfl, rfl⟩
  cases hk : inB k 0 x.cy with
  | false =>
    have HR : Hid (wheR x n k = (⟨0, 0, 0⟩, 8)) := Lib.hid (by rw [HR0.out, if_pos hk])
    clear hk hown
    go_wp2_with fail
    (try simp only [Exit.inBlock, Exit.then])
    have z0 := fun (X Z T : Value) => set3_0' w1 (w.heap.size + 1) X Z T (by rw [Rc0w1]; rfl)
    have z1 := fun (X Z T : Value) => set3_1' w1 (w.heap.size + 1) X Z T (by rw [Rc1w1]; rfl)
    have z2 := fun (X Z T : Value) => set3_2' w1 (w.heap.size + 1) X Z T (by rw [Rc2w1]; rfl)
    exact bodyPost_ret (v := .tuple #[.agg #[.int .i64 0, .int .i64 0, .int .i64 0], .int .i64 8]) (by simp [results, Tryz.results27, go_sem, z0, z1, z2]) rfl ⟨ret_ws HR.out, ((Bw1.out.setCell (p := ⟨w.heap.size + 1, 0, none⟩) (Nat.le_succ _) _).setCell (p := ⟨w.heap.size + 1, 1, none⟩) (Nat.le_succ _) _).setCell (p := ⟨w.heap.size + 1, 2, none⟩) (Nat.le_succ _) _⟩
  | true =>
    obtain ⟨K, rfl⟩ : ∃ K : Nat, k = K := ⟨k.toNat, by have := inB_iff hk; omega⟩
    obtain ⟨k0, k1⟩ := inB_iff hk
    have HR : Hid (wheR x n K = (posAt c K, 0)) := Lib.hid (by rw [HR0.out, if_neg (by rw [hk]; decide)]; rfl)
    obtain ⟨g, rfl, hg0, hg, hpath⟩ := hown.path
    have pk := hpath K (by omega)
    obtain ⟨M, hM⟩ : ∃ M, M = x.cy.toNat + 1 := ⟨_, rfl⟩
    rw [show (pathL c x.cy.toNat, (0 : Int)).1.length = M by rw [hM]; exact pathL_len _ _]
    have hKI : (K : Int) < (M : Int) := by omega
    clear hM
    clear hk hown hpath hpc
    obtain ⟨b, off, rfl, hbb, hcc⟩ := Iw1.out (by omega)
    obtain ⟨LA, cap', hA, -⟩ := hcc n c hcj
    have CR := Lib.hid (crE_ok (cr_ok hcj OK.out.2.2.2.2).2)
    clear hcc hcj
    obtain ⟨a0, a1, a2, a3, a4, a5, a6, a7, a8, a9, a10, a11, a12⟩ := hA
    have hnI : (n : Int) < (x.cs.length : Int) := by omega
    go_upto_region 7 with fail
    obtain ⟨W, hW⟩ : ∃ W, W = w1.alloc (.cells #[.int .i64 c.ad, .int .i64 c.p.x, .int .i64 c.p.y, .int .i64 c.p.z, .int .i64 c.v.x, .int .i64 c.v.y, .int .i64 c.v.z, .int .i64 c.pu, .slice LA c.lg.length cap', .int .u8 c.mo, .int .i64 c.de, .int .i64 c.pp, .int .i64 c.mi] 63) := ⟨_, rfl⟩
    have bW : Below w1.heap.size w1 W := by rw [hW]; exact (Below.refl _ _).alloc (Nat.le_refl _) _
    have CW : Hid (W.heap[w1.heap.size]? = some (.cells #[.int .i64 c.ad, .int .i64 c.p.x, .int .i64 c.p.y, .int .i64 c.p.z, .int .i64 c.v.x, .int .i64 c.v.y, .int .i64 c.v.z, .int .i64 c.pu, .slice LA c.lg.length cap', .int .u8 c.mo, .int .i64 c.de, .int .i64 c.pp, .int .i64 c.mi] 63 (0, 0))) := Lib.hid (by rw [hW]; exact heap_alloc_new _ _)
    have RW := Lib.hid ((bW.block _ (heap_lt Rw1.out)).trans Rw1.out)
    have pW : W.cell? ⟨g, K * 2, none⟩ = some (.int .i64 (flyN c K).1) := (bW.cell (p := ⟨g, K * 2, none⟩) hg).trans pk
    have BW := Lib.hid (Bw1.out.trans (bW.mono mw1))
    have hR1 := heap_lt Rw1.out
    have hR1 := heap_lt Rw1.out
    rw [← hW]
    clear hW bW a0 a1 a2 a3 a4 a5 a6 a7 a8 a9 a10 a11 a12
    obtain ⟨hp, hv, -⟩ := CR.out
    unfold okP at hp
    unfold okV at hv
    obtain ⟨m1, m2⟩ := mv_bd k0 (by omega) hv.1 hv.2.1
    obtain ⟨m3, m4⟩ := mv_bd k0 (by omega) hv.2.2.1 hv.2.2.2.1
    have q1 : IntKind.i64.wrap ((K : Int) * c.v.x) = (K : Int) * c.v.x := IntWalk.i64_in _ (by omega)
    have q2 : IntKind.i64.wrap ((K : Int) * c.v.y) = (K : Int) * c.v.y := IntWalk.i64_in _ (by omega)
    have q3 : IntKind.i64.wrap (c.p.x + (K : Int) * c.v.x) = c.p.x + (K : Int) * c.v.x := IntWalk.i64_in _ (by omega)
    have q4 : IntKind.i64.wrap (c.p.y + (K : Int) * c.v.y) = c.p.y + (K : Int) * c.v.y := IntWalk.i64_in _ (by omega)
    clear hp hv m1 m2 m3 m4
    obtain ⟨Z, hZ⟩ : ∃ Z, Z = (flyN c K).1 := ⟨_, rfl⟩
    rw [← hZ] at pW
    have HP : Hid (posAt c K = ⟨c.p.x + (K : Int) * c.v.x, c.p.y + (K : Int) * c.v.y, Z⟩) := Lib.hid (by rw [hZ]; rfl)
    clear hZ pk
    refine wp_region_held_drew (S := fun w' => w'.heap[w1.heap.size]? = some (.cells #[.int .i64 c.ad, .int .i64 c.p.x, .int .i64 c.p.y, .int .i64 c.p.z, .int .i64 c.v.x, .int .i64 c.v.y, .int .i64 c.v.z, .int .i64 c.pu, .slice LA c.lg.length cap', .int .u8 c.mo, .int .i64 c.de, .int .i64 c.pp, .int .i64 c.mi] 63 (0, 0)) ∧ w'.cell? ⟨g, K * 2, none⟩ = some (.int .i64 Z)) (by kernel_rfl) (show _ from ⟨CW.out, pW⟩) (fun hS => ?_)
    refine wpAnyH_take (i := 0) (v := ?vA1) rfl (by kernel_rfl) (by kernel_rfl) (by kernel_rfl) (fun _ _ _ h => h) (Or.inl ⟨by rfl, ?hA1⟩) hS ?rA1
    case hA1 =>
      intro wq hSw
      clear hSw
      go_simp
      try with_reducible rfl
    (try simp only [Act.put])
    refine wpAnyH_take (i := 1) (v := ?vA2) rfl (by kernel_rfl) (by kernel_rfl) (by kernel_rfl) (fun _ _ _ h => h) (Or.inl ⟨by rfl, ?hA2⟩) hS ?rA2
    case hA2 =>
      intro wq hSw
      clear hSw
      go_simp
      try with_reducible rfl
    (try simp only [Act.put])
    refine wpAnyH_take (i := 2) (v := ?vA3) rfl (by kernel_rfl) (by kernel_rfl) (by kernel_rfl) (fun _ _ _ h => h) (Or.inl ⟨by rfl, ?hA3⟩) hS ?rA3
    case hA3 =>
      intro wq hSw
      have zc1 : wq.cell? ⟨w1.heap.size, 1, none⟩ = some (.int .i64 c.p.x) := cur_at' hSw.1 rfl
      clear hSw
      go_simp
      try with_reducible rfl
    (try simp only [Act.put])
    refine wpAnyH_take (i := 3) (v := ?vA4) rfl (by kernel_rfl) (by kernel_rfl) (by kernel_rfl) (fun _ _ _ h => h) (Or.inl ⟨by rfl, ?hA4⟩) hS ?rA4
    case hA4 =>
      intro wq hSw
      clear hSw
      go_simp
      try with_reducible rfl
    (try simp only [Act.put])
    refine wpAnyH_take (i := 4) (v := ?vA5) rfl (by kernel_rfl) (by kernel_rfl) (by kernel_rfl) (fun _ _ _ h => h) (Or.inl ⟨by rfl, ?hA5⟩) hS ?rA5
    case hA5 =>
      intro wq hSw
      clear hSw
      go_simp
      try with_reducible rfl
    (try simp only [Act.put])
    refine wpAnyH_take (i := 5) (v := ?vA6) rfl (by kernel_rfl) (by kernel_rfl) (by kernel_rfl) (fun _ _ _ h => h) (Or.inl ⟨by rfl, ?hA6⟩) hS ?rA6
    case hA6 =>
      intro wq hSw
      clear hSw
      go_simp
      try with_reducible rfl
    (try simp only [Act.put])
    refine wpAnyH_take (i := 6) (v := ?vA7) rfl (by kernel_rfl) (by kernel_rfl) (by kernel_rfl) (fun _ _ _ h => h) (Or.inl ⟨by rfl, ?hA7⟩) hS ?rA7
    case hA7 =>
      intro wq hSw
      have zc4 : wq.cell? ⟨w1.heap.size, 4, none⟩ = some (.int .i64 c.v.x) := cur_at' hSw.1 rfl
      clear hSw
      go_simp
      try with_reducible rfl
    (try simp only [Act.put])
    refine wpAnyH_take (i := 7) (v := ?vA8) rfl (by kernel_rfl) (by kernel_rfl) (by kernel_rfl) (fun _ _ _ h => h) (Or.inl ⟨by rfl, ?hA8⟩) hS ?rA8
    case hA8 =>
      intro wq hSw
      clear hSw
      go_simp
      try with_reducible rfl
    (try simp only [Act.put])
    refine wpAnyH_take (i := 8) (v := ?vA9) rfl (by kernel_rfl) (by kernel_rfl) (by kernel_rfl) (fun _ _ _ h => h) (Or.inl ⟨by rfl, ?hA9⟩) hS ?rA9
    case hA9 =>
      intro wq hSw
      clear hSw
      go_simp
      try with_reducible rfl
    (try simp only [Act.put])
    refine wpAnyH_take (i := 9) (v := ?vA10) rfl (by kernel_rfl) (by kernel_rfl) (by kernel_rfl) (fun _ _ _ h => h) (Or.inl ⟨by rfl, ?hA10⟩) hS ?rA10
    case hA10 =>
      intro wq hSw
      clear hSw
      go_simp
      try with_reducible rfl
    (try simp only [Act.put])
    refine wpAnyH_take (i := 10) (v := ?vA11) rfl (by kernel_rfl) (by kernel_rfl) (by kernel_rfl) (fun _ _ _ h => h) (Or.inl ⟨by rfl, ?hA11⟩) hS ?rA11
    case hA11 =>
      intro wq hSw
      clear hSw
      go_simp
      try with_reducible rfl
    (try simp only [Act.put])
    refine wpAnyH_take (i := 11) (v := ?vA12) rfl (by kernel_rfl) (by kernel_rfl) (by kernel_rfl) (fun _ _ _ h => h) (Or.inl ⟨by rfl, ?hA12⟩) hS ?rA12
    case hA12 =>
      intro wq hSw
      have zc2 : wq.cell? ⟨w1.heap.size, 2, none⟩ = some (.int .i64 c.p.y) := cur_at' hSw.1 rfl
      clear hSw
      go_simp
      try with_reducible rfl
    (try simp only [Act.put])
    refine wpAnyH_take (i := 12) (v := ?vA13) rfl (by kernel_rfl) (by kernel_rfl) (by kernel_rfl) (fun _ _ _ h => h) (Or.inl ⟨by rfl, ?hA13⟩) hS ?rA13
    case hA13 =>
      intro wq hSw
      clear hSw
      go_simp
      try with_reducible rfl
    (try simp only [Act.put])
    refine wpAnyH_take (i := 13) (v := ?vA14) rfl (by kernel_rfl) (by kernel_rfl) (by kernel_rfl) (fun _ _ _ h => h) (Or.inl ⟨by rfl, ?hA14⟩) hS ?rA14
    case hA14 =>
      intro wq hSw
      clear hSw
      go_simp
      try with_reducible rfl
    (try simp only [Act.put])
    refine wpAnyH_take (i := 14) (v := ?vA15) rfl (by kernel_rfl) (by kernel_rfl) (by kernel_rfl) (fun _ _ _ h => h) (Or.inl ⟨by rfl, ?hA15⟩) hS ?rA15
    case hA15 =>
      intro wq hSw
      clear hSw
      go_simp
      try with_reducible rfl
    (try simp only [Act.put])
    refine wpAnyH_take (i := 15) (v := ?vA16) rfl (by kernel_rfl) (by kernel_rfl) (by kernel_rfl) (fun _ _ _ h => h) (Or.inl ⟨by rfl, ?hA16⟩) hS ?rA16
    case hA16 =>
      intro wq hSw
      have zc5 : wq.cell? ⟨w1.heap.size, 5, none⟩ = some (.int .i64 c.v.y) := cur_at' hSw.1 rfl
      clear hSw
      go_simp
      try with_reducible rfl
    (try simp only [Act.put])
    refine wpAnyH_take (i := 16) (v := ?vA17) rfl (by kernel_rfl) (by kernel_rfl) (by kernel_rfl) (fun _ _ _ h => h) (Or.inl ⟨by rfl, ?hA17⟩) hS ?rA17
    case hA17 =>
      intro wq hSw
      clear hSw
      go_simp
      try with_reducible rfl
    (try simp only [Act.put])
    refine wpAnyH_take (i := 17) (v := ?vA18) rfl (by kernel_rfl) (by kernel_rfl) (by kernel_rfl) (fun _ _ _ h => h) (Or.inl ⟨by rfl, ?hA18⟩) hS ?rA18
    case hA18 =>
      intro wq hSw
      clear hSw
      go_simp
      try with_reducible rfl
    (try simp only [Act.put])
    refine wpAnyH_take (i := 18) (v := ?vA19) rfl (by kernel_rfl) (by kernel_rfl) (by kernel_rfl) (fun _ _ _ h => h) (Or.inl ⟨by rfl, ?hA19⟩) hS ?rA19
    case hA19 =>
      intro wq hSw
      clear hSw
      go_simp
      try with_reducible rfl
    (try simp only [Act.put])
    refine wpAnyH_take (i := 19) (v := ?vA20) rfl (by kernel_rfl) (by kernel_rfl) (by kernel_rfl) (fun _ _ _ h => h) (Or.inl ⟨by rfl, ?hA20⟩) hS ?rA20
    case hA20 =>
      intro wq hSw
      clear hSw
      go_simp
      try with_reducible rfl
    (try simp only [Act.put])
    refine wpAnyH_take (i := 20) (v := ?vA21) rfl (by kernel_rfl) (by kernel_rfl) (by kernel_rfl) (fun _ _ _ h => h) (Or.inl ⟨by rfl, ?hA21⟩) hS ?rA21
    case hA21 =>
      intro wq hSw
      clear hSw
      go_simp
      try with_reducible rfl
    (try simp only [Act.put])
    refine wpAnyH_take (i := 21) (v := ?vA22) rfl (by kernel_rfl) (by kernel_rfl) (by kernel_rfl) (fun _ _ _ h => h) (Or.inl ⟨by rfl, ?hA22⟩) hS ?rA22
    case hA22 =>
      intro wq hSw
      clear hSw
      go_simp
      try with_reducible rfl
    (try simp only [Act.put])
    refine wpAnyH_take (i := 22) (v := ?vA23) rfl (by kernel_rfl) (by kernel_rfl) (by kernel_rfl) (fun _ _ _ h => h) (Or.inl ⟨by rfl, ?hA23⟩) hS ?rA23
    case hA23 =>
      intro wq hSw
      have zp := hSw.2
      clear hSw
      go_simp
      try with_reducible rfl
    (try simp only [Act.put])
    refine wpAnyH_take (i := 23) (v := ?vA24) rfl (by kernel_rfl) (by kernel_rfl) (by kernel_rfl) (fun _ _ _ h => h) (Or.inl ⟨by rfl, ?hA24⟩) hS ?rA24
    case hA24 =>
      intro wq hSw
      clear hSw
      go_simp
      try with_reducible rfl
    (try simp only [Act.put])
    have HRd : Hid (W.drew.heap[w.heap.size + 1]? = some (.cells #[.int .i64 0, .int .i64 0, .int .i64 0] 46 (0, 0))) := Lib.hid RW.out
    have r0 : W.drew.cell? ⟨w.heap.size + 1, 0, none⟩ = some (.int .i64 0) := cur_at' HRd.out rfl
    have r1 : W.drew.cell? ⟨w.heap.size + 1, 1, none⟩ = some (.int .i64 0) := cur_at' HRd.out rfl
    have r2 : W.drew.cell? ⟨w.heap.size + 1, 2, none⟩ = some (.int .i64 0) := cur_at' HRd.out rfl
    have rw0 : W.cell? ⟨w.heap.size + 1, 0, none⟩ = some (.int .i64 0) := cur_at' RW.out rfl
    have rw1 : W.cell? ⟨w.heap.size + 1, 1, none⟩ = some (.int .i64 0) := cur_at' RW.out rfl
    have rw2 : W.cell? ⟨w.heap.size + 1, 2, none⟩ = some (.int .i64 0) := cur_at' RW.out rfl
    have rwf : ∀ i, W.frozen? ⟨w.heap.size + 1, i, none⟩ = false := fun i => by simp [World.frozen?, RW.out]
    have rf : ∀ i, W.drew.frozen? ⟨w.heap.size + 1, i, none⟩ = false := fun i => by simp [World.frozen?, HRd.out]
    have hne : w1.heap.size ≠ w.heap.size + 1 := by omega
    have hge : g ≠ w.heap.size + 1 := by omega
    refine wpAnyH_ready (rs := [24]) (by kernel_rfl) (by simp) (AllReadyH.cons rfl (fun K hK => ?_) AllReadyH.nil)
    go_simp
    refine hK.out _ _ (⟨(set_far _ _ _ _ _ hne).trans ((set_far _ _ _ _ _ hne).trans ((set_far _ _ _ _ _ hne).trans (hS.1))), (World.cell?_setCell_other _ _ _ _ (by intro e; injection e with e; exact hge e.symm)).trans ((World.cell?_setCell_other _ _ _ _ (by intro e; injection e with e; exact hge e.symm)).trans ((World.cell?_setCell_other _ _ _ _ (by intro e; injection e with e; exact hge e.symm)).trans (hS.2)))⟩) (fun hS => ?_)
    clear hK K
    refine wpAnyH_ready (rs := [25]) (by kernel_rfl) (by simp) (AllReadyH.cons rfl (fun K hK => ?_) AllReadyH.nil)
    go_simp
    refine hK.out _ _ (hS) (fun hS => ?_)
    clear hK K
    refine wpAnyH_done (by kernel_rfl) ?_ _
    clear r0 r1 r2 rf rw0 rw1 rw2 rwf
    have r0 : W.cell? ⟨w.heap.size + 1, 0, none⟩ = some (.int .i64 0) := cur_at' RW.out rfl
    have r1 : W.cell? ⟨w.heap.size + 1, 1, none⟩ = some (.int .i64 0) := cur_at' RW.out rfl
    have r2 : W.cell? ⟨w.heap.size + 1, 2, none⟩ = some (.int .i64 0) := cur_at' RW.out rfl
    go_wp2_with fail
    (try simp only [Exit.inBlock, Exit.then])
    have z0 := fun (X Z T : Value) => set3_0' W (w.heap.size + 1) X Z T (by rw [r0]; rfl)
    have z1 := fun (X Z T : Value) => set3_1' W (w.heap.size + 1) X Z T (by rw [r1]; rfl)
    have z2 := fun (X Z T : Value) => set3_2' W (w.heap.size + 1) X Z T (by rw [r2]; rfl)
    exact bodyPost_ret (v := .tuple #[.agg #[.int .i64 (c.p.x + (K : Int) * c.v.x), .int .i64 (c.p.y + (K : Int) * c.v.y), .int .i64 Z], .int .i64 0]) (by simp [results, Tryz.results27, go_sem, z0, z1, z2]) rfl ⟨ret_ws (by rw [HR.out, HP.out]), ((BW.out.drew.setCell (p := ⟨w.heap.size + 1, 0, none⟩) (Nat.le_succ _) _).setCell (p := ⟨w.heap.size + 1, 1, none⟩) (Nat.le_succ _) _).setCell (p := ⟨w.heap.size + 1, 2, none⟩) (Nat.le_succ _) _⟩
theorem numE_2bad {x : En} {i k : Int} (h0 : chE x = 0) (h : inB i 0 ((x.cs.length : Int) - 1) = false ∨ inB k 0 ((x.cs.length : Int) - 1) = false) : numE x [i, k] = 8 := by
  rcases h with h | h
  · exact numE_bad x [i, k] 0 (by simp) h0 (by simp only [nth, List.getD_cons_zero]; exact inB_len h)
  · exact numE_bad x [i, k] 1 (by simp) h0 (by simpa [nth] using inB_len h)
theorem stN_nn {a b : Cr} (n : Nat) (h : 0 < n) : 0 ≤ (stN a b n).1 := by
  have h1 : ∀ p q, 0 ≤ s2G p q := by
    intro p q
    unfold s2G
    split
    · rename_i g
      exact (bdG p q ⟨0, 0, 0⟩ ⟨0, 0, 0⟩ (okG0.2 g)).1
    · omega
  obtain ⟨m, rfl⟩ : ∃ m, n = m + 1 := ⟨n - 1, by omega⟩
  unfold stN
  split
  · exact h1 _ _
  · rename_i g
    omega
set_option maxRecDepth 100000 in
set_option maxHeartbeats 4000000 in
theorem near29 (x : En) (A : Option Addr) (cap : Nat) (i k : Int) (w : World) (hc : InCr w w.heap.size A x.cs) (hcap : x.cs.length ≤ cap) (hcm : cap ≤ maxLen) : Calls Tryz.prog 29 #[.agg #[.int .i64 x.cy, .int .i64 x.gr, .slice A x.cs.length cap], .int .i64 i, .int .i64 k] w fun e w' => e = .returned (.tuple #[.int .i64 (nearR x i k).1.1, .int .i64 (nearR x i k).1.2, .int .i64 (nearR x i k).2]) ∧ Below w.heap.size w w' := by
  have Iw := Lib.hid hc
  clear hc
  have wl : IntKind.i64.wrap ((x.cs.length : Int) - 1) = (x.cs.length : Int) - 1 := IntWalk.i64_in _ (by have := hcap; have := hcm; unfold maxLen at *; omega)
  go_enter Tryz.func29, Tryz.ntmps29
  go_wp2_with fail
  obtain ⟨w0, hw0⟩ : ∃ w0, w0 = w.alloc (.cells #[.int .i64 x.cy, .int .i64 x.gr, .slice A x.cs.length cap] 24) := ⟨_, rfl⟩
  have bw0 : Below w.heap.size w w0 := by rw [hw0]; exact (Below.refl _ _).alloc (Nat.le_refl _) _
  have nw0 : w0.heap[w.heap.size]? = some (.cells #[.int .i64 x.cy, .int .i64 x.gr, .slice A x.cs.length cap] 24 (0, 0)) := by rw [hw0]; exact heap_alloc_new _ _
  have Bw0 : Hid (Below w.heap.size w w0) := Lib.hid ((bw0))
  have mw0 : w.heap.size ≤ w0.heap.size := (bw0).size
  have Iw0 := Lib.hid ((Iw.out.below (bw0)).mono (bw0).size)
  clear Iw
  rw [← hw0]
  clear hw0 bw0
  have Xw0 := Lib.hid nw0
  clear nw0
  have Xc0w0 : w0.cell? ⟨w.heap.size, 0, none⟩ = some (.int .i64 x.cy) := by simp [World.cell?, Xw0.out]
  have Xc1w0 : w0.cell? ⟨w.heap.size, 1, none⟩ = some (.int .i64 x.gr) := by simp [World.cell?, Xw0.out]
  have Xc2w0 : w0.cell? ⟨w.heap.size, 2, none⟩ = some (.slice A x.cs.length cap) := by simp [World.cell?, Xw0.out]
  refine (check20 x A cap w0 Iw0.out).mono ?_
  rintro e w1 ⟨rfl, hw1⟩
  have Bw1 := Lib.hid (Bw0.out.trans ((hw1).mono mw0))
  have mw1 : w.heap.size ≤ w1.heap.size := Nat.le_trans mw0 (hw1).size
  have Iw1 := Lib.hid ((Iw0.out.below (hw1)).mono (hw1).size)
  have Xw1 := Lib.hid (((hw1).block _ (heap_lt Xw0.out)).trans Xw0.out)
  clear Bw0 mw0 Iw0 Xw0 Xc0w0 Xc1w0 Xc2w0
  have Xc0w1 : w1.cell? ⟨w.heap.size, 0, none⟩ = some (.int .i64 x.cy) := by simp [World.cell?, Xw1.out]
  have Xc1w1 : w1.cell? ⟨w.heap.size, 1, none⟩ = some (.int .i64 x.gr) := by simp [World.cell?, Xw1.out]
  have Xc2w1 : w1.cell? ⟨w.heap.size, 2, none⟩ = some (.slice A x.cs.length cap) := by simp [World.cell?, Xw1.out]
  clear hw1
  by_cases hch : ¬ chE x = 0
  · have HR : Hid (nearR x i k = ((0, 0), chE x)) := Lib.hid (by have e : numE x [i, k] = chE x := by { unfold numE; rw [if_pos hch] }; unfold nearR; rw [e, if_pos hch])
    have hcb : (chE x != 0) = true := by simpa using hch
    clear hch
    go_wp2_with fail
    go_ret3
    exact ⟨ret_t3 HR.out, Bw1.out⟩
  have hch := Classical.not_not.1 hch
  have OK := Lib.hid (chE_ok hch)
  have HCH := Lib.hid hch
  rw [hch]
  clear hch
  have hcy := OK.out.1
  go_wp2_with fail
  refine (within75 i 0 ((x.cs.length : Int) - 1) w1).mono ?_
  rintro e wS ⟨rfl, rfl⟩
  cases hi : inB i 0 ((x.cs.length : Int) - 1) with
  | false =>
    have HR : Hid (nearR x i k = ((0, 0), 8)) := Lib.hid (by unfold nearR; rw [numE_2bad HCH.out (.inl hi), if_pos (by decide)])
    clear hi
    go_wp2_with fail
    go_ret3
    exact ⟨ret_t3 HR.out, Bw1.out⟩
  | true =>
    go_wp2_with fail
    refine (within75 k 0 ((x.cs.length : Int) - 1) w1).mono ?_
    rintro e wS ⟨rfl, rfl⟩
    cases hk : inB k 0 ((x.cs.length : Int) - 1) with
    | false =>
      have HR : Hid (nearR x i k = ((0, 0), 8)) := Lib.hid (by unfold nearR; rw [numE_2bad HCH.out (.inr hk), if_pos (by decide)])
      clear hi hk
      go_wp2_with fail
      go_ret3
      exact ⟨ret_t3 HR.out, Bw1.out⟩
    | true =>
      obtain ⟨ii0, ii1⟩ := inB_iff hi
      obtain ⟨kk0, kk1⟩ := inB_iff hk
      clear hi hk
      have e0 : numE x [i, k] = 0 := numE_ok x [i, k] HCH.out (fun j hj => by rcases (by simp at hj; omega : j = 0 ∨ j = 1) with rfl | rfl <;> simp [nth] <;> omega)
      by_cases hik : i = k
      · have HR : Hid (nearR x i k = ((0, 0), 1)) := Lib.hid (by unfold nearR; rw [e0, if_neg (fun h => h rfl), if_pos hik])
        have b1 : (i == k) = true := by simp [hik]
        subst hik
        clear e0
        go_wp2_with fail
        go_ret3
        exact ⟨ret_t3 HR.out, Bw1.out⟩
      have b1 : (i == k) = false := by simpa using hik
      obtain ⟨n1, rfl⟩ : ∃ n : Nat, i = n := ⟨i.toNat, by omega⟩
      obtain ⟨n2, rfl⟩ : ∃ n : Nat, k = n := ⟨k.toNat, by omega⟩
      obtain ⟨c1, hc1⟩ : ∃ c, x.cs[n1]? = some c := ⟨_, List.getElem?_eq_getElem (by omega)⟩
      obtain ⟨c2, hc2⟩ : ∃ c, x.cs[n2]? = some c := ⟨_, List.getElem?_eq_getElem (by omega)⟩
      obtain ⟨N, hN⟩ : ∃ N : Nat, x.cy = N := ⟨x.cy.toNat, by omega⟩
      have hN120 : N ≤ 120 := by omega
      have HR : Hid (nearR x n1 n2 = (((stN c1 c2 (N + 1)).2.1, (stN c1 c2 (N + 1)).2.2), 0)) := Lib.hid (by unfold nearR; rw [e0, if_neg (fun h => h rfl), if_neg hik, crAt_n hc1, crAt_n hc2, hN]; rfl)
      have W1 : Hid (∀ n : Nat, n ≤ N → wheR x n1 n = (posAt c1 n, 0)) := Lib.hid (fun n hn => by unfold wheR; rw [path_of HCH.out hc1, if_neg (fun h => h rfl), if_neg (by rw [inB_t (by omega) (by omega)]; decide), crAt_n hc1]; rfl)
      have W2 : Hid (∀ n : Nat, n ≤ N → wheR x n2 n = (posAt c2 n, 0)) := Lib.hid (fun n hn => by unfold wheR; rw [path_of HCH.out hc2, if_neg (fun h => h rfl), if_neg (by rw [inB_t (by omega) (by omega)]; decide), crAt_n hc2]; rfl)
      have ES : Hid (∀ n : Nat, n ≤ N → erS (posAt c1 n) (posAt c2 n) = 0) := Lib.hid (fun n hn => by unfold erS; rw [if_pos ⟨posAt_ok (cr_ok hc1 OK.out.2.2.2.2).2 hcy.1 hcy.2 n (by omega), posAt_ok (cr_ok hc2 OK.out.2.2.2.2).2 hcy.1 hcy.2 n (by omega)⟩])
      have HCY := Lib.hid hN
      clear e0 hik hc1 hc2 hN
      have hXs := heap_lt Xw1.out
      go_wp2_with fail
      go_loopw [10, 11, 12, 13] (fun be at_ sl y wr => ∃ (n : Nat) (a b c : Int), n ≤ N + 1 ∧ y = .int .i64 n ∧ be = .int .i64 a ∧ at_ = .int .i64 b ∧ sl = .int .i64 c ∧ Hid (b = (stN c1 c2 n).2.1 ∧ c = (stN c1 c2 n).2.2) ∧ Hid (0 < n → a = (stN c1 c2 n).1) ∧ Below w1.heap.size w1 wr) (fun _ _ _ y _ => N + 1 - (intOf y).toNat)
      case atStart => exact ⟨0, 0, 0, 0, Nat.zero_le _, rfl, rfl, rfl, rfl, Lib.hid ⟨rfl, rfl⟩, Lib.hid (fun h => absurd h (by omega)), Below.refl _ _⟩
      case round =>
        obtain ⟨n, va, vb, vc, hn, rfl, rfl, rfl, rfl, HBC, HA, hb⟩ := hrel
        have HB1 := Lib.hid hb
        have s1 := hb.size
        have Bwr := Lib.hid (Bw1.out.trans ((hb).mono mw1))
        have mwr : w.heap.size ≤ wr.heap.size := Nat.le_trans mw1 (hb).size
        have Iwr := Lib.hid ((Iw1.out.below (hb)).mono (hb).size)
        have Xwr := Lib.hid (((hb).block _ (heap_lt Xw1.out)).trans Xw1.out)
        clear Bw1 mw1 Iw1 Xw1 Xc0w1 Xc1w1 Xc2w1
        have Xc0wr : wr.cell? ⟨w.heap.size, 0, none⟩ = some (.int .i64 x.cy) := by simp [World.cell?, Xwr.out]
        have Xc1wr : wr.cell? ⟨w.heap.size, 1, none⟩ = some (.int .i64 x.gr) := by simp [World.cell?, Xwr.out]
        have Xc2wr : wr.cell? ⟨w.heap.size, 2, none⟩ = some (.slice A x.cs.length cap) := by simp [World.cell?, Xwr.out]
        clear hb
        by_cases hlt : n ≤ N
        · have hltI : (n : Int) ≤ x.cy := by have := HCY.out; omega
          have T1 := where27 x A cap n1 n wr Iwr.out hcap hcm
          rw [W1.out n hlt] at T1
          obtain ⟨p, hp⟩ : ∃ p, p = posAt c1 n := ⟨_, rfl⟩
          obtain ⟨q, hq⟩ : ∃ q, q = posAt c2 n := ⟨_, rfl⟩
          rw [← hp] at T1
          have HPP := Lib.hid hp
          have HQQ := Lib.hid hq
          clear hp hq
          go_wp2_with fail
          refine (T1).mono ?_
          rintro e u1 ⟨rfl, hu1⟩
          have Bu1 : Hid (Below wr.heap.size wr u1) := Lib.hid ((hu1))
          have mu1 : wr.heap.size ≤ u1.heap.size := (hu1).size
          have Iu1 := Lib.hid ((Iwr.out.below (hu1)).mono (hu1).size)
          have Xu1 := Lib.hid (((hu1).block _ (heap_lt Xwr.out)).trans Xwr.out)
          clear Iwr Xwr Xc0wr Xc1wr Xc2wr
          have Xc0u1 : u1.cell? ⟨w.heap.size, 0, none⟩ = some (.int .i64 x.cy) := by simp [World.cell?, Xu1.out]
          have Xc1u1 : u1.cell? ⟨w.heap.size, 1, none⟩ = some (.int .i64 x.gr) := by simp [World.cell?, Xu1.out]
          have Xc2u1 : u1.cell? ⟨w.heap.size, 2, none⟩ = some (.slice A x.cs.length cap) := by simp [World.cell?, Xu1.out]
          clear hu1
          clear T1
          have Xa0 : ∀ ob, (u1.alloc ob).cell? ⟨w.heap.size, 0, none⟩ = some (.int .i64 x.cy) := fun ob => (World.cell?_alloc_lt _ _ _ (heap_lt Xu1.out)).trans Xc0u1
          have Xa1 : ∀ ob, (u1.alloc ob).cell? ⟨w.heap.size, 1, none⟩ = some (.int .i64 x.gr) := fun ob => (World.cell?_alloc_lt _ _ _ (heap_lt Xu1.out)).trans Xc1u1
          have Xa2 : ∀ ob, (u1.alloc ob).cell? ⟨w.heap.size, 2, none⟩ = some (.slice A x.cs.length cap) := fun ob => (World.cell?_alloc_lt _ _ _ (heap_lt Xu1.out)).trans Xc2u1
          go_wp2_with fail
          obtain ⟨u2, hu2⟩ : ∃ u2, u2 = u1.alloc (.cells #[.int .i64 p.x, .int .i64 p.y, .int .i64 p.z] 46) := ⟨_, rfl⟩
          have bu2 : Below u1.heap.size u1 u2 := by rw [hu2]; exact (Below.refl _ _).alloc (Nat.le_refl _) _
          have nu2 : u2.heap[u1.heap.size]? = some (.cells #[.int .i64 p.x, .int .i64 p.y, .int .i64 p.z] 46 (0, 0)) := by rw [hu2]; exact heap_alloc_new _ _
          have Bu2 := Lib.hid (Bu1.out.trans ((bu2).mono mu1))
          have mu2 : wr.heap.size ≤ u2.heap.size := Nat.le_trans mu1 (bu2).size
          have Iu2 := Lib.hid ((Iu1.out.below (bu2)).mono (bu2).size)
          have Xu2 := Lib.hid (((bu2).block _ (heap_lt Xu1.out)).trans Xu1.out)
          clear Bu1 mu1 Iu1 Xu1 Xc0u1 Xc1u1 Xc2u1
          have Xc0u2 : u2.cell? ⟨w.heap.size, 0, none⟩ = some (.int .i64 x.cy) := by simp [World.cell?, Xu2.out]
          have Xc1u2 : u2.cell? ⟨w.heap.size, 1, none⟩ = some (.int .i64 x.gr) := by simp [World.cell?, Xu2.out]
          have Xc2u2 : u2.cell? ⟨w.heap.size, 2, none⟩ = some (.slice A x.cs.length cap) := by simp [World.cell?, Xu2.out]
          rw [← hu2]
          clear hu2 bu2 Xa0 Xa1 Xa2
          have Pu2 := Lib.hid nu2
          clear nu2
          have Pc0u2 : u2.cell? ⟨u1.heap.size, 0, none⟩ = some (.int .i64 p.x) := by simp [World.cell?, Pu2.out]
          have Pc1u2 : u2.cell? ⟨u1.heap.size, 1, none⟩ = some (.int .i64 p.y) := by simp [World.cell?, Pu2.out]
          have Pc2u2 : u2.cell? ⟨u1.heap.size, 2, none⟩ = some (.int .i64 p.z) := by simp [World.cell?, Pu2.out]
          have T2 := where27 x A cap n2 n u2 Iu2.out hcap hcm
          rw [W2.out n hlt, ← HQQ.out] at T2
          refine (T2).mono ?_
          rintro e u3 ⟨rfl, hu3⟩
          have Bu3 := Lib.hid (Bu2.out.trans ((hu3).mono mu2))
          have mu3 : wr.heap.size ≤ u3.heap.size := Nat.le_trans mu2 (hu3).size
          have Iu3 := Lib.hid ((Iu2.out.below (hu3)).mono (hu3).size)
          have Xu3 := Lib.hid (((hu3).block _ (heap_lt Xu2.out)).trans Xu2.out)
          have Pu3 := Lib.hid (((hu3).block _ (heap_lt Pu2.out)).trans Pu2.out)
          clear Bu2 mu2 Iu2 Xu2 Pu2 Xc0u2 Xc1u2 Xc2u2 Pc0u2 Pc1u2 Pc2u2
          have Xc0u3 : u3.cell? ⟨w.heap.size, 0, none⟩ = some (.int .i64 x.cy) := by simp [World.cell?, Xu3.out]
          have Xc1u3 : u3.cell? ⟨w.heap.size, 1, none⟩ = some (.int .i64 x.gr) := by simp [World.cell?, Xu3.out]
          have Xc2u3 : u3.cell? ⟨w.heap.size, 2, none⟩ = some (.slice A x.cs.length cap) := by simp [World.cell?, Xu3.out]
          have Pc0u3 : u3.cell? ⟨u1.heap.size, 0, none⟩ = some (.int .i64 p.x) := by simp [World.cell?, Pu3.out]
          have Pc1u3 : u3.cell? ⟨u1.heap.size, 1, none⟩ = some (.int .i64 p.y) := by simp [World.cell?, Pu3.out]
          have Pc2u3 : u3.cell? ⟨u1.heap.size, 2, none⟩ = some (.int .i64 p.z) := by simp [World.cell?, Pu3.out]
          clear hu3
          clear T2
          have Xa0 : ∀ ob, (u3.alloc ob).cell? ⟨w.heap.size, 0, none⟩ = some (.int .i64 x.cy) := fun ob => (World.cell?_alloc_lt _ _ _ (heap_lt Xu3.out)).trans Xc0u3
          have Xa1 : ∀ ob, (u3.alloc ob).cell? ⟨w.heap.size, 1, none⟩ = some (.int .i64 x.gr) := fun ob => (World.cell?_alloc_lt _ _ _ (heap_lt Xu3.out)).trans Xc1u3
          have Xa2 : ∀ ob, (u3.alloc ob).cell? ⟨w.heap.size, 2, none⟩ = some (.slice A x.cs.length cap) := fun ob => (World.cell?_alloc_lt _ _ _ (heap_lt Xu3.out)).trans Xc2u3
          have Pa0 : ∀ ob, (u3.alloc ob).cell? ⟨u1.heap.size, 0, none⟩ = some (.int .i64 p.x) := fun ob => (World.cell?_alloc_lt _ _ _ (heap_lt Pu3.out)).trans Pc0u3
          have Pa1 : ∀ ob, (u3.alloc ob).cell? ⟨u1.heap.size, 1, none⟩ = some (.int .i64 p.y) := fun ob => (World.cell?_alloc_lt _ _ _ (heap_lt Pu3.out)).trans Pc1u3
          have Pa2 : ∀ ob, (u3.alloc ob).cell? ⟨u1.heap.size, 2, none⟩ = some (.int .i64 p.z) := fun ob => (World.cell?_alloc_lt _ _ _ (heap_lt Pu3.out)).trans Pc2u3
          go_wp2_with fail
          obtain ⟨u4, hu4⟩ : ∃ u4, u4 = u3.alloc (.cells #[.int .i64 q.x, .int .i64 q.y, .int .i64 q.z] 46) := ⟨_, rfl⟩
          have bu4 : Below u3.heap.size u3 u4 := by rw [hu4]; exact (Below.refl _ _).alloc (Nat.le_refl _) _
          have nu4 : u4.heap[u3.heap.size]? = some (.cells #[.int .i64 q.x, .int .i64 q.y, .int .i64 q.z] 46 (0, 0)) := by rw [hu4]; exact heap_alloc_new _ _
          have Bu4 := Lib.hid (Bu3.out.trans ((bu4).mono mu3))
          have mu4 : wr.heap.size ≤ u4.heap.size := Nat.le_trans mu3 (bu4).size
          have Iu4 := Lib.hid ((Iu3.out.below (bu4)).mono (bu4).size)
          have Xu4 := Lib.hid (((bu4).block _ (heap_lt Xu3.out)).trans Xu3.out)
          have Pu4 := Lib.hid (((bu4).block _ (heap_lt Pu3.out)).trans Pu3.out)
          clear Bu3 mu3 Iu3 Xu3 Pu3 Xc0u3 Xc1u3 Xc2u3 Pc0u3 Pc1u3 Pc2u3
          have Xc0u4 : u4.cell? ⟨w.heap.size, 0, none⟩ = some (.int .i64 x.cy) := by simp [World.cell?, Xu4.out]
          have Xc1u4 : u4.cell? ⟨w.heap.size, 1, none⟩ = some (.int .i64 x.gr) := by simp [World.cell?, Xu4.out]
          have Xc2u4 : u4.cell? ⟨w.heap.size, 2, none⟩ = some (.slice A x.cs.length cap) := by simp [World.cell?, Xu4.out]
          have Pc0u4 : u4.cell? ⟨u1.heap.size, 0, none⟩ = some (.int .i64 p.x) := by simp [World.cell?, Pu4.out]
          have Pc1u4 : u4.cell? ⟨u1.heap.size, 1, none⟩ = some (.int .i64 p.y) := by simp [World.cell?, Pu4.out]
          have Pc2u4 : u4.cell? ⟨u1.heap.size, 2, none⟩ = some (.int .i64 p.z) := by simp [World.cell?, Pu4.out]
          rw [← hu4]
          clear hu4 bu4 Xa0 Xa1 Xa2 Pa0 Pa1 Pa2
          have Qu4 := Lib.hid nu4
          clear nu4
          have Qc0u4 : u4.cell? ⟨u3.heap.size, 0, none⟩ = some (.int .i64 q.x) := by simp [World.cell?, Qu4.out]
          have Qc1u4 : u4.cell? ⟨u3.heap.size, 1, none⟩ = some (.int .i64 q.y) := by simp [World.cell?, Qu4.out]
          have Qc2u4 : u4.cell? ⟨u3.heap.size, 2, none⟩ = some (.int .i64 q.z) := by simp [World.cell?, Qu4.out]
          have T3 := slant26 p q u4
          have hes : erS p q = 0 := by rw [HPP.out, HQQ.out]; exact ES.out n hlt
          rw [hes] at T3
          refine (T3).mono ?_
          rintro e u5 ⟨rfl, hu5⟩
          have Bu5 := Lib.hid (Bu4.out.trans ((hu5).mono mu4))
          have mu5 : wr.heap.size ≤ u5.heap.size := Nat.le_trans mu4 (hu5).size
          have Iu5 := Lib.hid ((Iu4.out.below (hu5)).mono (hu5).size)
          have Xu5 := Lib.hid (((hu5).block _ (heap_lt Xu4.out)).trans Xu4.out)
          have Pu5 := Lib.hid (((hu5).block _ (heap_lt Pu4.out)).trans Pu4.out)
          have Qu5 := Lib.hid (((hu5).block _ (heap_lt Qu4.out)).trans Qu4.out)
          clear Bu4 mu4 Iu4 Xu4 Pu4 Qu4 Xc0u4 Xc1u4 Xc2u4 Pc0u4 Pc1u4 Pc2u4 Qc0u4 Qc1u4 Qc2u4
          have Xc0u5 : u5.cell? ⟨w.heap.size, 0, none⟩ = some (.int .i64 x.cy) := by simp [World.cell?, Xu5.out]
          have Xc1u5 : u5.cell? ⟨w.heap.size, 1, none⟩ = some (.int .i64 x.gr) := by simp [World.cell?, Xu5.out]
          have Xc2u5 : u5.cell? ⟨w.heap.size, 2, none⟩ = some (.slice A x.cs.length cap) := by simp [World.cell?, Xu5.out]
          have Pc0u5 : u5.cell? ⟨u1.heap.size, 0, none⟩ = some (.int .i64 p.x) := by simp [World.cell?, Pu5.out]
          have Pc1u5 : u5.cell? ⟨u1.heap.size, 1, none⟩ = some (.int .i64 p.y) := by simp [World.cell?, Pu5.out]
          have Pc2u5 : u5.cell? ⟨u1.heap.size, 2, none⟩ = some (.int .i64 p.z) := by simp [World.cell?, Pu5.out]
          have Qc0u5 : u5.cell? ⟨u3.heap.size, 0, none⟩ = some (.int .i64 q.x) := by simp [World.cell?, Qu5.out]
          have Qc1u5 : u5.cell? ⟨u3.heap.size, 1, none⟩ = some (.int .i64 q.y) := by simp [World.cell?, Qu5.out]
          have Qc2u5 : u5.cell? ⟨u3.heap.size, 2, none⟩ = some (.int .i64 q.z) := by simp [World.cell?, Qu5.out]
          clear hu5
          clear T3
          obtain ⟨D, hD⟩ : ∃ D, D = s2G p q := ⟨_, rfl⟩
          rw [← hD]
          have T4 := slant28 p q u5
          rw [hes] at T4
          obtain ⟨L, hL⟩ : ∃ L, L = slG p q := ⟨_, rfl⟩
          rw [← hL] at T4
          have HDL : Hid (D = s2G (posAt c1 n) (posAt c2 n) ∧ L = slG (posAt c1 n) (posAt c2 n)) := Lib.hid (by rw [hD, hL, HPP.out, HQQ.out]; exact ⟨rfl, rfl⟩)
          have HT4 := Lib.hid T4
          clear T4 hD hL hes
          have wn : IntKind.i64.wrap ((n : Int) + 1) = (n : Int) + 1 := IntWalk.i64_in _ (by omega)
          by_cases hn0 : n = 0
          · have bn : ((n : Int) == 0) = true := by simp [hn0]
            have HC : Hid ((stN c1 c2 n).1 < 0 ∨ s2G (posAt c1 n) (posAt c2 n) < (stN c1 c2 n).1) := Lib.hid (.inl (by rw [hn0]; show (-1 : Int) < 0; decide))
            clear hn0
            go_wp2_with fail
            refine (HT4.out).mono ?_
            rintro e u6 ⟨rfl, hu6⟩
            have Bu6 := Lib.hid (Bu5.out.trans ((hu6).mono mu5))
            have mu6 : wr.heap.size ≤ u6.heap.size := Nat.le_trans mu5 (hu6).size
            have Iu6 := Lib.hid ((Iu5.out.below (hu6)).mono (hu6).size)
            have Xu6 := Lib.hid (((hu6).block _ (heap_lt Xu5.out)).trans Xu5.out)
            have Pu6 := Lib.hid (((hu6).block _ (heap_lt Pu5.out)).trans Pu5.out)
            have Qu6 := Lib.hid (((hu6).block _ (heap_lt Qu5.out)).trans Qu5.out)
            clear Bu5 mu5 Iu5 Xu5 Pu5 Qu5 Xc0u5 Xc1u5 Xc2u5 Pc0u5 Pc1u5 Pc2u5 Qc0u5 Qc1u5 Qc2u5
            have Xc0u6 : u6.cell? ⟨w.heap.size, 0, none⟩ = some (.int .i64 x.cy) := by simp [World.cell?, Xu6.out]
            have Xc1u6 : u6.cell? ⟨w.heap.size, 1, none⟩ = some (.int .i64 x.gr) := by simp [World.cell?, Xu6.out]
            have Xc2u6 : u6.cell? ⟨w.heap.size, 2, none⟩ = some (.slice A x.cs.length cap) := by simp [World.cell?, Xu6.out]
            have Pc0u6 : u6.cell? ⟨u1.heap.size, 0, none⟩ = some (.int .i64 p.x) := by simp [World.cell?, Pu6.out]
            have Pc1u6 : u6.cell? ⟨u1.heap.size, 1, none⟩ = some (.int .i64 p.y) := by simp [World.cell?, Pu6.out]
            have Pc2u6 : u6.cell? ⟨u1.heap.size, 2, none⟩ = some (.int .i64 p.z) := by simp [World.cell?, Pu6.out]
            have Qc0u6 : u6.cell? ⟨u3.heap.size, 0, none⟩ = some (.int .i64 q.x) := by simp [World.cell?, Qu6.out]
            have Qc1u6 : u6.cell? ⟨u3.heap.size, 1, none⟩ = some (.int .i64 q.y) := by simp [World.cell?, Qu6.out]
            have Qc2u6 : u6.cell? ⟨u3.heap.size, 2, none⟩ = some (.int .i64 q.z) := by simp [World.cell?, Qu6.out]
            clear hu6
            have HS : Hid (stN c1 c2 (n + 1) = (D, (n : Int), L)) := Lib.hid (by unfold stN; rw [if_pos HC.out, ← HDL.out.1, ← HDL.out.2])
            go_wp2_with fail
            exact ⟨⟨n + 1, D, n, L, by omega, by go_num, rfl, rfl, rfl, Lib.hid (by rw [HS.out]; exact ⟨rfl, rfl⟩), Lib.hid (fun _ => by rw [HS.out]), HB1.out.trans (Bu6.out.mono s1)⟩, by simp [intOf]; omega⟩
          have bn : ((n : Int) == 0) = false := by rw [beq_eq_false_iff_ne]; omega
          have ha := HA.out (by omega)
          have hnn := stN_nn (a := c1) (b := c2) n (by omega)
          by_cases hd : D < va
          · have HC : Hid ((stN c1 c2 n).1 < 0 ∨ s2G (posAt c1 n) (posAt c2 n) < (stN c1 c2 n).1) := Lib.hid (.inr (by rw [← ha, ← HDL.out.1]; exact hd))
            have bd : decide (D < va) = true := decide_eq_true hd
            clear hn0 ha hnn hd
            go_wp2_with fail
            refine (HT4.out).mono ?_
            rintro e u6 ⟨rfl, hu6⟩
            have Bu6 := Lib.hid (Bu5.out.trans ((hu6).mono mu5))
            have mu6 : wr.heap.size ≤ u6.heap.size := Nat.le_trans mu5 (hu6).size
            have Iu6 := Lib.hid ((Iu5.out.below (hu6)).mono (hu6).size)
            have Xu6 := Lib.hid (((hu6).block _ (heap_lt Xu5.out)).trans Xu5.out)
            have Pu6 := Lib.hid (((hu6).block _ (heap_lt Pu5.out)).trans Pu5.out)
            have Qu6 := Lib.hid (((hu6).block _ (heap_lt Qu5.out)).trans Qu5.out)
            clear Bu5 mu5 Iu5 Xu5 Pu5 Qu5 Xc0u5 Xc1u5 Xc2u5 Pc0u5 Pc1u5 Pc2u5 Qc0u5 Qc1u5 Qc2u5
            have Xc0u6 : u6.cell? ⟨w.heap.size, 0, none⟩ = some (.int .i64 x.cy) := by simp [World.cell?, Xu6.out]
            have Xc1u6 : u6.cell? ⟨w.heap.size, 1, none⟩ = some (.int .i64 x.gr) := by simp [World.cell?, Xu6.out]
            have Xc2u6 : u6.cell? ⟨w.heap.size, 2, none⟩ = some (.slice A x.cs.length cap) := by simp [World.cell?, Xu6.out]
            have Pc0u6 : u6.cell? ⟨u1.heap.size, 0, none⟩ = some (.int .i64 p.x) := by simp [World.cell?, Pu6.out]
            have Pc1u6 : u6.cell? ⟨u1.heap.size, 1, none⟩ = some (.int .i64 p.y) := by simp [World.cell?, Pu6.out]
            have Pc2u6 : u6.cell? ⟨u1.heap.size, 2, none⟩ = some (.int .i64 p.z) := by simp [World.cell?, Pu6.out]
            have Qc0u6 : u6.cell? ⟨u3.heap.size, 0, none⟩ = some (.int .i64 q.x) := by simp [World.cell?, Qu6.out]
            have Qc1u6 : u6.cell? ⟨u3.heap.size, 1, none⟩ = some (.int .i64 q.y) := by simp [World.cell?, Qu6.out]
            have Qc2u6 : u6.cell? ⟨u3.heap.size, 2, none⟩ = some (.int .i64 q.z) := by simp [World.cell?, Qu6.out]
            clear hu6
            have HS : Hid (stN c1 c2 (n + 1) = (D, (n : Int), L)) := Lib.hid (by unfold stN; rw [if_pos HC.out, ← HDL.out.1, ← HDL.out.2])
            go_wp2_with fail
            exact ⟨⟨n + 1, D, n, L, by omega, by go_num, rfl, rfl, rfl, Lib.hid (by rw [HS.out]; exact ⟨rfl, rfl⟩), Lib.hid (fun _ => by rw [HS.out]), HB1.out.trans (Bu6.out.mono s1)⟩, by simp [intOf]; omega⟩
          · have HS : Hid (stN c1 c2 (n + 1) = stN c1 c2 n) := Lib.hid (by rw [stN, if_neg (by rw [← HDL.out.1, ← ha]; rw [← ha] at hnn; omega)])
            have bd : decide (D < va) = false := decide_eq_false hd
            have HA2 : Hid (va = (stN c1 c2 n).1) := Lib.hid ha
            clear hn0 ha hnn hd
            go_wp2_with fail
            exact ⟨⟨n + 1, va, vb, vc, by omega, by go_num, rfl, rfl, rfl, Lib.hid (by rw [HS.out]; exact HBC.out), Lib.hid (fun _ => by rw [HS.out]; exact HA2.out), HB1.out.trans (Bu5.out.mono s1)⟩, by simp [intOf]; omega⟩
        · obtain rfl : n = N + 1 := by omega
          have hltI : ¬ ((N + 1 : Nat) : Int) ≤ x.cy := by have := HCY.out; omega
          obtain ⟨rfl, rfl⟩ := HBC.out
          go_wp2_with fail
          go_ret3
          exact ⟨ret_t3 HR.out, Bwr.out⟩
end Go.Proofs.YtnnnpliigdfipaaGreatDoor
