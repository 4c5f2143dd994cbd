/- encounter: the reference's Path. -/
import Derived.Test.YtnnnpliigdfipaaGreatDoorRows
import Derived.WalkKit
import Derived.WalkLawsBesides
import Derived.WalkSpells
import Derived.ProofKit
import Derived.Below
import Derived.Outline
import Derived.Lib.Hide
import Derived.Deep.RegionWith
import Derived.Deep.RegionHeld3
import Derived.Deep.DrawnRows
import Derived.StillTailTactics
import Derived.BigQuiet
import Derived.Deep.QuietTactic
import Derived.Deep.LoopGhost
import Derived.IntWalk
import Derived.Lib.MinMax
import Derived.OrdersHeld
import Derived.Deep.CutBlock
import Derived.Deep.CutRange
import Derived.Deep.DeepCutAuto
import Derived.Test.YtnnnpliigdfipaaGreatDoorEnHK
namespace Go.Proofs.YtnnnpliigdfipaaGreatDoor
open Go.RowKit
attribute [local go_sem ↓] Go.wp_at_zero Go.wp_at_succ
attribute [local go_sem] wrap_lit
set_option maxRecDepth 100000 in
set_option maxHeartbeats 4000000 in
theorem path21 (x : En) (A : Option Addr) (cap : Nat) (i : Int) (w : World) (hc : InCr w w.heap.size A x.cs) (hcap : x.cs.length ≤ cap) (hcm : cap ≤ maxLen) : Calls Tryz.prog 21 #[.agg #[.int .i64 x.cy, .int .i64 x.gr, .slice A x.cs.length cap], .int .i64 i] w fun e w' => ∃ PA pcap, e = .returned (.tuple #[.slice PA (pathR x i).1.length pcap, .int .i64 (pathR x i).2]) ∧ (pathR x i).1.length ≤ pcap ∧ Own .i64 w' w.heap.size PA 42 (flat (pathR x i).1) ∧ Below w.heap.size w w' := by
  have Iw := Lib.hid hc
  clear hc
  obtain ⟨i0, hi0, hz0, hz1, hz2⟩ := info_parts plane_info
  have wl : IntKind.i64.wrap ((x.cs.length : Int) - 1) = (x.cs.length : Int) - 1 := IntWalk.i64_in _ (by have := hcap; have := hcm; unfold maxLen at *; omega)
  go_enter Tryz.func21, Tryz.ntmps21
  go_wp2_with fail
  obtain ⟨w0, hw0⟩ : ∃ w0, w0 = w.alloc (.cells #[.int .i64 x.cy, .int .i64 x.gr, .slice A x.cs.length cap] 24) := ⟨_, rfl⟩
  have bw0 : Below w.heap.size w w0 := by rw [hw0]; exact (Below.refl _ _).alloc (Nat.le_refl _) _
  have nw0 : w0.heap[w.heap.size]? = some (.cells #[.int .i64 x.cy, .int .i64 x.gr, .slice A x.cs.length cap] 24 (0, 0)) := by rw [hw0]; exact heap_alloc_new _ _
  have Bw0 : Hid (Below w.heap.size w w0) := Lib.hid ((bw0))
  have mw0 : w.heap.size ≤ w0.heap.size := (bw0).size
  have Iw0 := Lib.hid ((Iw.out.below (bw0)).mono (bw0).size)
  clear Iw
  rw [← hw0]
  clear hw0 bw0
  have Xw0 := Lib.hid nw0
  clear nw0
  have Xc0w0 : w0.cell? ⟨w.heap.size, 0, none⟩ = some (.int .i64 x.cy) := by simp [World.cell?, Xw0.out]
  have Xc1w0 : w0.cell? ⟨w.heap.size, 1, none⟩ = some (.int .i64 x.gr) := by simp [World.cell?, Xw0.out]
  have Xc2w0 : w0.cell? ⟨w.heap.size, 2, none⟩ = some (.slice A x.cs.length cap) := by simp [World.cell?, Xw0.out]
  refine (check20 x A cap w0 Iw0.out).mono ?_
  rintro e w1 ⟨rfl, hw1⟩
  have Bw1 := Lib.hid (Bw0.out.trans ((hw1).mono mw0))
  have mw1 : w.heap.size ≤ w1.heap.size := Nat.le_trans mw0 (hw1).size
  have Iw1 := Lib.hid ((Iw0.out.below (hw1)).mono (hw1).size)
  have Xw1 := Lib.hid (((hw1).block _ (heap_lt Xw0.out)).trans Xw0.out)
  clear Bw0 mw0 Iw0 Xw0 Xc0w0 Xc1w0 Xc2w0
  have Xc0w1 : w1.cell? ⟨w.heap.size, 0, none⟩ = some (.int .i64 x.cy) := by simp [World.cell?, Xw1.out]
  have Xc1w1 : w1.cell? ⟨w.heap.size, 1, none⟩ = some (.int .i64 x.gr) := by simp [World.cell?, Xw1.out]
  have Xc2w1 : w1.cell? ⟨w.heap.size, 2, none⟩ = some (.slice A x.cs.length cap) := by simp [World.cell?, Xw1.out]
  clear hw1
  by_cases hch : ¬ chE x = 0
  · have HR : Hid (pathR x i = ([], chE x)) := Lib.hid (by have e : numE x [i] = chE x := by { unfold numE; rw [if_pos hch] }; unfold pathR; rw [e, if_pos hch])
    have hcb : (chE x != 0) = true := by simpa using hch
    clear hch
    go_wp2_with fail
    go_ret2
    rw [HR.out]
    exact ⟨none, 0, rfl, Nat.le_refl _, fun h => by simp [flat] at h, Bw1.out⟩
  have hch := Classical.not_not.1 hch
  have OK := Lib.hid (chE_ok hch)
  have HCH := Lib.hid hch
  rw [hch]
  clear hch
  go_wp2_with fail
  refine (within75 i 0 ((x.cs.length : Int) - 1) w1).mono ?_
  rintro e wS ⟨rfl, rfl⟩
  cases hi : inB i 0 ((x.cs.length : Int) - 1) with
  | false =>
    have e8 : numE x [i] = 8 := numE_bad x [i] 0 (by simp) HCH.out (by simp only [nth, List.getD_cons_zero]; exact inB_len hi)
    have HR : Hid (pathR x i = ([], 8)) := Lib.hid (by unfold pathR; rw [e8, if_pos (by decide)])
    clear hi e8
    go_wp2_with fail
    go_ret2
    rw [HR.out]
    exact ⟨none, 0, rfl, Nat.le_refl _, fun h => by simp [flat] at h, Bw1.out⟩
  | true =>
    obtain ⟨ii0, ii1⟩ := inB_iff hi
    obtain ⟨n, rfl⟩ : ∃ n : Nat, i = n := ⟨i.toNat, by omega⟩
    have hn : n < x.cs.length := by omega
    have hnI : (n : Int) < (x.cs.length : Int) := by omega
    have e0 : numE x [(n : Int)] = 0 := numE_ok x [(n : Int)] HCH.out (fun j hj => by obtain rfl : j = 0 := (by simpa using hj); exact ⟨by simp [nth], by simp [nth]; omega⟩)
    obtain ⟨b, off, rfl, hbb, hcc⟩ := Iw1.out (by omega)
    obtain ⟨c, hcj⟩ : ∃ c, x.cs[n]? = some c := ⟨_, List.getElem?_eq_getElem (by omega)⟩
    obtain ⟨LA, cap', hA, hL⟩ := hcc n c hcj
    have CR := Lib.hid (crE_ok (cr_ok hcj OK.out.2.2.2.2).2)
    have G : Hid (Good c x.cy) := Lib.hid (good_of OK.out.1.1 OK.out.1.2 (cr_ok hcj OK.out.2.2.2.2).2)
    have Lw1 := Lib.hid hL
    obtain ⟨N, hN⟩ : ∃ N : Nat, x.cy = N := ⟨x.cy.toNat, by have := OK.out.1; omega⟩
    have hN120 : N ≤ 120 := by have := OK.out.1; omega
    have HP : Hid (pathR x n = (pathL c N, 0)) := Lib.hid (by unfold pathR; rw [if_neg (by rw [e0]; decide), crAt_n hcj, hN]; rfl)
    have HCY := Lib.hid hN
    clear hcc hcj hL hi e0
    obtain ⟨a0, a1, a2, a3, a4, a5, a6, a7, a8, a9, a10, a11, a12⟩ := hA
    have hXs := heap_lt Xw1.out
    have y1 : w.heap.size < w1.heap.size + 1 := by omega
    have y2 : w.heap.size < w1.heap.size + 1 + 1 := by omega
    rw [hN] at Xc0w1
    clear hN
    go_wp2_with fail
    obtain ⟨W4, hW4⟩ : ∃ W4, W4 = ((w1.alloc (.cells #[.int .i64 c.ad, .int .i64 c.p.x, .int .i64 c.p.y, .int .i64 c.p.z, .int .i64 c.v.x, .int .i64 c.v.y, .int .i64 c.v.z, .int .i64 c.pu, .slice LA c.lg.length cap', .int .u8 c.mo, .int .i64 c.de, .int .i64 c.pp, .int .i64 c.mi] 63)).alloc (.cells #[.int .i64 c.p.z, .int .i64 c.v.z] 42)).alloc (.cells #[.int .i64 c.p.z, .int .i64 c.v.z] 42) := ⟨_, rfl⟩
    have s4 : W4.heap.size = w1.heap.size + 1 + 1 + 1 := by rw [hW4]; simp
    have B4 : Hid (Below w1.heap.size w1 W4) := Lib.hid (by rw [hW4]; exact (((Below.refl _ _).alloc (Nat.le_refl _) _).alloc (by simp) _).alloc (by simp; omega) _)
    have C4 : Hid (W4.heap[w1.heap.size]? = some (.cells #[.int .i64 c.ad, .int .i64 c.p.x, .int .i64 c.p.y, .int .i64 c.p.z, .int .i64 c.v.x, .int .i64 c.v.y, .int .i64 c.v.z, .int .i64 c.pu, .slice LA c.lg.length cap', .int .u8 c.mo, .int .i64 c.de, .int .i64 c.pp, .int .i64 c.mi] 63 (0, 0))) := Lib.hid (by rw [hW4]; exact (Below.heap_alloc _ _ _ (by simp; omega)).trans ((Below.heap_alloc _ _ _ (by simp)).trans (heap_alloc_new _ _)))
    have P4 : Hid (W4.heap[w1.heap.size + 1]? = some (.cells #[.int .i64 c.p.z, .int .i64 c.v.z] 42 (0, 0))) := Lib.hid (by rw [hW4]; exact (Below.heap_alloc _ _ _ (by simp)).trans (heap_alloc_at _ _ _ (by simp)))
    have o4 : W4.heap[w1.heap.size + 1 + 1]? = some (.cells ((flat (pathL c 0)).map (Value.int .i64)).toArray 42 (0, 0)) := by rw [hW4]; exact heap_alloc_at _ _ _ (by simp)
    rw [← hW4]
    clear hW4 a0 a1 a2 a3 a4 a5 a6 a7 a8 a9 a10 a11 a12 y1 y2
    have XB : Hid (∀ W, Below w1.heap.size w1 W → W.cell? ⟨w.heap.size, 0, none⟩ = some (.int .i64 (N : Int))) := Lib.hid (fun W h => (h.cell (p := ⟨w.heap.size, 0, none⟩) hXs).trans Xc0w1)
    go_loopw [9, 10] (fun r y wr => ∃ m : Nat, m ≤ N ∧ y = .int .i64 m ∧ Acc .i64 wr (w1.heap.size + 1 + 1) 42 2 r (m + 1) (flat (pathL c m)) ∧ wr.heap[w1.heap.size + 1]? = some (.cells #[.int .i64 (flyN c m).1, .int .i64 (flyN c m).2] 42 (0, 0)) ∧ Below (w1.heap.size + 1) W4 wr ∧ w1.heap.size + 1 + 1 + 1 ≤ wr.heap.size) (fun _ y _ => N - (intOf y).toNat)
    case atStart => exact ⟨0, Nat.zero_le _, rfl, Acc.fresh o4 (Nat.le_refl _) rfl, P4.out, Below.refl _ _, by omega⟩
    case round =>
      obtain ⟨m, hm, rfl, hacc, hp, hb, hsz⟩ := hrel
      have HA := Lib.hid hacc
      have HPB := Lib.hid hp
      have HB := Lib.hid hb
      clear hacc hb hp
      have HW : Hid (Below w1.heap.size w1 wr) := Lib.hid (B4.out.trans (HB.out.mono (by omega)))
      have xc := XB.out wr HW.out
      by_cases hlt : m < N
      · have hlI : (m : Int) < (N : Int) := by omega
        have Cr : Hid (wr.heap[w1.heap.size]? = some (.cells #[.int .i64 c.ad, .int .i64 c.p.x, .int .i64 c.p.y, .int .i64 c.p.z, .int .i64 c.v.x, .int .i64 c.v.y, .int .i64 c.v.z, .int .i64 c.pu, .slice LA c.lg.length cap', .int .u8 c.mo, .int .i64 c.de, .int .i64 c.pp, .int .i64 c.mi] 63 (0, 0))) := Lib.hid ((HB.out.block _ (Nat.lt_succ_self _)).trans C4.out)
        have AM := Lib.hid (fun (W : World) (h : Below wr.heap.size wr W) => aim78 c LA cap' m x.cy w1.heap.size W (Lw1.out.below (HW.out.trans (h.mono (by omega)))) (by have := h.size; omega) CR.out.2.2.2.2.2.2.1 CR.out.2.2.2.2.2.2.2)
        obtain ⟨Z, hZ⟩ : ∃ Z, Z = (flyN c (m + 1)).1 := ⟨_, rfl⟩
        obtain ⟨V, hV⟩ : ∃ V, V = (flyN c (m + 1)).2 := ⟨_, rfl⟩
        have HZV : Hid (flyN c (m + 1) = (Z, V)) := Lib.hid (by rw [hZ, hV])
        have FL : Hid (∀ W, Calls Tryz.prog 77 #[.agg #[.int .i64 (flyN c m).1, .int .i64 (flyN c m).2], .int .i64 (aimE c m), .int .i64 (aimE c m), .int .i64 c.pu] W fun e w' => e = .returned (.tuple #[.agg #[.int .i64 Z, .int .i64 V], .int .i64 0]) ∧ Below W.heap.size W w') := Lib.hid (fun W => by
          have h := fly77 (flyN c m).1 (flyN c m).2 (aimE c m) (aimE c m) c.pu W (flyN_bd G.out m) (by unfold bdB; obtain ⟨g0, g1⟩ := aim_bd G.out m; rw [inB_t g0 (Int.le_refl _), decide_eq_true g1]; rfl) ⟨(aim_bd G.out m).1, Int.le_refl _⟩ (by have := G.out.pu; omega) G.out.pu.2
          rw [show flyR (flyN c m).1 (flyN c m).2 (aimE c m) (aimE c m) c.pu = flyN c (m + 1) from rfl, HZV.out] at h
          exact h)
        obtain ⟨zm, hzm⟩ : ∃ zm, zm = (flyN c m).1 := ⟨_, rfl⟩
        obtain ⟨vm, hvm⟩ : ∃ vm, vm = (flyN c m).2 := ⟨_, rfl⟩
        obtain ⟨am, ham⟩ : ∃ am, am = aimE c m := ⟨_, rfl⟩
        rw [← hzm, ← hvm] at HPB FL
        rw [← ham] at FL AM
        clear hZ hV hzm hvm ham
        have hC := heap_lt Cr.out
        have hPB := heap_lt HPB.out
        go_upto_region 12 with fail
        go_cut [6] from 37 to 62 (fun e wx => e = .int .i64 0 ∧ wx.heap[w1.heap.size + 1]? = some (.cells #[.int .i64 Z, .int .i64 V] 42 (0, 0)) ∧ Below (w1.heap.size + 1) wr wx ∧ wr.heap.size ≤ wx.heap.size ∧ ∀ v n ys, Acc .i64 wr (w1.heap.size + 1 + 1) 42 2 v n ys → Acc .i64 wx (w1.heap.size + 1 + 1) 42 2 v n ys)
        case first =>
          refine wp_region_held_drew (S := fun w' => w'.heap[w1.heap.size]? = some (.cells #[.int .i64 c.ad, .int .i64 c.p.x, .int .i64 c.p.y, .int .i64 c.p.z, .int .i64 c.v.x, .int .i64 c.v.y, .int .i64 c.v.z, .int .i64 c.pu, .slice LA c.lg.length cap', .int .u8 c.mo, .int .i64 c.de, .int .i64 c.pp, .int .i64 c.mi] 63 (0, 0))) (by kernel_rfl) (show wr.drew.heap[w1.heap.size]? = _ from Cr.out) (fun hS => ?_)
          refine wpAnyH_take (i := 1) (v := ?vA1) rfl (by kernel_rfl) (by kernel_rfl) (by kernel_rfl) (fun _ _ _ h => h) (Or.inl ⟨by rfl, ?hA1⟩) hS ?rA1
          case hA1 =>
            intro wq hSw
            have zc0 : wq.cell? ⟨w1.heap.size, 0, none⟩ = some (.int .i64 c.ad) := cur_at' hSw rfl
            have zc1 : wq.cell? ⟨w1.heap.size, 1, none⟩ = some (.int .i64 c.p.x) := cur_at' hSw rfl
            have zc2 : wq.cell? ⟨w1.heap.size, 2, none⟩ = some (.int .i64 c.p.y) := cur_at' hSw rfl
            have zc3 : wq.cell? ⟨w1.heap.size, 3, none⟩ = some (.int .i64 c.p.z) := cur_at' hSw rfl
            have zc4 : wq.cell? ⟨w1.heap.size, 4, none⟩ = some (.int .i64 c.v.x) := cur_at' hSw rfl
            have zc5 : wq.cell? ⟨w1.heap.size, 5, none⟩ = some (.int .i64 c.v.y) := cur_at' hSw rfl
            have zc6 : wq.cell? ⟨w1.heap.size, 6, none⟩ = some (.int .i64 c.v.z) := cur_at' hSw rfl
            have zc7 : wq.cell? ⟨w1.heap.size, 7, none⟩ = some (.int .i64 c.pu) := cur_at' hSw rfl
            have zc8 : wq.cell? ⟨w1.heap.size, 8, none⟩ = some (.slice LA c.lg.length cap') := cur_at' hSw rfl
            have zc9 : wq.cell? ⟨w1.heap.size, 9, none⟩ = some (.int .u8 c.mo) := cur_at' hSw rfl
            have zc10 : wq.cell? ⟨w1.heap.size, 10, none⟩ = some (.int .i64 c.de) := cur_at' hSw rfl
            have zc11 : wq.cell? ⟨w1.heap.size, 11, none⟩ = some (.int .i64 c.pp) := cur_at' hSw rfl
            have zc12 : wq.cell? ⟨w1.heap.size, 12, none⟩ = some (.int .i64 c.mi) := cur_at' hSw rfl
            clear hSw
            go_simp
            try with_reducible rfl
          (try simp only [Act.put])
          refine wpAnyH_take (i := 2) (v := ?vA2) rfl (by kernel_rfl) (by kernel_rfl) (by kernel_rfl) (fun _ _ _ h => h) (Or.inl ⟨by rfl, ?hA2⟩) hS ?rA2
          case hA2 =>
            intro wq hSw
            clear hSw
            go_simp
            try with_reducible rfl
          (try simp only [Act.put])
          refine wpAnyH_take (i := 4) (v := ?vA3) rfl (by kernel_rfl) (by kernel_rfl) (by kernel_rfl) (fun _ _ _ h => h) (Or.inl ⟨by rfl, ?hA3⟩) hS ?rA3
          case hA3 =>
            intro wq hSw
            have zc0 : wq.cell? ⟨w1.heap.size, 0, none⟩ = some (.int .i64 c.ad) := cur_at' hSw rfl
            have zc1 : wq.cell? ⟨w1.heap.size, 1, none⟩ = some (.int .i64 c.p.x) := cur_at' hSw rfl
            have zc2 : wq.cell? ⟨w1.heap.size, 2, none⟩ = some (.int .i64 c.p.y) := cur_at' hSw rfl
            have zc3 : wq.cell? ⟨w1.heap.size, 3, none⟩ = some (.int .i64 c.p.z) := cur_at' hSw rfl
            have zc4 : wq.cell? ⟨w1.heap.size, 4, none⟩ = some (.int .i64 c.v.x) := cur_at' hSw rfl
            have zc5 : wq.cell? ⟨w1.heap.size, 5, none⟩ = some (.int .i64 c.v.y) := cur_at' hSw rfl
            have zc6 : wq.cell? ⟨w1.heap.size, 6, none⟩ = some (.int .i64 c.v.z) := cur_at' hSw rfl
            have zc7 : wq.cell? ⟨w1.heap.size, 7, none⟩ = some (.int .i64 c.pu) := cur_at' hSw rfl
            have zc8 : wq.cell? ⟨w1.heap.size, 8, none⟩ = some (.slice LA c.lg.length cap') := cur_at' hSw rfl
            have zc9 : wq.cell? ⟨w1.heap.size, 9, none⟩ = some (.int .u8 c.mo) := cur_at' hSw rfl
            have zc10 : wq.cell? ⟨w1.heap.size, 10, none⟩ = some (.int .i64 c.de) := cur_at' hSw rfl
            have zc11 : wq.cell? ⟨w1.heap.size, 11, none⟩ = some (.int .i64 c.pp) := cur_at' hSw rfl
            have zc12 : wq.cell? ⟨w1.heap.size, 12, none⟩ = some (.int .i64 c.mi) := cur_at' hSw rfl
            clear hSw
            go_simp
            try with_reducible rfl
          (try simp only [Act.put])
          refine wpAnyH_take (i := 5) (v := ?vA4) rfl (by kernel_rfl) (by kernel_rfl) (by kernel_rfl) (fun _ _ _ h => h) (Or.inl ⟨by rfl, ?hA4⟩) hS ?rA4
          case hA4 =>
            intro wq hSw
            clear hSw
            go_simp
            try with_reducible rfl
          (try simp only [Act.put])
          refine wpAnyH_take (i := 7) (v := ?vA5) rfl (by kernel_rfl) (by kernel_rfl) (by kernel_rfl) (fun _ _ _ h => h) (Or.inl ⟨by rfl, ?hA5⟩) hS ?rA5
          case hA5 =>
            intro wq hSw
            clear hSw
            go_simp
            try with_reducible rfl
          (try simp only [Act.put])
          refine wpAnyH_take (i := 8) (v := ?vA6) rfl (by kernel_rfl) (by kernel_rfl) (by kernel_rfl) (fun _ _ _ h => h) (Or.inl ⟨by rfl, ?hA6⟩) hS ?rA6
          case hA6 =>
            intro wq hSw
            have zc7 : wq.cell? ⟨w1.heap.size, 7, none⟩ = some (.int .i64 c.pu) := cur_at' hSw rfl
            clear hSw
            go_simp
            try with_reducible rfl
          (try simp only [Act.put])
          obtain ⟨W0, hW0⟩ : ∃ W0, W0 = wr.drew := ⟨_, rfl⟩
          have bW0 : Hid (Below wr.heap.size wr W0) := Lib.hid (by rw [hW0]; exact (Below.refl _ _).drew)
          have pW0 : Hid (W0.heap[w1.heap.size + 1]? = some (.cells #[.int .i64 zm, .int .i64 vm] 42 (0, 0))) := Lib.hid (by rw [hW0]; exact HPB.out)
          rw [← hW0] at hS ⊢
          clear hW0
          refine wpAnyH_ready (rs := [0, 3]) (by kernel_rfl) (by simp) (AllReadyH.cons rfl (fun K hK => ?aA7) (AllReadyH.cons rfl (fun K hK => ?bA7) AllReadyH.nil))
          case aA7 =>
            have p0 : W0.cell? ⟨w1.heap.size + 1, 0, none⟩ = some (.int .i64 zm) := cur_at' pW0.out rfl
            have p1 : W0.cell? ⟨w1.heap.size + 1, 1, none⟩ = some (.int .i64 vm) := cur_at' pW0.out rfl
            go_simp
            refine hK.out _ _ (hS) (fun hS => ?_)
            clear hK K
            clear p0 p1
            refine wpAnyH_ready (rs := [3]) (by kernel_rfl) (by simp) (AllReadyH.cons rfl (fun K hK => ?_) AllReadyH.nil)
            go_simp
            refine (AM.out W0 bW0.out).mono ?_
            rintro e W1 ⟨rfl, hb⟩
            have bW1 := Lib.hid (bW0.out.trans (hb.mono bW0.out.size))
            have pW1 := Lib.hid ((hb.block _ (heap_lt pW0.out)).trans pW0.out)
            have hSn := (hb.block _ (heap_lt hS)).trans hS
            clear hb
            refine hK.out _ _ (hSn) (fun hS => ?_)
            clear hK K
            refine wpAnyH_ready (rs := [6]) (by kernel_rfl) (by simp) (AllReadyH.cons rfl (fun K hK => ?_) AllReadyH.nil)
            go_simp
            refine (AM.out W1 bW1.out).mono ?_
            rintro e W2 ⟨rfl, hb⟩
            have bW2 := Lib.hid (bW1.out.trans (hb.mono bW1.out.size))
            have pW2 := Lib.hid ((hb.block _ (heap_lt pW1.out)).trans pW1.out)
            have hSn := (hb.block _ (heap_lt hS)).trans hS
            clear hb
            refine hK.out _ _ (hSn) (fun hS => ?_)
            clear hK K
            refine wpAnyH_ready (rs := [9]) (by kernel_rfl) (by simp) (AllReadyH.cons rfl (fun K hK => ?_) AllReadyH.nil)
            go_simp
            refine (FL.out W2).mono ?_
            rintro e Y9 ⟨rfl, hb⟩
            have bY9 := Lib.hid (bW2.out.trans (hb.mono bW2.out.size))
            have pY9 := Lib.hid ((hb.block _ (heap_lt pW2.out)).trans pW2.out)
            have hSn := (hb.block _ (heap_lt hS)).trans hS
            clear hb
            refine hK.out _ _ (hSn) (fun hS => ?_)
            clear hK K
            refine wpAnyH_take (i := 10) (v := ?vA8) rfl (by kernel_rfl) (by kernel_rfl) (by kernel_rfl) (fun _ _ _ h => h) (Or.inl ⟨by rfl, ?hA8⟩) hS ?rA8
            case hA8 =>
              intro wq hSw
              clear hSw
              go_simp
              try with_reducible rfl
            (try simp only [Act.put])
            refine wpAnyH_take (i := 11) (v := ?vA9) rfl (by kernel_rfl) (by kernel_rfl) (by kernel_rfl) (fun _ _ _ h => h) (Or.inl ⟨by rfl, ?hA9⟩) hS ?rA9
            case hA9 =>
              intro wq hSw
              clear hSw
              go_simp
              try with_reducible rfl
            (try simp only [Act.put])
            refine wpAnyH_take (i := 12) (v := ?vA10) rfl (by kernel_rfl) (by kernel_rfl) (by kernel_rfl) (fun _ _ _ h => h) (Or.inl ⟨by rfl, ?hA10⟩) hS ?rA10
            case hA10 =>
              intro wq hSw
              clear hSw
              go_simp
              try with_reducible rfl
            (try simp only [Act.put])
            have p0 : Y9.cell? ⟨w1.heap.size + 1, 0, none⟩ = some (.int .i64 zm) := cur_at' pY9.out rfl
            have p1 : Y9.cell? ⟨w1.heap.size + 1, 1, none⟩ = some (.int .i64 vm) := cur_at' pY9.out rfl
            have pf : ∀ i, Y9.frozen? ⟨w1.heap.size + 1, i, none⟩ = false := fun i => by simp [World.frozen?, pY9.out]
            refine wpAnyH_ready (rs := [13]) (by kernel_rfl) (by simp) (AllReadyH.cons rfl (fun K hK => ?_) AllReadyH.nil)
            go_simp
            refine hK.out _ _ ((set_far _ _ _ _ _ (Nat.ne_of_lt (Nat.lt_succ_self _))).trans ((set_far _ _ _ _ _ (Nat.ne_of_lt (Nat.lt_succ_self _))).trans hS)) (fun hS => ?_)
            clear hK K
            refine wpAnyH_ready (rs := [14]) (by kernel_rfl) (by simp) (AllReadyH.cons rfl (fun K hK => ?_) AllReadyH.nil)
            go_simp
            refine hK.out _ _ (hS) (fun hS => ?_)
            clear hK K
            refine wpAnyH_done (by kernel_rfl) ?_ _
            go_wp2_with fail
            go_meet
            case rel =>
              refine ⟨rfl, (setCell_heap _ _ _ _ _ _ _ (setCell_heap _ _ _ _ _ _ _ pY9.out)).trans (by simp), ((bY9.out.mono (show w1.heap.size + 1 ≤ wr.heap.size by omega)).setCell (p := ⟨w1.heap.size + 1, 0, none⟩) (Nat.le_refl _) _).setCell (p := ⟨w1.heap.size + 1, 1, none⟩) (Nat.le_refl _) _, by have := bY9.out.size; simpa [World.setCell] using this, fun v n ys h => ?_⟩
              exact ((h.below bY9.out).setCell (p := ⟨w1.heap.size + 1, 0, none⟩) (Nat.lt_succ_self _) _).setCell (p := ⟨w1.heap.size + 1, 1, none⟩) (Nat.lt_succ_self _) _
          case bA7 =>
            go_simp
            refine (AM.out W0 bW0.out).mono ?_
            rintro e W1 ⟨rfl, hb⟩
            have bW1 := Lib.hid (bW0.out.trans (hb.mono bW0.out.size))
            have pW1 := Lib.hid ((hb.block _ (heap_lt pW0.out)).trans pW0.out)
            have hSn := (hb.block _ (heap_lt hS)).trans hS
            clear hb
            refine hK.out _ _ (hSn) (fun hS => ?_)
            clear hK K
            refine wpAnyH_ready (rs := [0, 6]) (by kernel_rfl) (by simp) (AllReadyH.cons rfl (fun K hK => ?aA11) (AllReadyH.cons rfl (fun K hK => ?bA11) AllReadyH.nil))
            case aA11 =>
              have p0 : W1.cell? ⟨w1.heap.size + 1, 0, none⟩ = some (.int .i64 zm) := cur_at' pW1.out rfl
              have p1 : W1.cell? ⟨w1.heap.size + 1, 1, none⟩ = some (.int .i64 vm) := cur_at' pW1.out rfl
              go_simp
              refine hK.out _ _ (hS) (fun hS => ?_)
              clear hK K
              clear p0 p1
              refine wpAnyH_ready (rs := [6]) (by kernel_rfl) (by simp) (AllReadyH.cons rfl (fun K hK => ?_) AllReadyH.nil)
              go_simp
              refine (AM.out W1 bW1.out).mono ?_
              rintro e W2 ⟨rfl, hb⟩
              have bW2 := Lib.hid (bW1.out.trans (hb.mono bW1.out.size))
              have pW2 := Lib.hid ((hb.block _ (heap_lt pW1.out)).trans pW1.out)
              have hSn := (hb.block _ (heap_lt hS)).trans hS
              clear hb
              refine hK.out _ _ (hSn) (fun hS => ?_)
              clear hK K
              refine wpAnyH_ready (rs := [9]) (by kernel_rfl) (by simp) (AllReadyH.cons rfl (fun K hK => ?_) AllReadyH.nil)
              go_simp
              refine (FL.out W2).mono ?_
              rintro e Y9 ⟨rfl, hb⟩
              have bY9 := Lib.hid (bW2.out.trans (hb.mono bW2.out.size))
              have pY9 := Lib.hid ((hb.block _ (heap_lt pW2.out)).trans pW2.out)
              have hSn := (hb.block _ (heap_lt hS)).trans hS
              clear hb
              refine hK.out _ _ (hSn) (fun hS => ?_)
              clear hK K
              refine wpAnyH_take (i := 10) (v := ?vA12) rfl (by kernel_rfl) (by kernel_rfl) (by kernel_rfl) (fun _ _ _ h => h) (Or.inl ⟨by rfl, ?hA12⟩) hS ?rA12
              case hA12 =>
                intro wq hSw
                clear hSw
                go_simp
                try with_reducible rfl
              (try simp only [Act.put])
              refine wpAnyH_take (i := 11) (v := ?vA13) rfl (by kernel_rfl) (by kernel_rfl) (by kernel_rfl) (fun _ _ _ h => h) (Or.inl ⟨by rfl, ?hA13⟩) hS ?rA13
              case hA13 =>
                intro wq hSw
                clear hSw
                go_simp
                try with_reducible rfl
              (try simp only [Act.put])
              refine wpAnyH_take (i := 12) (v := ?vA14) rfl (by kernel_rfl) (by kernel_rfl) (by kernel_rfl) (fun _ _ _ h => h) (Or.inl ⟨by rfl, ?hA14⟩) hS ?rA14
              case hA14 =>
                intro wq hSw
                clear hSw
                go_simp
                try with_reducible rfl
              (try simp only [Act.put])
              have p0 : Y9.cell? ⟨w1.heap.size + 1, 0, none⟩ = some (.int .i64 zm) := cur_at' pY9.out rfl
              have p1 : Y9.cell? ⟨w1.heap.size + 1, 1, none⟩ = some (.int .i64 vm) := cur_at' pY9.out rfl
              have pf : ∀ i, Y9.frozen? ⟨w1.heap.size + 1, i, none⟩ = false := fun i => by simp [World.frozen?, pY9.out]
              refine wpAnyH_ready (rs := [13]) (by kernel_rfl) (by simp) (AllReadyH.cons rfl (fun K hK => ?_) AllReadyH.nil)
              go_simp
              refine hK.out _ _ ((set_far _ _ _ _ _ (Nat.ne_of_lt (Nat.lt_succ_self _))).trans ((set_far _ _ _ _ _ (Nat.ne_of_lt (Nat.lt_succ_self _))).trans hS)) (fun hS => ?_)
              clear hK K
              refine wpAnyH_ready (rs := [14]) (by kernel_rfl) (by simp) (AllReadyH.cons rfl (fun K hK => ?_) AllReadyH.nil)
              go_simp
              refine hK.out _ _ (hS) (fun hS => ?_)
              clear hK K
              refine wpAnyH_done (by kernel_rfl) ?_ _
              go_wp2_with fail
              go_meet
              case rel =>
                refine ⟨rfl, (setCell_heap _ _ _ _ _ _ _ (setCell_heap _ _ _ _ _ _ _ pY9.out)).trans (by simp), ((bY9.out.mono (show w1.heap.size + 1 ≤ wr.heap.size by omega)).setCell (p := ⟨w1.heap.size + 1, 0, none⟩) (Nat.le_refl _) _).setCell (p := ⟨w1.heap.size + 1, 1, none⟩) (Nat.le_refl _) _, by have := bY9.out.size; simpa [World.setCell] using this, fun v n ys h => ?_⟩
                exact ((h.below bY9.out).setCell (p := ⟨w1.heap.size + 1, 0, none⟩) (Nat.lt_succ_self _) _).setCell (p := ⟨w1.heap.size + 1, 1, none⟩) (Nat.lt_succ_self _) _
            case bA11 =>
              go_simp
              refine (AM.out W1 bW1.out).mono ?_
              rintro e W2 ⟨rfl, hb⟩
              have bW2 := Lib.hid (bW1.out.trans (hb.mono bW1.out.size))
              have pW2 := Lib.hid ((hb.block _ (heap_lt pW1.out)).trans pW1.out)
              have hSn := (hb.block _ (heap_lt hS)).trans hS
              clear hb
              refine hK.out _ _ (hSn) (fun hS => ?_)
              clear hK K
              refine wpAnyH_ready (rs := [0]) (by kernel_rfl) (by simp) (AllReadyH.cons rfl (fun K hK => ?_) AllReadyH.nil)
              have p0 : W2.cell? ⟨w1.heap.size + 1, 0, none⟩ = some (.int .i64 zm) := cur_at' pW2.out rfl
              have p1 : W2.cell? ⟨w1.heap.size + 1, 1, none⟩ = some (.int .i64 vm) := cur_at' pW2.out rfl
              go_simp
              refine hK.out _ _ (hS) (fun hS => ?_)
              clear hK K
              clear p0 p1
              refine wpAnyH_ready (rs := [9]) (by kernel_rfl) (by simp) (AllReadyH.cons rfl (fun K hK => ?_) AllReadyH.nil)
              go_simp
              refine (FL.out W2).mono ?_
              rintro e Y9 ⟨rfl, hb⟩
              have bY9 := Lib.hid (bW2.out.trans (hb.mono bW2.out.size))
              have pY9 := Lib.hid ((hb.block _ (heap_lt pW2.out)).trans pW2.out)
              have hSn := (hb.block _ (heap_lt hS)).trans hS
              clear hb
              refine hK.out _ _ (hSn) (fun hS => ?_)
              clear hK K
              refine wpAnyH_take (i := 10) (v := ?vA15) rfl (by kernel_rfl) (by kernel_rfl) (by kernel_rfl) (fun _ _ _ h => h) (Or.inl ⟨by rfl, ?hA15⟩) hS ?rA15
              case hA15 =>
                intro wq hSw
                clear hSw
                go_simp
                try with_reducible rfl
              (try simp only [Act.put])
              refine wpAnyH_take (i := 11) (v := ?vA16) rfl (by kernel_rfl) (by kernel_rfl) (by kernel_rfl) (fun _ _ _ h => h) (Or.inl ⟨by rfl, ?hA16⟩) hS ?rA16
              case hA16 =>
                intro wq hSw
                clear hSw
                go_simp
                try with_reducible rfl
              (try simp only [Act.put])
              refine wpAnyH_take (i := 12) (v := ?vA17) rfl (by kernel_rfl) (by kernel_rfl) (by kernel_rfl) (fun _ _ _ h => h) (Or.inl ⟨by rfl, ?hA17⟩) hS ?rA17
              case hA17 =>
                intro wq hSw
                clear hSw
                go_simp
                try with_reducible rfl
              (try simp only [Act.put])
              have p0 : Y9.cell? ⟨w1.heap.size + 1, 0, none⟩ = some (.int .i64 zm) := cur_at' pY9.out rfl
              have p1 : Y9.cell? ⟨w1.heap.size + 1, 1, none⟩ = some (.int .i64 vm) := cur_at' pY9.out rfl
              have pf : ∀ i, Y9.frozen? ⟨w1.heap.size + 1, i, none⟩ = false := fun i => by simp [World.frozen?, pY9.out]
              refine wpAnyH_ready (rs := [13]) (by kernel_rfl) (by simp) (AllReadyH.cons rfl (fun K hK => ?_) AllReadyH.nil)
              go_simp
              refine hK.out _ _ ((set_far _ _ _ _ _ (Nat.ne_of_lt (Nat.lt_succ_self _))).trans ((set_far _ _ _ _ _ (Nat.ne_of_lt (Nat.lt_succ_self _))).trans hS)) (fun hS => ?_)
              clear hK K
              refine wpAnyH_ready (rs := [14]) (by kernel_rfl) (by simp) (AllReadyH.cons rfl (fun K hK => ?_) AllReadyH.nil)
              go_simp
              refine hK.out _ _ (hS) (fun hS => ?_)
              clear hK K
              refine wpAnyH_done (by kernel_rfl) ?_ _
              go_wp2_with fail
              go_meet
              case rel =>
                refine ⟨rfl, (setCell_heap _ _ _ _ _ _ _ (setCell_heap _ _ _ _ _ _ _ pY9.out)).trans (by simp), ((bY9.out.mono (show w1.heap.size + 1 ≤ wr.heap.size by omega)).setCell (p := ⟨w1.heap.size + 1, 0, none⟩) (Nat.le_refl _) _).setCell (p := ⟨w1.heap.size + 1, 1, none⟩) (Nat.le_refl _) _, by have := bY9.out.size; simpa [World.setCell] using this, fun v n ys h => ?_⟩
                exact ((h.below bY9.out).setCell (p := ⟨w1.heap.size + 1, 0, none⟩) (Nat.lt_succ_self _) _).setCell (p := ⟨w1.heap.size + 1, 1, none⟩) (Nat.lt_succ_self _) _
        case rest =>
          obtain ⟨wi, hwi⟩ : ∃ wi, wi = wc := ⟨_, rfl⟩
          subst hwi
          obtain ⟨rfl, hp2, hb2, hs2, hac2⟩ := hcut
          have AC := Lib.hid (hac2 _ _ _ HA.out)
          have HP2 := Lib.hid hp2
          have HB2 := Lib.hid hb2
          clear hac2 hp2 hb2
          have p0 : wi.cell? ⟨w1.heap.size + 1, 0, none⟩ = some (.int .i64 Z) := cur_at' HP2.out rfl
          have p1 : wi.cell? ⟨w1.heap.size + 1, 1, none⟩ = some (.int .i64 V) := cur_at' HP2.out rfl
          go_wp2_with (at_builtin; refine wpList_appH rfl _ _ 37 rfl .i64 (w1.heap.size + 1 + 1) 42 i0 _ 2 16 Tryz.underlying37 hi0 hz0 hz1 hz2 rfl (by decide) _ _ _ [Z, V] rfl AC.out _ rfl wi.heap.size rfl rfl rfl (by omega) (by decide) (by omega) ?_; intro v' w7 acc7 hb7)
          refine ⟨⟨m + 1, by omega, by go_num, ?_, ?_, ?_, ?_⟩, by simp [intOf]; omega⟩
          · rw [pathL_succ, flat_app, HZV.out]; exact acc7
          · rw [HZV.out]; exact (hb7.block _ (Nat.lt_succ_self _)).trans HP2.out
          · exact (HB.out.trans HB2.out).trans (hb7.mono (by omega))
          · have := hb7.size; omega
      · obtain rfl : m = N := by omega
        obtain ⟨PA, pc, rfl, hcp, hown⟩ := HA.out.ownc
        have HO := Lib.hid hown
        clear hown
        have hlI : ¬ (m : Int) < (m : Int) := by omega
        go_wp2_with fail
        go_ret2
        rw [HP.out]
        refine ⟨PA, pc, by simp [pathL_len], by simpa [pathL_len] using hcp, fun hn => ?_, Bw1.out.trans (HW.out.mono mw1)⟩
        obtain ⟨g, cs, e1, e2, e3⟩ := HO.out hn
        exact ⟨g, cs, e1, by omega, e3⟩
end Go.Proofs.YtnnnpliigdfipaaGreatDoor
