/- encounter: the reference's Format. -/
import Derived.Test.YtnnnpliigdfipaaGreatDoorRows
import Derived.WalkKit
import Derived.WalkLawsBesides
import Derived.WalkSpells
import Derived.ProofKit
import Derived.Below
import Derived.Outline
import Derived.Lib.Hide
import Derived.Deep.RegionWith
import Derived.Deep.RegionHeld3
import Derived.Deep.DrawnRows
import Derived.StillTailTactics
import Derived.BigQuiet
import Derived.Deep.QuietTactic
import Derived.Deep.LoopGhost
import Derived.IntWalk
import Derived.Lib.MinMax
import Derived.OrdersHeld
import Derived.Deep.CutBlock
import Derived.Deep.CutRange
import Derived.Deep.DeepCutAuto
import Derived.Test.YtnnnpliigdfipaaGreatDoorEnHF
import Derived.Test.YtnnnpliigdfipaaGreatDoorEnHD
import Derived.Test.YtnnnpliigdfipaaGreatDoorEnCB
namespace Go.Proofs.YtnnnpliigdfipaaGreatDoor
open Go.RowKit
attribute [local go_sem ↓] Go.wp_at_zero Go.wp_at_succ
attribute [local go_sem] wrap_lit
theorem wpAnyH_S {P : Program} {md : Region.Mode} {ops : Array Oper} {Q : Exit → Act → World → Prop} {S S' : World → Prop} (h : ∀ w, S' w → S w) : ∀ (fuel : Nat) (listed : Array Bool) (a : Act) (w : World), wpAnyH P md ops Q S' fuel listed a w → wpAnyH P md ops Q S fuel listed a w
  | 0, _, _, _, g => g
  | fuel + 1, _, _, _, g => ⟨g.1, fun i hi => wpOp_mono (fun _ _ h' => ⟨h _ h'.1, wpAnyH_S h fuel _ _ _ h'.2⟩) (g.2 i hi)⟩
theorem modes64 (w : World) : Calls Tryz.prog 64 #[] w fun e w' => e = .returned (.slice (some ⟨w.heap.size, 0, none⟩) 3 3) ∧ w.alloc (.cells (wordsV [w_none, w_tables, w_rules]) 9) = w' := by
  go_enter Tryz.func64, Tryz.ntmps64
  go_wp2_with fail
  go_ret
  exact ⟨rfl, rfl⟩
theorem InT.of_block {W : World} {H : Nat} {ws : List Tx} {T : TypeId} {f : Nat × Nat} (h : W.heap[H]? = some (.cells (wordsV ws) T f)) : InT W W.heap.size (some ⟨H, 0, none⟩) ws := fun _ =>
  ⟨H, 0, rfl, heap_lt h, fun j x hj => by
    rw [Nat.zero_add]
    simp [World.cell?, h, wordsV, hj]⟩
theorem Is.of_block {W : World} {H : Nat} {ns : List Int} {T : TypeId} {f : Nat × Nat} (h : W.heap[H]? = some (.cells ((ns.map (Value.int .i64)).toArray) T f)) : Is .i64 W W.heap.size (some ⟨H, 0, none⟩) ns := fun _ =>
  ⟨H, 0, rfl, heap_lt h, fun j hj => by
    rw [Nat.zero_add]
    simp [World.cell?, h, nth, List.getD_eq_getElem?_getD, hj]⟩
/-- a line out of two blocks -/
theorem line_at (ps : List (Option Tx)) (ns : List Int) (H1 H2 n1 n2 : Nat) (W : World) (h1 : W.heap[H1]? = some (.cells (wordsV (wordsOf ps)) 9 (0, 0))) (h2 : W.heap[H2]? = some (.cells ((ns.map (Value.int .i64)).toArray) 3 (0, 0))) (e1 : n1 = ps.length) (e2 : n2 = ns.length) (hl : ps.length ≤ 100) (hz : ns.length = cntN ps) (hok : ∀ p, some p ∈ ps → p ≠ [] ∧ p.length ≤ 100) (hb : ∀ n ∈ ns, small n) :
    Calls Tryz.prog 63 #[.slice (some ⟨H1, 0, none⟩) n1 n1, .slice (some ⟨H2, 0, none⟩) n2 n2] W fun e w' => e = .returned (.string (S (lineT (writeP ps ns)))) ∧ Below W.heap.size W w' := by
  subst e1 e2
  exact line63 ps ns _ _ _ _ W (InT.of_block h1) (Is.of_block h2) hl hz hok hb
theorem ok_words {ps : List (Option Tx)} (h : ∀ w, some w ∈ ps → w ∈ [w_encounter, w_craft, w_at, w_moving, w_pull, w_mode, w_pilot, w_leg, w_none, w_tables, w_rules]) : ∀ p, some p ∈ ps → p ≠ [] ∧ p.length ≤ 100 := fun p hp => by
  have := h p hp
  simp only [List.mem_cons, List.not_mem_nil, or_false] at this
  rcases this with rfl | rfl | rfl | rfl | rfl | rfl | rfl | rfl | rfl | rfl | rfl <;> exact ⟨by decide, by decide⟩
theorem okw_enc : ∀ p, some p ∈ encP → p ≠ [] ∧ p.length ≤ 100 := ok_words (fun w h => by simp [encP] at h; simp [h])
theorem okw_leg : ∀ p, some p ∈ legP → p ≠ [] ∧ p.length ≤ 100 := ok_words (fun w h => by simp [legP] at h; simp [h])
theorem okw_cr (m : Int) : ∀ p, some p ∈ crP (moW m) → p ≠ [] ∧ p.length ≤ 100 := ok_words (fun w h => by
  simp only [crP, List.mem_cons, Option.some.injEq, reduceCtorEq, false_or, or_false, List.not_mem_nil] at h
  have := moW_mem m
  rcases h with rfl | rfl | rfl | rfl | rfl | rfl | rfl <;> simp_all)
theorem crP_le (m : Int) : (crP (moW m)).length ≤ 100 := by simp [crP]
attribute [local go_sem] S_app S_size
set_option maxRecDepth 100000 in
set_option maxHeartbeats 8000000 in
theorem format14 (x : En) (A : Option Addr) (cap : Nat) (w : World) (hc : InCr w w.heap.size A x.cs) (hmo : ∀ c ∈ x.cs, 0 ≤ c.mo) :
    Calls Tryz.prog 14 #[.agg #[.int .i64 x.cy, .int .i64 x.gr, .slice A x.cs.length cap]] w fun e w' => e = .returned (.tuple #[.string (S (foE x).1), .int .i64 (foE x).2]) ∧ Below w.heap.size w w' := by
  have HC := Lib.hid hc
  have HMO := Lib.hid hmo
  clear hc hmo
  by_cases hch : chE x = 0
  · obtain ⟨g1, g2, g3, g4, g5⟩ := chE_ok hch
    have HA := Lib.hid (allE_ok x.cs [] g5)
    have HF : Hid (foE x = (txE x, 0)) := Lib.hid (by unfold foE; rw [if_neg (fun h => h hch)])
    have HTL := Lib.hid (txU_le (x := x) hch)
    have sc : small x.cy := ⟨by omega, by omega⟩
    have sg : small x.gr := ⟨by omega, by omega⟩
    have HCH := Lib.hid hch
    have HG1 := Lib.hid g1
    clear hch g5 g1
    go_enter Tryz.func14, Tryz.ntmps14
    go_wp2_with fail
    obtain ⟨w0, hw0⟩ : ∃ w0, w0 = w.alloc (.cells #[.int .i64 x.cy, .int .i64 x.gr, .slice A x.cs.length cap] 24) := ⟨_, rfl⟩
    have B0 : Hid (Below w.heap.size w w0) := Lib.hid (by rw [hw0]; exact (Below.refl _ _).alloc (Nat.le_refl _) _)
    have X0 : Hid (w0.heap[w.heap.size]? = some (.cells #[.int .i64 x.cy, .int .i64 x.gr, .slice A x.cs.length cap] 24 (0, 0))) := Lib.hid (by rw [hw0]; exact heap_alloc_new _ _)
    rw [← hw0]
    clear hw0
    have s0 := B0.out.size
    refine (check20 x A cap w0 ((HC.out.below B0.out).mono s0)).mono ?_
    rintro e w1 ⟨rfl, hb1⟩
    rw [HCH.out]
    have B1 := Lib.hid (B0.out.trans (hb1.mono s0))
    have X1 := Lib.hid ((hb1.block _ (heap_lt X0.out)).trans X0.out)
    have s1 := B1.out.size
    clear hb1 X0 B0
    have x0 : w1.cell? ⟨w.heap.size, 0, none⟩ = some (.int .i64 x.cy) := by simp [World.cell?, X1.out]
    have x1 : w1.cell? ⟨w.heap.size, 1, none⟩ = some (.int .i64 x.gr) := by simp [World.cell?, X1.out]
    have hX1 := heap_lt X1.out
    have a0 : ∀ ob, (w1.alloc ob).cell? ⟨w.heap.size, 0, none⟩ = some (.int .i64 x.cy) := fun ob => (World.cell?_alloc_lt _ _ _ hX1).trans x0
    have a1 : ∀ ob, (w1.alloc ob).cell? ⟨w.heap.size, 1, none⟩ = some (.int .i64 x.gr) := fun ob => (World.cell?_alloc_lt _ _ _ hX1).trans x1
    go_wp2_with fail
    obtain ⟨w2, hw2⟩ : ∃ w2, w2 = (w1.alloc (.cells (wordsV (wordsOf encP)) 9)).alloc (.cells (([x.cy, x.gr].map (Value.int .i64)).toArray) 3) := ⟨_, rfl⟩
    have hb2 : Below w1.heap.size w1 w2 := by rw [hw2]; exact ((Below.refl _ _).alloc (Nat.le_refl _) _).alloc (by simp) _
    have L2 := line_at encP [x.cy, x.gr] w1.heap.size (w1.heap.size + 1) 3 2 w2 (by rw [hw2]; exact (Below.heap_alloc _ _ _ (by simp)).trans (heap_alloc_new _ _)) (by rw [hw2]; exact heap_alloc_at _ _ _ (by simp)) rfl rfl (by decide) rfl okw_enc (fun n hn => by simp at hn; rcases hn with rfl | rfl <;> assumption)
    have ew : wordsV (wordsOf encP) = #[.string ⟨#[101, 110, 99, 111, 117, 110, 116, 101, 114]⟩, .string ⟨#[]⟩, .string ⟨#[]⟩] := rfl
    rw [show (w1.alloc (.cells #[.string ⟨#[101, 110, 99, 111, 117, 110, 116, 101, 114]⟩, .string ⟨#[]⟩, .string ⟨#[]⟩] 9)).alloc (.cells #[.int .i64 x.cy, .int .i64 x.gr] 3) = w2 from hw2.symm]
    refine L2.mono ?_
    rintro e w3 ⟨rfl, hb3⟩
    have B3 := Lib.hid (B1.out.trans ((hb2.mono s1).trans (hb3.mono (by have := hb2.size; omega))))
    have s3 := B3.out.size
    have X3 := Lib.hid ((hb3.block _ (by have := hb2.size; omega)).trans ((hb2.block _ hX1).trans X1.out))
    clear L2 ew hw2 hb2 hb3 x0 x1 a0 a1 X1 B1
    have T0 : Hid (lineT (writeP encP [x.cy, x.gr]) = txU x 0) := Lib.hid (by rw [txU_zero]; rfl)
    rw [T0.out]
    have hX3 := heap_lt X3.out
    have hlen6 : (x.cs.length : Int) ≤ 6 := by omega
    go_wp2_with fail
    go_loopw [5, 6] (fun v i wr => ∃ n : Nat, n ≤ x.cs.length ∧ i = .int .i64 n ∧ v = .string (S (txU x n)) ∧ Below w3.heap.size w3 wr) (fun _ i _ => x.cs.length - (intOf i).toNat)
    case atStart => exact ⟨0, Nat.zero_le _, rfl, rfl, Below.refl _ _⟩
    case round =>
      obtain ⟨n, hn, rfl, rfl, hb⟩ := hrel
      obtain ⟨wo, hwo⟩ : ∃ wo, wo = wr := ⟨_, rfl⟩
      subst hwo
      have HB := Lib.hid hb
      have BW := Lib.hid (B3.out.trans (hb.mono s3))
      have Xr := Lib.hid ((hb.block _ hX3).trans X3.out)
      have sr := hb.size
      have hXr := heap_lt Xr.out
      clear hb
      have x2 : wo.cell? ⟨w.heap.size, 2, none⟩ = some (.slice A x.cs.length cap) := by simp [World.cell?, Xr.out]
      by_cases hlt : n < x.cs.length
      · obtain ⟨cb, off, rfl, hcb, hcr⟩ := HC.out (by omega)
        obtain ⟨c, hcj⟩ : ∃ c, x.cs[n]? = some c := ⟨_, List.getElem?_eq_getElem hlt⟩
        obtain ⟨LA, lcap, hat, hL⟩ := hcr n c hcj
        obtain ⟨a0, a1, a2, a3, a4, a5, a6, a7, a8, a9, a10, a11, a12⟩ := hat.below BW.out hcb
        have hcm := List.mem_of_getElem? hcj
        have hck := HA.out c hcm
        have hns := Lib.hid (nums_small hck.1 hck.2)
        have hm0 := HMO.out c hcm
        have hm2 := (crE_ok hck.2).2.2.2.2.1
        have hleg := (crE_ok hck.2).2.2.2.2.2.2
        have hll : (c.lg.length : Int) ≤ 16 := by have := hleg.1; omega
        have HLS := Lib.hid (small_legs HG1.out.1 HG1.out.2 c.lg 0 (by omega) hleg.2)
        have HTX := Lib.hid (txU_succ hcj)
        have hT1 := HTL.out (n + 1)
        rw [HTX.out] at hT1
        have hTl : ∀ k, (txU x n).length + (crU c k).length ≤ 4096 := fun k => by have := crU_le c k; simp at hT1; omega
        have HT := Lib.hid hTl
        have hT0 := hTl 0
        rw [crU_zero] at hT0
        have HLr := Lib.hid (hL.below BW.out)
        have HJ := Lib.hid hcj
        clear hcr hat hL hcm hck hleg hT1 hTl hcj
        have hltI : (n : Int) < (x.cs.length : Int) := by omega
        have hm3 : c.mo < 3 := by omega
        go_upto_region 9 with fail
        obtain ⟨wX, hwX⟩ : ∃ wX, wX = wo.alloc (.cells #[.int .i64 c.ad, .int .i64 c.p.x, .int .i64 c.p.y, .int .i64 c.p.z, .int .i64 c.v.x, .int .i64 c.v.y, .int .i64 c.v.z, .int .i64 c.pu, .slice LA c.lg.length lcap, .int .u8 c.mo, .int .i64 c.de, .int .i64 c.pp, .int .i64 c.mi] 63) := ⟨_, rfl⟩
        have bX : Hid (Below wo.heap.size wo wX) := Lib.hid (by rw [hwX]; exact (Below.refl _ _).alloc (Nat.le_refl _) _)
        have CX : Hid (wX.heap[wo.heap.size]? = some (.cells #[.int .i64 c.ad, .int .i64 c.p.x, .int .i64 c.p.y, .int .i64 c.p.z, .int .i64 c.v.x, .int .i64 c.v.y, .int .i64 c.v.z, .int .i64 c.pu, .slice LA c.lg.length lcap, .int .u8 c.mo, .int .i64 c.de, .int .i64 c.pp, .int .i64 c.mi] 63 (0, 0))) := Lib.hid (by rw [hwX]; exact heap_alloc_new _ _)
        rw [← hwX]
        clear hwX a0 a1 a2 a3 a4 a5 a6 a7 a8 a9 a10 a11 a12
        have hCX := heap_lt CX.out
        go_cut [5] from 21 to 97 (fun v wx => v = .string (S (txU x n ++ lineT (crL c))) ∧ Below wX.heap.size wX wx)
        case first =>
          have kX := CX.out
          refine wp_region_held_drew (S := fun w' => w'.heap[wo.heap.size]? = some (.cells #[.int .i64 c.ad, .int .i64 c.p.x, .int .i64 c.p.y, .int .i64 c.p.z, .int .i64 c.v.x, .int .i64 c.v.y, .int .i64 c.v.z, .int .i64 c.pu, .slice LA c.lg.length lcap, .int .u8 c.mo, .int .i64 c.de, .int .i64 c.pp, .int .i64 c.mi] 63 (0, 0))) (by kernel_rfl) (show wX.drew.heap[wo.heap.size]? = _ from kX) (fun hS => ?_)
          refine wpAnyH_take (i := 0) (v := ?vA1) rfl (by kernel_rfl) (by kernel_rfl) (by kernel_rfl) (fun _ _ _ h => h) (Or.inl ⟨by rfl, ?hA1⟩) hS ?rA1
          case hA1 =>
            intro w1 hSw
            have z0 : w1.cell? ⟨wo.heap.size, 0, none⟩ = some (.int .i64 c.ad) := by simp [World.cell?, hSw]
            have z1 : w1.cell? ⟨wo.heap.size, 1, none⟩ = some (.int .i64 c.p.x) := by simp [World.cell?, hSw]
            have z2 : w1.cell? ⟨wo.heap.size, 2, none⟩ = some (.int .i64 c.p.y) := by simp [World.cell?, hSw]
            have z3 : w1.cell? ⟨wo.heap.size, 3, none⟩ = some (.int .i64 c.p.z) := by simp [World.cell?, hSw]
            have z4 : w1.cell? ⟨wo.heap.size, 4, none⟩ = some (.int .i64 c.v.x) := by simp [World.cell?, hSw]
            have z5 : w1.cell? ⟨wo.heap.size, 5, none⟩ = some (.int .i64 c.v.y) := by simp [World.cell?, hSw]
            have z6 : w1.cell? ⟨wo.heap.size, 6, none⟩ = some (.int .i64 c.v.z) := by simp [World.cell?, hSw]
            have z7 : w1.cell? ⟨wo.heap.size, 7, none⟩ = some (.int .i64 c.pu) := by simp [World.cell?, hSw]
            have z8 : w1.cell? ⟨wo.heap.size, 8, none⟩ = some (.slice LA c.lg.length lcap) := by simp [World.cell?, hSw]
            have z9 : w1.cell? ⟨wo.heap.size, 9, none⟩ = some (.int .u8 c.mo) := by simp [World.cell?, hSw]
            have z10 : w1.cell? ⟨wo.heap.size, 10, none⟩ = some (.int .i64 c.de) := by simp [World.cell?, hSw]
            have z11 : w1.cell? ⟨wo.heap.size, 11, none⟩ = some (.int .i64 c.pp) := by simp [World.cell?, hSw]
            have z12 : w1.cell? ⟨wo.heap.size, 12, none⟩ = some (.int .i64 c.mi) := by simp [World.cell?, hSw]
            clear hSw
            go_simp
            try with_reducible rfl
          (try simp only [Act.put])
          refine wpAnyH_take (i := 2) (v := ?vA2) rfl (by kernel_rfl) (by kernel_rfl) (by kernel_rfl) (fun _ _ _ h => h) (Or.inl ⟨by rfl, ?hA2⟩) hS ?rA2
          case hA2 =>
            intro w1 hSw
            have z0 : w1.cell? ⟨wo.heap.size, 0, none⟩ = some (.int .i64 c.ad) := by simp [World.cell?, hSw]
            have z1 : w1.cell? ⟨wo.heap.size, 1, none⟩ = some (.int .i64 c.p.x) := by simp [World.cell?, hSw]
            have z2 : w1.cell? ⟨wo.heap.size, 2, none⟩ = some (.int .i64 c.p.y) := by simp [World.cell?, hSw]
            have z3 : w1.cell? ⟨wo.heap.size, 3, none⟩ = some (.int .i64 c.p.z) := by simp [World.cell?, hSw]
            have z4 : w1.cell? ⟨wo.heap.size, 4, none⟩ = some (.int .i64 c.v.x) := by simp [World.cell?, hSw]
            have z5 : w1.cell? ⟨wo.heap.size, 5, none⟩ = some (.int .i64 c.v.y) := by simp [World.cell?, hSw]
            have z6 : w1.cell? ⟨wo.heap.size, 6, none⟩ = some (.int .i64 c.v.z) := by simp [World.cell?, hSw]
            have z7 : w1.cell? ⟨wo.heap.size, 7, none⟩ = some (.int .i64 c.pu) := by simp [World.cell?, hSw]
            have z8 : w1.cell? ⟨wo.heap.size, 8, none⟩ = some (.slice LA c.lg.length lcap) := by simp [World.cell?, hSw]
            have z9 : w1.cell? ⟨wo.heap.size, 9, none⟩ = some (.int .u8 c.mo) := by simp [World.cell?, hSw]
            have z10 : w1.cell? ⟨wo.heap.size, 10, none⟩ = some (.int .i64 c.de) := by simp [World.cell?, hSw]
            have z11 : w1.cell? ⟨wo.heap.size, 11, none⟩ = some (.int .i64 c.pp) := by simp [World.cell?, hSw]
            have z12 : w1.cell? ⟨wo.heap.size, 12, none⟩ = some (.int .i64 c.mi) := by simp [World.cell?, hSw]
            clear hSw
            go_simp
            try with_reducible rfl
          (try simp only [Act.put])
          refine wpAnyH_take (i := 3) (v := ?vA3) rfl (by kernel_rfl) (by kernel_rfl) (by kernel_rfl) (fun _ _ _ h => h) (Or.inl ⟨by rfl, ?hA3⟩) hS ?rA3
          case hA3 =>
            intro w1 hSw
            have z0 : w1.cell? ⟨wo.heap.size, 0, none⟩ = some (.int .i64 c.ad) := by simp [World.cell?, hSw]
            have z1 : w1.cell? ⟨wo.heap.size, 1, none⟩ = some (.int .i64 c.p.x) := by simp [World.cell?, hSw]
            have z2 : w1.cell? ⟨wo.heap.size, 2, none⟩ = some (.int .i64 c.p.y) := by simp [World.cell?, hSw]
            have z3 : w1.cell? ⟨wo.heap.size, 3, none⟩ = some (.int .i64 c.p.z) := by simp [World.cell?, hSw]
            have z4 : w1.cell? ⟨wo.heap.size, 4, none⟩ = some (.int .i64 c.v.x) := by simp [World.cell?, hSw]
            have z5 : w1.cell? ⟨wo.heap.size, 5, none⟩ = some (.int .i64 c.v.y) := by simp [World.cell?, hSw]
            have z6 : w1.cell? ⟨wo.heap.size, 6, none⟩ = some (.int .i64 c.v.z) := by simp [World.cell?, hSw]
            have z7 : w1.cell? ⟨wo.heap.size, 7, none⟩ = some (.int .i64 c.pu) := by simp [World.cell?, hSw]
            have z8 : w1.cell? ⟨wo.heap.size, 8, none⟩ = some (.slice LA c.lg.length lcap) := by simp [World.cell?, hSw]
            have z9 : w1.cell? ⟨wo.heap.size, 9, none⟩ = some (.int .u8 c.mo) := by simp [World.cell?, hSw]
            have z10 : w1.cell? ⟨wo.heap.size, 10, none⟩ = some (.int .i64 c.de) := by simp [World.cell?, hSw]
            have z11 : w1.cell? ⟨wo.heap.size, 11, none⟩ = some (.int .i64 c.pp) := by simp [World.cell?, hSw]
            have z12 : w1.cell? ⟨wo.heap.size, 12, none⟩ = some (.int .i64 c.mi) := by simp [World.cell?, hSw]
            clear hSw
            go_simp
            try with_reducible rfl
          (try simp only [Act.put])
          refine wpAnyH_take (i := 7) (v := ?vA4) rfl (by kernel_rfl) (by kernel_rfl) (by kernel_rfl) (fun _ _ _ h => h) (Or.inl ⟨by rfl, ?hA4⟩) hS ?rA4
          case hA4 =>
            intro w1 hSw
            have z0 : w1.cell? ⟨wo.heap.size, 0, none⟩ = some (.int .i64 c.ad) := by simp [World.cell?, hSw]
            have z1 : w1.cell? ⟨wo.heap.size, 1, none⟩ = some (.int .i64 c.p.x) := by simp [World.cell?, hSw]
            have z2 : w1.cell? ⟨wo.heap.size, 2, none⟩ = some (.int .i64 c.p.y) := by simp [World.cell?, hSw]
            have z3 : w1.cell? ⟨wo.heap.size, 3, none⟩ = some (.int .i64 c.p.z) := by simp [World.cell?, hSw]
            have z4 : w1.cell? ⟨wo.heap.size, 4, none⟩ = some (.int .i64 c.v.x) := by simp [World.cell?, hSw]
            have z5 : w1.cell? ⟨wo.heap.size, 5, none⟩ = some (.int .i64 c.v.y) := by simp [World.cell?, hSw]
            have z6 : w1.cell? ⟨wo.heap.size, 6, none⟩ = some (.int .i64 c.v.z) := by simp [World.cell?, hSw]
            have z7 : w1.cell? ⟨wo.heap.size, 7, none⟩ = some (.int .i64 c.pu) := by simp [World.cell?, hSw]
            have z8 : w1.cell? ⟨wo.heap.size, 8, none⟩ = some (.slice LA c.lg.length lcap) := by simp [World.cell?, hSw]
            have z9 : w1.cell? ⟨wo.heap.size, 9, none⟩ = some (.int .u8 c.mo) := by simp [World.cell?, hSw]
            have z10 : w1.cell? ⟨wo.heap.size, 10, none⟩ = some (.int .i64 c.de) := by simp [World.cell?, hSw]
            have z11 : w1.cell? ⟨wo.heap.size, 11, none⟩ = some (.int .i64 c.pp) := by simp [World.cell?, hSw]
            have z12 : w1.cell? ⟨wo.heap.size, 12, none⟩ = some (.int .i64 c.mi) := by simp [World.cell?, hSw]
            clear hSw
            go_simp
            try with_reducible rfl
          (try simp only [Act.put])
          refine wpAnyH_take (i := 8) (v := ?vA5) rfl (by kernel_rfl) (by kernel_rfl) (by kernel_rfl) (fun _ _ _ h => h) (Or.inl ⟨by rfl, ?hA5⟩) hS ?rA5
          case hA5 =>
            intro w1 hSw
            have z0 : w1.cell? ⟨wo.heap.size, 0, none⟩ = some (.int .i64 c.ad) := by simp [World.cell?, hSw]
            have z1 : w1.cell? ⟨wo.heap.size, 1, none⟩ = some (.int .i64 c.p.x) := by simp [World.cell?, hSw]
            have z2 : w1.cell? ⟨wo.heap.size, 2, none⟩ = some (.int .i64 c.p.y) := by simp [World.cell?, hSw]
            have z3 : w1.cell? ⟨wo.heap.size, 3, none⟩ = some (.int .i64 c.p.z) := by simp [World.cell?, hSw]
            have z4 : w1.cell? ⟨wo.heap.size, 4, none⟩ = some (.int .i64 c.v.x) := by simp [World.cell?, hSw]
            have z5 : w1.cell? ⟨wo.heap.size, 5, none⟩ = some (.int .i64 c.v.y) := by simp [World.cell?, hSw]
            have z6 : w1.cell? ⟨wo.heap.size, 6, none⟩ = some (.int .i64 c.v.z) := by simp [World.cell?, hSw]
            have z7 : w1.cell? ⟨wo.heap.size, 7, none⟩ = some (.int .i64 c.pu) := by simp [World.cell?, hSw]
            have z8 : w1.cell? ⟨wo.heap.size, 8, none⟩ = some (.slice LA c.lg.length lcap) := by simp [World.cell?, hSw]
            have z9 : w1.cell? ⟨wo.heap.size, 9, none⟩ = some (.int .u8 c.mo) := by simp [World.cell?, hSw]
            have z10 : w1.cell? ⟨wo.heap.size, 10, none⟩ = some (.int .i64 c.de) := by simp [World.cell?, hSw]
            have z11 : w1.cell? ⟨wo.heap.size, 11, none⟩ = some (.int .i64 c.pp) := by simp [World.cell?, hSw]
            have z12 : w1.cell? ⟨wo.heap.size, 12, none⟩ = some (.int .i64 c.mi) := by simp [World.cell?, hSw]
            clear hSw
            go_simp
            try with_reducible rfl
          (try simp only [Act.put])
          refine wpAnyH_take (i := 9) (v := ?vA6) rfl (by kernel_rfl) (by kernel_rfl) (by kernel_rfl) (fun _ _ _ h => h) (Or.inl ⟨by rfl, ?hA6⟩) hS ?rA6
          case hA6 =>
            intro w1 hSw
            have z0 : w1.cell? ⟨wo.heap.size, 0, none⟩ = some (.int .i64 c.ad) := by simp [World.cell?, hSw]
            have z1 : w1.cell? ⟨wo.heap.size, 1, none⟩ = some (.int .i64 c.p.x) := by simp [World.cell?, hSw]
            have z2 : w1.cell? ⟨wo.heap.size, 2, none⟩ = some (.int .i64 c.p.y) := by simp [World.cell?, hSw]
            have z3 : w1.cell? ⟨wo.heap.size, 3, none⟩ = some (.int .i64 c.p.z) := by simp [World.cell?, hSw]
            have z4 : w1.cell? ⟨wo.heap.size, 4, none⟩ = some (.int .i64 c.v.x) := by simp [World.cell?, hSw]
            have z5 : w1.cell? ⟨wo.heap.size, 5, none⟩ = some (.int .i64 c.v.y) := by simp [World.cell?, hSw]
            have z6 : w1.cell? ⟨wo.heap.size, 6, none⟩ = some (.int .i64 c.v.z) := by simp [World.cell?, hSw]
            have z7 : w1.cell? ⟨wo.heap.size, 7, none⟩ = some (.int .i64 c.pu) := by simp [World.cell?, hSw]
            have z8 : w1.cell? ⟨wo.heap.size, 8, none⟩ = some (.slice LA c.lg.length lcap) := by simp [World.cell?, hSw]
            have z9 : w1.cell? ⟨wo.heap.size, 9, none⟩ = some (.int .u8 c.mo) := by simp [World.cell?, hSw]
            have z10 : w1.cell? ⟨wo.heap.size, 10, none⟩ = some (.int .i64 c.de) := by simp [World.cell?, hSw]
            have z11 : w1.cell? ⟨wo.heap.size, 11, none⟩ = some (.int .i64 c.pp) := by simp [World.cell?, hSw]
            have z12 : w1.cell? ⟨wo.heap.size, 12, none⟩ = some (.int .i64 c.mi) := by simp [World.cell?, hSw]
            clear hSw
            go_simp
            try with_reducible rfl
          (try simp only [Act.put])
          refine wpAnyH_take (i := 10) (v := ?vA7) rfl (by kernel_rfl) (by kernel_rfl) (by kernel_rfl) (fun _ _ _ h => h) (Or.inl ⟨by rfl, ?hA7⟩) hS ?rA7
          case hA7 =>
            intro w1 hSw
            have z0 : w1.cell? ⟨wo.heap.size, 0, none⟩ = some (.int .i64 c.ad) := by simp [World.cell?, hSw]
            have z1 : w1.cell? ⟨wo.heap.size, 1, none⟩ = some (.int .i64 c.p.x) := by simp [World.cell?, hSw]
            have z2 : w1.cell? ⟨wo.heap.size, 2, none⟩ = some (.int .i64 c.p.y) := by simp [World.cell?, hSw]
            have z3 : w1.cell? ⟨wo.heap.size, 3, none⟩ = some (.int .i64 c.p.z) := by simp [World.cell?, hSw]
            have z4 : w1.cell? ⟨wo.heap.size, 4, none⟩ = some (.int .i64 c.v.x) := by simp [World.cell?, hSw]
            have z5 : w1.cell? ⟨wo.heap.size, 5, none⟩ = some (.int .i64 c.v.y) := by simp [World.cell?, hSw]
            have z6 : w1.cell? ⟨wo.heap.size, 6, none⟩ = some (.int .i64 c.v.z) := by simp [World.cell?, hSw]
            have z7 : w1.cell? ⟨wo.heap.size, 7, none⟩ = some (.int .i64 c.pu) := by simp [World.cell?, hSw]
            have z8 : w1.cell? ⟨wo.heap.size, 8, none⟩ = some (.slice LA c.lg.length lcap) := by simp [World.cell?, hSw]
            have z9 : w1.cell? ⟨wo.heap.size, 9, none⟩ = some (.int .u8 c.mo) := by simp [World.cell?, hSw]
            have z10 : w1.cell? ⟨wo.heap.size, 10, none⟩ = some (.int .i64 c.de) := by simp [World.cell?, hSw]
            have z11 : w1.cell? ⟨wo.heap.size, 11, none⟩ = some (.int .i64 c.pp) := by simp [World.cell?, hSw]
            have z12 : w1.cell? ⟨wo.heap.size, 12, none⟩ = some (.int .i64 c.mi) := by simp [World.cell?, hSw]
            clear hSw
            go_simp
            try with_reducible rfl
          (try simp only [Act.put])
          refine wpAnyH_take (i := 11) (v := ?vA8) rfl (by kernel_rfl) (by kernel_rfl) (by kernel_rfl) (fun _ _ _ h => h) (Or.inl ⟨by rfl, ?hA8⟩) hS ?rA8
          case hA8 =>
            intro w1 hSw
            have z0 : w1.cell? ⟨wo.heap.size, 0, none⟩ = some (.int .i64 c.ad) := by simp [World.cell?, hSw]
            have z1 : w1.cell? ⟨wo.heap.size, 1, none⟩ = some (.int .i64 c.p.x) := by simp [World.cell?, hSw]
            have z2 : w1.cell? ⟨wo.heap.size, 2, none⟩ = some (.int .i64 c.p.y) := by simp [World.cell?, hSw]
            have z3 : w1.cell? ⟨wo.heap.size, 3, none⟩ = some (.int .i64 c.p.z) := by simp [World.cell?, hSw]
            have z4 : w1.cell? ⟨wo.heap.size, 4, none⟩ = some (.int .i64 c.v.x) := by simp [World.cell?, hSw]
            have z5 : w1.cell? ⟨wo.heap.size, 5, none⟩ = some (.int .i64 c.v.y) := by simp [World.cell?, hSw]
            have z6 : w1.cell? ⟨wo.heap.size, 6, none⟩ = some (.int .i64 c.v.z) := by simp [World.cell?, hSw]
            have z7 : w1.cell? ⟨wo.heap.size, 7, none⟩ = some (.int .i64 c.pu) := by simp [World.cell?, hSw]
            have z8 : w1.cell? ⟨wo.heap.size, 8, none⟩ = some (.slice LA c.lg.length lcap) := by simp [World.cell?, hSw]
            have z9 : w1.cell? ⟨wo.heap.size, 9, none⟩ = some (.int .u8 c.mo) := by simp [World.cell?, hSw]
            have z10 : w1.cell? ⟨wo.heap.size, 10, none⟩ = some (.int .i64 c.de) := by simp [World.cell?, hSw]
            have z11 : w1.cell? ⟨wo.heap.size, 11, none⟩ = some (.int .i64 c.pp) := by simp [World.cell?, hSw]
            have z12 : w1.cell? ⟨wo.heap.size, 12, none⟩ = some (.int .i64 c.mi) := by simp [World.cell?, hSw]
            clear hSw
            go_simp
            try with_reducible rfl
          (try simp only [Act.put])
          refine wpAnyH_take (i := 12) (v := ?vA9) rfl (by kernel_rfl) (by kernel_rfl) (by kernel_rfl) (fun _ _ _ h => h) (Or.inl ⟨by rfl, ?hA9⟩) hS ?rA9
          case hA9 =>
            intro w1 hSw
            have z0 : w1.cell? ⟨wo.heap.size, 0, none⟩ = some (.int .i64 c.ad) := by simp [World.cell?, hSw]
            have z1 : w1.cell? ⟨wo.heap.size, 1, none⟩ = some (.int .i64 c.p.x) := by simp [World.cell?, hSw]
            have z2 : w1.cell? ⟨wo.heap.size, 2, none⟩ = some (.int .i64 c.p.y) := by simp [World.cell?, hSw]
            have z3 : w1.cell? ⟨wo.heap.size, 3, none⟩ = some (.int .i64 c.p.z) := by simp [World.cell?, hSw]
            have z4 : w1.cell? ⟨wo.heap.size, 4, none⟩ = some (.int .i64 c.v.x) := by simp [World.cell?, hSw]
            have z5 : w1.cell? ⟨wo.heap.size, 5, none⟩ = some (.int .i64 c.v.y) := by simp [World.cell?, hSw]
            have z6 : w1.cell? ⟨wo.heap.size, 6, none⟩ = some (.int .i64 c.v.z) := by simp [World.cell?, hSw]
            have z7 : w1.cell? ⟨wo.heap.size, 7, none⟩ = some (.int .i64 c.pu) := by simp [World.cell?, hSw]
            have z8 : w1.cell? ⟨wo.heap.size, 8, none⟩ = some (.slice LA c.lg.length lcap) := by simp [World.cell?, hSw]
            have z9 : w1.cell? ⟨wo.heap.size, 9, none⟩ = some (.int .u8 c.mo) := by simp [World.cell?, hSw]
            have z10 : w1.cell? ⟨wo.heap.size, 10, none⟩ = some (.int .i64 c.de) := by simp [World.cell?, hSw]
            have z11 : w1.cell? ⟨wo.heap.size, 11, none⟩ = some (.int .i64 c.pp) := by simp [World.cell?, hSw]
            have z12 : w1.cell? ⟨wo.heap.size, 12, none⟩ = some (.int .i64 c.mi) := by simp [World.cell?, hSw]
            clear hSw
            go_simp
            try with_reducible rfl
          (try simp only [Act.put])
          refine wpAnyH_take (i := 13) (v := ?vA10) rfl (by kernel_rfl) (by kernel_rfl) (by kernel_rfl) (fun _ _ _ h => h) (Or.inl ⟨by rfl, ?hA10⟩) hS ?rA10
          case hA10 =>
            intro w1 hSw
            have z0 : w1.cell? ⟨wo.heap.size, 0, none⟩ = some (.int .i64 c.ad) := by simp [World.cell?, hSw]
            have z1 : w1.cell? ⟨wo.heap.size, 1, none⟩ = some (.int .i64 c.p.x) := by simp [World.cell?, hSw]
            have z2 : w1.cell? ⟨wo.heap.size, 2, none⟩ = some (.int .i64 c.p.y) := by simp [World.cell?, hSw]
            have z3 : w1.cell? ⟨wo.heap.size, 3, none⟩ = some (.int .i64 c.p.z) := by simp [World.cell?, hSw]
            have z4 : w1.cell? ⟨wo.heap.size, 4, none⟩ = some (.int .i64 c.v.x) := by simp [World.cell?, hSw]
            have z5 : w1.cell? ⟨wo.heap.size, 5, none⟩ = some (.int .i64 c.v.y) := by simp [World.cell?, hSw]
            have z6 : w1.cell? ⟨wo.heap.size, 6, none⟩ = some (.int .i64 c.v.z) := by simp [World.cell?, hSw]
            have z7 : w1.cell? ⟨wo.heap.size, 7, none⟩ = some (.int .i64 c.pu) := by simp [World.cell?, hSw]
            have z8 : w1.cell? ⟨wo.heap.size, 8, none⟩ = some (.slice LA c.lg.length lcap) := by simp [World.cell?, hSw]
            have z9 : w1.cell? ⟨wo.heap.size, 9, none⟩ = some (.int .u8 c.mo) := by simp [World.cell?, hSw]
            have z10 : w1.cell? ⟨wo.heap.size, 10, none⟩ = some (.int .i64 c.de) := by simp [World.cell?, hSw]
            have z11 : w1.cell? ⟨wo.heap.size, 11, none⟩ = some (.int .i64 c.pp) := by simp [World.cell?, hSw]
            have z12 : w1.cell? ⟨wo.heap.size, 12, none⟩ = some (.int .i64 c.mi) := by simp [World.cell?, hSw]
            clear hSw
            go_simp
            try with_reducible rfl
          (try simp only [Act.put])
          refine wpAnyH_take (i := 14) (v := ?vA11) rfl (by kernel_rfl) (by kernel_rfl) (by kernel_rfl) (fun _ _ _ h => h) (Or.inl ⟨by rfl, ?hA11⟩) hS ?rA11
          case hA11 =>
            intro w1 hSw
            have z0 : w1.cell? ⟨wo.heap.size, 0, none⟩ = some (.int .i64 c.ad) := by simp [World.cell?, hSw]
            have z1 : w1.cell? ⟨wo.heap.size, 1, none⟩ = some (.int .i64 c.p.x) := by simp [World.cell?, hSw]
            have z2 : w1.cell? ⟨wo.heap.size, 2, none⟩ = some (.int .i64 c.p.y) := by simp [World.cell?, hSw]
            have z3 : w1.cell? ⟨wo.heap.size, 3, none⟩ = some (.int .i64 c.p.z) := by simp [World.cell?, hSw]
            have z4 : w1.cell? ⟨wo.heap.size, 4, none⟩ = some (.int .i64 c.v.x) := by simp [World.cell?, hSw]
            have z5 : w1.cell? ⟨wo.heap.size, 5, none⟩ = some (.int .i64 c.v.y) := by simp [World.cell?, hSw]
            have z6 : w1.cell? ⟨wo.heap.size, 6, none⟩ = some (.int .i64 c.v.z) := by simp [World.cell?, hSw]
            have z7 : w1.cell? ⟨wo.heap.size, 7, none⟩ = some (.int .i64 c.pu) := by simp [World.cell?, hSw]
            have z8 : w1.cell? ⟨wo.heap.size, 8, none⟩ = some (.slice LA c.lg.length lcap) := by simp [World.cell?, hSw]
            have z9 : w1.cell? ⟨wo.heap.size, 9, none⟩ = some (.int .u8 c.mo) := by simp [World.cell?, hSw]
            have z10 : w1.cell? ⟨wo.heap.size, 10, none⟩ = some (.int .i64 c.de) := by simp [World.cell?, hSw]
            have z11 : w1.cell? ⟨wo.heap.size, 11, none⟩ = some (.int .i64 c.pp) := by simp [World.cell?, hSw]
            have z12 : w1.cell? ⟨wo.heap.size, 12, none⟩ = some (.int .i64 c.mi) := by simp [World.cell?, hSw]
            clear hSw
            go_simp
            try with_reducible rfl
          (try simp only [Act.put])
          refine wpAnyH_take (i := 15) (v := ?vA12) rfl (by kernel_rfl) (by kernel_rfl) (by kernel_rfl) (fun _ _ _ h => h) (Or.inl ⟨by rfl, ?hA12⟩) hS ?rA12
          case hA12 =>
            intro w1 hSw
            have z0 : w1.cell? ⟨wo.heap.size, 0, none⟩ = some (.int .i64 c.ad) := by simp [World.cell?, hSw]
            have z1 : w1.cell? ⟨wo.heap.size, 1, none⟩ = some (.int .i64 c.p.x) := by simp [World.cell?, hSw]
            have z2 : w1.cell? ⟨wo.heap.size, 2, none⟩ = some (.int .i64 c.p.y) := by simp [World.cell?, hSw]
            have z3 : w1.cell? ⟨wo.heap.size, 3, none⟩ = some (.int .i64 c.p.z) := by simp [World.cell?, hSw]
            have z4 : w1.cell? ⟨wo.heap.size, 4, none⟩ = some (.int .i64 c.v.x) := by simp [World.cell?, hSw]
            have z5 : w1.cell? ⟨wo.heap.size, 5, none⟩ = some (.int .i64 c.v.y) := by simp [World.cell?, hSw]
            have z6 : w1.cell? ⟨wo.heap.size, 6, none⟩ = some (.int .i64 c.v.z) := by simp [World.cell?, hSw]
            have z7 : w1.cell? ⟨wo.heap.size, 7, none⟩ = some (.int .i64 c.pu) := by simp [World.cell?, hSw]
            have z8 : w1.cell? ⟨wo.heap.size, 8, none⟩ = some (.slice LA c.lg.length lcap) := by simp [World.cell?, hSw]
            have z9 : w1.cell? ⟨wo.heap.size, 9, none⟩ = some (.int .u8 c.mo) := by simp [World.cell?, hSw]
            have z10 : w1.cell? ⟨wo.heap.size, 10, none⟩ = some (.int .i64 c.de) := by simp [World.cell?, hSw]
            have z11 : w1.cell? ⟨wo.heap.size, 11, none⟩ = some (.int .i64 c.pp) := by simp [World.cell?, hSw]
            have z12 : w1.cell? ⟨wo.heap.size, 12, none⟩ = some (.int .i64 c.mi) := by simp [World.cell?, hSw]
            clear hSw
            go_simp
            try with_reducible rfl
          (try simp only [Act.put])
          refine wpAnyH_take (i := 16) (v := ?vA13) rfl (by kernel_rfl) (by kernel_rfl) (by kernel_rfl) (fun _ _ _ h => h) (Or.inl ⟨by rfl, ?hA13⟩) hS ?rA13
          case hA13 =>
            intro w1 hSw
            have z0 : w1.cell? ⟨wo.heap.size, 0, none⟩ = some (.int .i64 c.ad) := by simp [World.cell?, hSw]
            have z1 : w1.cell? ⟨wo.heap.size, 1, none⟩ = some (.int .i64 c.p.x) := by simp [World.cell?, hSw]
            have z2 : w1.cell? ⟨wo.heap.size, 2, none⟩ = some (.int .i64 c.p.y) := by simp [World.cell?, hSw]
            have z3 : w1.cell? ⟨wo.heap.size, 3, none⟩ = some (.int .i64 c.p.z) := by simp [World.cell?, hSw]
            have z4 : w1.cell? ⟨wo.heap.size, 4, none⟩ = some (.int .i64 c.v.x) := by simp [World.cell?, hSw]
            have z5 : w1.cell? ⟨wo.heap.size, 5, none⟩ = some (.int .i64 c.v.y) := by simp [World.cell?, hSw]
            have z6 : w1.cell? ⟨wo.heap.size, 6, none⟩ = some (.int .i64 c.v.z) := by simp [World.cell?, hSw]
            have z7 : w1.cell? ⟨wo.heap.size, 7, none⟩ = some (.int .i64 c.pu) := by simp [World.cell?, hSw]
            have z8 : w1.cell? ⟨wo.heap.size, 8, none⟩ = some (.slice LA c.lg.length lcap) := by simp [World.cell?, hSw]
            have z9 : w1.cell? ⟨wo.heap.size, 9, none⟩ = some (.int .u8 c.mo) := by simp [World.cell?, hSw]
            have z10 : w1.cell? ⟨wo.heap.size, 10, none⟩ = some (.int .i64 c.de) := by simp [World.cell?, hSw]
            have z11 : w1.cell? ⟨wo.heap.size, 11, none⟩ = some (.int .i64 c.pp) := by simp [World.cell?, hSw]
            have z12 : w1.cell? ⟨wo.heap.size, 12, none⟩ = some (.int .i64 c.mi) := by simp [World.cell?, hSw]
            clear hSw
            go_simp
            try with_reducible rfl
          (try simp only [Act.put])
          refine wpAnyH_take (i := 17) (v := ?vA14) rfl (by kernel_rfl) (by kernel_rfl) (by kernel_rfl) (fun _ _ _ h => h) (Or.inl ⟨by rfl, ?hA14⟩) hS ?rA14
          case hA14 =>
            intro w1 hSw
            have z0 : w1.cell? ⟨wo.heap.size, 0, none⟩ = some (.int .i64 c.ad) := by simp [World.cell?, hSw]
            have z1 : w1.cell? ⟨wo.heap.size, 1, none⟩ = some (.int .i64 c.p.x) := by simp [World.cell?, hSw]
            have z2 : w1.cell? ⟨wo.heap.size, 2, none⟩ = some (.int .i64 c.p.y) := by simp [World.cell?, hSw]
            have z3 : w1.cell? ⟨wo.heap.size, 3, none⟩ = some (.int .i64 c.p.z) := by simp [World.cell?, hSw]
            have z4 : w1.cell? ⟨wo.heap.size, 4, none⟩ = some (.int .i64 c.v.x) := by simp [World.cell?, hSw]
            have z5 : w1.cell? ⟨wo.heap.size, 5, none⟩ = some (.int .i64 c.v.y) := by simp [World.cell?, hSw]
            have z6 : w1.cell? ⟨wo.heap.size, 6, none⟩ = some (.int .i64 c.v.z) := by simp [World.cell?, hSw]
            have z7 : w1.cell? ⟨wo.heap.size, 7, none⟩ = some (.int .i64 c.pu) := by simp [World.cell?, hSw]
            have z8 : w1.cell? ⟨wo.heap.size, 8, none⟩ = some (.slice LA c.lg.length lcap) := by simp [World.cell?, hSw]
            have z9 : w1.cell? ⟨wo.heap.size, 9, none⟩ = some (.int .u8 c.mo) := by simp [World.cell?, hSw]
            have z10 : w1.cell? ⟨wo.heap.size, 10, none⟩ = some (.int .i64 c.de) := by simp [World.cell?, hSw]
            have z11 : w1.cell? ⟨wo.heap.size, 11, none⟩ = some (.int .i64 c.pp) := by simp [World.cell?, hSw]
            have z12 : w1.cell? ⟨wo.heap.size, 12, none⟩ = some (.int .i64 c.mi) := by simp [World.cell?, hSw]
            clear hSw
            go_simp
            try with_reducible rfl
          (try simp only [Act.put])
          refine wpAnyH_take (i := 18) (v := ?vA15) rfl (by kernel_rfl) (by kernel_rfl) (by kernel_rfl) (fun _ _ _ h => h) (Or.inl ⟨by rfl, ?hA15⟩) hS ?rA15
          case hA15 =>
            intro w1 hSw
            have z0 : w1.cell? ⟨wo.heap.size, 0, none⟩ = some (.int .i64 c.ad) := by simp [World.cell?, hSw]
            have z1 : w1.cell? ⟨wo.heap.size, 1, none⟩ = some (.int .i64 c.p.x) := by simp [World.cell?, hSw]
            have z2 : w1.cell? ⟨wo.heap.size, 2, none⟩ = some (.int .i64 c.p.y) := by simp [World.cell?, hSw]
            have z3 : w1.cell? ⟨wo.heap.size, 3, none⟩ = some (.int .i64 c.p.z) := by simp [World.cell?, hSw]
            have z4 : w1.cell? ⟨wo.heap.size, 4, none⟩ = some (.int .i64 c.v.x) := by simp [World.cell?, hSw]
            have z5 : w1.cell? ⟨wo.heap.size, 5, none⟩ = some (.int .i64 c.v.y) := by simp [World.cell?, hSw]
            have z6 : w1.cell? ⟨wo.heap.size, 6, none⟩ = some (.int .i64 c.v.z) := by simp [World.cell?, hSw]
            have z7 : w1.cell? ⟨wo.heap.size, 7, none⟩ = some (.int .i64 c.pu) := by simp [World.cell?, hSw]
            have z8 : w1.cell? ⟨wo.heap.size, 8, none⟩ = some (.slice LA c.lg.length lcap) := by simp [World.cell?, hSw]
            have z9 : w1.cell? ⟨wo.heap.size, 9, none⟩ = some (.int .u8 c.mo) := by simp [World.cell?, hSw]
            have z10 : w1.cell? ⟨wo.heap.size, 10, none⟩ = some (.int .i64 c.de) := by simp [World.cell?, hSw]
            have z11 : w1.cell? ⟨wo.heap.size, 11, none⟩ = some (.int .i64 c.pp) := by simp [World.cell?, hSw]
            have z12 : w1.cell? ⟨wo.heap.size, 12, none⟩ = some (.int .i64 c.mi) := by simp [World.cell?, hSw]
            clear hSw
            go_simp
            try with_reducible rfl
          (try simp only [Act.put])
          refine wpAnyH_take (i := 19) (v := ?vA16) rfl (by kernel_rfl) (by kernel_rfl) (by kernel_rfl) (fun _ _ _ h => h) (Or.inl ⟨by rfl, ?hA16⟩) hS ?rA16
          case hA16 =>
            intro w1 hSw
            have z0 : w1.cell? ⟨wo.heap.size, 0, none⟩ = some (.int .i64 c.ad) := by simp [World.cell?, hSw]
            have z1 : w1.cell? ⟨wo.heap.size, 1, none⟩ = some (.int .i64 c.p.x) := by simp [World.cell?, hSw]
            have z2 : w1.cell? ⟨wo.heap.size, 2, none⟩ = some (.int .i64 c.p.y) := by simp [World.cell?, hSw]
            have z3 : w1.cell? ⟨wo.heap.size, 3, none⟩ = some (.int .i64 c.p.z) := by simp [World.cell?, hSw]
            have z4 : w1.cell? ⟨wo.heap.size, 4, none⟩ = some (.int .i64 c.v.x) := by simp [World.cell?, hSw]
            have z5 : w1.cell? ⟨wo.heap.size, 5, none⟩ = some (.int .i64 c.v.y) := by simp [World.cell?, hSw]
            have z6 : w1.cell? ⟨wo.heap.size, 6, none⟩ = some (.int .i64 c.v.z) := by simp [World.cell?, hSw]
            have z7 : w1.cell? ⟨wo.heap.size, 7, none⟩ = some (.int .i64 c.pu) := by simp [World.cell?, hSw]
            have z8 : w1.cell? ⟨wo.heap.size, 8, none⟩ = some (.slice LA c.lg.length lcap) := by simp [World.cell?, hSw]
            have z9 : w1.cell? ⟨wo.heap.size, 9, none⟩ = some (.int .u8 c.mo) := by simp [World.cell?, hSw]
            have z10 : w1.cell? ⟨wo.heap.size, 10, none⟩ = some (.int .i64 c.de) := by simp [World.cell?, hSw]
            have z11 : w1.cell? ⟨wo.heap.size, 11, none⟩ = some (.int .i64 c.pp) := by simp [World.cell?, hSw]
            have z12 : w1.cell? ⟨wo.heap.size, 12, none⟩ = some (.int .i64 c.mi) := by simp [World.cell?, hSw]
            clear hSw
            go_simp
            try with_reducible rfl
          (try simp only [Act.put])
          refine wpAnyH_take (i := 20) (v := ?vA17) rfl (by kernel_rfl) (by kernel_rfl) (by kernel_rfl) (fun _ _ _ h => h) (Or.inl ⟨by rfl, ?hA17⟩) hS ?rA17
          case hA17 =>
            intro w1 hSw
            have z0 : w1.cell? ⟨wo.heap.size, 0, none⟩ = some (.int .i64 c.ad) := by simp [World.cell?, hSw]
            have z1 : w1.cell? ⟨wo.heap.size, 1, none⟩ = some (.int .i64 c.p.x) := by simp [World.cell?, hSw]
            have z2 : w1.cell? ⟨wo.heap.size, 2, none⟩ = some (.int .i64 c.p.y) := by simp [World.cell?, hSw]
            have z3 : w1.cell? ⟨wo.heap.size, 3, none⟩ = some (.int .i64 c.p.z) := by simp [World.cell?, hSw]
            have z4 : w1.cell? ⟨wo.heap.size, 4, none⟩ = some (.int .i64 c.v.x) := by simp [World.cell?, hSw]
            have z5 : w1.cell? ⟨wo.heap.size, 5, none⟩ = some (.int .i64 c.v.y) := by simp [World.cell?, hSw]
            have z6 : w1.cell? ⟨wo.heap.size, 6, none⟩ = some (.int .i64 c.v.z) := by simp [World.cell?, hSw]
            have z7 : w1.cell? ⟨wo.heap.size, 7, none⟩ = some (.int .i64 c.pu) := by simp [World.cell?, hSw]
            have z8 : w1.cell? ⟨wo.heap.size, 8, none⟩ = some (.slice LA c.lg.length lcap) := by simp [World.cell?, hSw]
            have z9 : w1.cell? ⟨wo.heap.size, 9, none⟩ = some (.int .u8 c.mo) := by simp [World.cell?, hSw]
            have z10 : w1.cell? ⟨wo.heap.size, 10, none⟩ = some (.int .i64 c.de) := by simp [World.cell?, hSw]
            have z11 : w1.cell? ⟨wo.heap.size, 11, none⟩ = some (.int .i64 c.pp) := by simp [World.cell?, hSw]
            have z12 : w1.cell? ⟨wo.heap.size, 12, none⟩ = some (.int .i64 c.mi) := by simp [World.cell?, hSw]
            clear hSw
            go_simp
            try with_reducible rfl
          (try simp only [Act.put])
          refine wpAnyH_take (i := 21) (v := ?vA18) rfl (by kernel_rfl) (by kernel_rfl) (by kernel_rfl) (fun _ _ _ h => h) (Or.inl ⟨by rfl, ?hA18⟩) hS ?rA18
          case hA18 =>
            intro w1 hSw
            have z0 : w1.cell? ⟨wo.heap.size, 0, none⟩ = some (.int .i64 c.ad) := by simp [World.cell?, hSw]
            have z1 : w1.cell? ⟨wo.heap.size, 1, none⟩ = some (.int .i64 c.p.x) := by simp [World.cell?, hSw]
            have z2 : w1.cell? ⟨wo.heap.size, 2, none⟩ = some (.int .i64 c.p.y) := by simp [World.cell?, hSw]
            have z3 : w1.cell? ⟨wo.heap.size, 3, none⟩ = some (.int .i64 c.p.z) := by simp [World.cell?, hSw]
            have z4 : w1.cell? ⟨wo.heap.size, 4, none⟩ = some (.int .i64 c.v.x) := by simp [World.cell?, hSw]
            have z5 : w1.cell? ⟨wo.heap.size, 5, none⟩ = some (.int .i64 c.v.y) := by simp [World.cell?, hSw]
            have z6 : w1.cell? ⟨wo.heap.size, 6, none⟩ = some (.int .i64 c.v.z) := by simp [World.cell?, hSw]
            have z7 : w1.cell? ⟨wo.heap.size, 7, none⟩ = some (.int .i64 c.pu) := by simp [World.cell?, hSw]
            have z8 : w1.cell? ⟨wo.heap.size, 8, none⟩ = some (.slice LA c.lg.length lcap) := by simp [World.cell?, hSw]
            have z9 : w1.cell? ⟨wo.heap.size, 9, none⟩ = some (.int .u8 c.mo) := by simp [World.cell?, hSw]
            have z10 : w1.cell? ⟨wo.heap.size, 10, none⟩ = some (.int .i64 c.de) := by simp [World.cell?, hSw]
            have z11 : w1.cell? ⟨wo.heap.size, 11, none⟩ = some (.int .i64 c.pp) := by simp [World.cell?, hSw]
            have z12 : w1.cell? ⟨wo.heap.size, 12, none⟩ = some (.int .i64 c.mi) := by simp [World.cell?, hSw]
            clear hSw
            go_simp
            try with_reducible rfl
          (try simp only [Act.put])
          refine wpAnyH_take (i := 22) (v := ?vA19) rfl (by kernel_rfl) (by kernel_rfl) (by kernel_rfl) (fun _ _ _ h => h) (Or.inl ⟨by rfl, ?hA19⟩) hS ?rA19
          case hA19 =>
            intro w1 hSw
            have z0 : w1.cell? ⟨wo.heap.size, 0, none⟩ = some (.int .i64 c.ad) := by simp [World.cell?, hSw]
            have z1 : w1.cell? ⟨wo.heap.size, 1, none⟩ = some (.int .i64 c.p.x) := by simp [World.cell?, hSw]
            have z2 : w1.cell? ⟨wo.heap.size, 2, none⟩ = some (.int .i64 c.p.y) := by simp [World.cell?, hSw]
            have z3 : w1.cell? ⟨wo.heap.size, 3, none⟩ = some (.int .i64 c.p.z) := by simp [World.cell?, hSw]
            have z4 : w1.cell? ⟨wo.heap.size, 4, none⟩ = some (.int .i64 c.v.x) := by simp [World.cell?, hSw]
            have z5 : w1.cell? ⟨wo.heap.size, 5, none⟩ = some (.int .i64 c.v.y) := by simp [World.cell?, hSw]
            have z6 : w1.cell? ⟨wo.heap.size, 6, none⟩ = some (.int .i64 c.v.z) := by simp [World.cell?, hSw]
            have z7 : w1.cell? ⟨wo.heap.size, 7, none⟩ = some (.int .i64 c.pu) := by simp [World.cell?, hSw]
            have z8 : w1.cell? ⟨wo.heap.size, 8, none⟩ = some (.slice LA c.lg.length lcap) := by simp [World.cell?, hSw]
            have z9 : w1.cell? ⟨wo.heap.size, 9, none⟩ = some (.int .u8 c.mo) := by simp [World.cell?, hSw]
            have z10 : w1.cell? ⟨wo.heap.size, 10, none⟩ = some (.int .i64 c.de) := by simp [World.cell?, hSw]
            have z11 : w1.cell? ⟨wo.heap.size, 11, none⟩ = some (.int .i64 c.pp) := by simp [World.cell?, hSw]
            have z12 : w1.cell? ⟨wo.heap.size, 12, none⟩ = some (.int .i64 c.mi) := by simp [World.cell?, hSw]
            clear hSw
            go_simp
            try with_reducible rfl
          (try simp only [Act.put])
          refine wpAnyH_take (i := 23) (v := ?vA20) rfl (by kernel_rfl) (by kernel_rfl) (by kernel_rfl) (fun _ _ _ h => h) (Or.inl ⟨by rfl, ?hA20⟩) hS ?rA20
          case hA20 =>
            intro w1 hSw
            have z0 : w1.cell? ⟨wo.heap.size, 0, none⟩ = some (.int .i64 c.ad) := by simp [World.cell?, hSw]
            have z1 : w1.cell? ⟨wo.heap.size, 1, none⟩ = some (.int .i64 c.p.x) := by simp [World.cell?, hSw]
            have z2 : w1.cell? ⟨wo.heap.size, 2, none⟩ = some (.int .i64 c.p.y) := by simp [World.cell?, hSw]
            have z3 : w1.cell? ⟨wo.heap.size, 3, none⟩ = some (.int .i64 c.p.z) := by simp [World.cell?, hSw]
            have z4 : w1.cell? ⟨wo.heap.size, 4, none⟩ = some (.int .i64 c.v.x) := by simp [World.cell?, hSw]
            have z5 : w1.cell? ⟨wo.heap.size, 5, none⟩ = some (.int .i64 c.v.y) := by simp [World.cell?, hSw]
            have z6 : w1.cell? ⟨wo.heap.size, 6, none⟩ = some (.int .i64 c.v.z) := by simp [World.cell?, hSw]
            have z7 : w1.cell? ⟨wo.heap.size, 7, none⟩ = some (.int .i64 c.pu) := by simp [World.cell?, hSw]
            have z8 : w1.cell? ⟨wo.heap.size, 8, none⟩ = some (.slice LA c.lg.length lcap) := by simp [World.cell?, hSw]
            have z9 : w1.cell? ⟨wo.heap.size, 9, none⟩ = some (.int .u8 c.mo) := by simp [World.cell?, hSw]
            have z10 : w1.cell? ⟨wo.heap.size, 10, none⟩ = some (.int .i64 c.de) := by simp [World.cell?, hSw]
            have z11 : w1.cell? ⟨wo.heap.size, 11, none⟩ = some (.int .i64 c.pp) := by simp [World.cell?, hSw]
            have z12 : w1.cell? ⟨wo.heap.size, 12, none⟩ = some (.int .i64 c.mi) := by simp [World.cell?, hSw]
            clear hSw
            go_simp
            try with_reducible rfl
          (try simp only [Act.put])
          refine wpAnyH_take (i := 24) (v := ?vA21) rfl (by kernel_rfl) (by kernel_rfl) (by kernel_rfl) (fun _ _ _ h => h) (Or.inl ⟨by rfl, ?hA21⟩) hS ?rA21
          case hA21 =>
            intro w1 hSw
            have z0 : w1.cell? ⟨wo.heap.size, 0, none⟩ = some (.int .i64 c.ad) := by simp [World.cell?, hSw]
            have z1 : w1.cell? ⟨wo.heap.size, 1, none⟩ = some (.int .i64 c.p.x) := by simp [World.cell?, hSw]
            have z2 : w1.cell? ⟨wo.heap.size, 2, none⟩ = some (.int .i64 c.p.y) := by simp [World.cell?, hSw]
            have z3 : w1.cell? ⟨wo.heap.size, 3, none⟩ = some (.int .i64 c.p.z) := by simp [World.cell?, hSw]
            have z4 : w1.cell? ⟨wo.heap.size, 4, none⟩ = some (.int .i64 c.v.x) := by simp [World.cell?, hSw]
            have z5 : w1.cell? ⟨wo.heap.size, 5, none⟩ = some (.int .i64 c.v.y) := by simp [World.cell?, hSw]
            have z6 : w1.cell? ⟨wo.heap.size, 6, none⟩ = some (.int .i64 c.v.z) := by simp [World.cell?, hSw]
            have z7 : w1.cell? ⟨wo.heap.size, 7, none⟩ = some (.int .i64 c.pu) := by simp [World.cell?, hSw]
            have z8 : w1.cell? ⟨wo.heap.size, 8, none⟩ = some (.slice LA c.lg.length lcap) := by simp [World.cell?, hSw]
            have z9 : w1.cell? ⟨wo.heap.size, 9, none⟩ = some (.int .u8 c.mo) := by simp [World.cell?, hSw]
            have z10 : w1.cell? ⟨wo.heap.size, 10, none⟩ = some (.int .i64 c.de) := by simp [World.cell?, hSw]
            have z11 : w1.cell? ⟨wo.heap.size, 11, none⟩ = some (.int .i64 c.pp) := by simp [World.cell?, hSw]
            have z12 : w1.cell? ⟨wo.heap.size, 12, none⟩ = some (.int .i64 c.mi) := by simp [World.cell?, hSw]
            clear hSw
            go_simp
            try with_reducible rfl
          (try simp only [Act.put])
          refine wpAnyH_take (i := 25) (v := ?vA22) rfl (by kernel_rfl) (by kernel_rfl) (by kernel_rfl) (fun _ _ _ h => h) (Or.inl ⟨by rfl, ?hA22⟩) hS ?rA22
          case hA22 =>
            intro w1 hSw
            have z0 : w1.cell? ⟨wo.heap.size, 0, none⟩ = some (.int .i64 c.ad) := by simp [World.cell?, hSw]
            have z1 : w1.cell? ⟨wo.heap.size, 1, none⟩ = some (.int .i64 c.p.x) := by simp [World.cell?, hSw]
            have z2 : w1.cell? ⟨wo.heap.size, 2, none⟩ = some (.int .i64 c.p.y) := by simp [World.cell?, hSw]
            have z3 : w1.cell? ⟨wo.heap.size, 3, none⟩ = some (.int .i64 c.p.z) := by simp [World.cell?, hSw]
            have z4 : w1.cell? ⟨wo.heap.size, 4, none⟩ = some (.int .i64 c.v.x) := by simp [World.cell?, hSw]
            have z5 : w1.cell? ⟨wo.heap.size, 5, none⟩ = some (.int .i64 c.v.y) := by simp [World.cell?, hSw]
            have z6 : w1.cell? ⟨wo.heap.size, 6, none⟩ = some (.int .i64 c.v.z) := by simp [World.cell?, hSw]
            have z7 : w1.cell? ⟨wo.heap.size, 7, none⟩ = some (.int .i64 c.pu) := by simp [World.cell?, hSw]
            have z8 : w1.cell? ⟨wo.heap.size, 8, none⟩ = some (.slice LA c.lg.length lcap) := by simp [World.cell?, hSw]
            have z9 : w1.cell? ⟨wo.heap.size, 9, none⟩ = some (.int .u8 c.mo) := by simp [World.cell?, hSw]
            have z10 : w1.cell? ⟨wo.heap.size, 10, none⟩ = some (.int .i64 c.de) := by simp [World.cell?, hSw]
            have z11 : w1.cell? ⟨wo.heap.size, 11, none⟩ = some (.int .i64 c.pp) := by simp [World.cell?, hSw]
            have z12 : w1.cell? ⟨wo.heap.size, 12, none⟩ = some (.int .i64 c.mi) := by simp [World.cell?, hSw]
            clear hSw
            go_simp
            try with_reducible rfl
          (try simp only [Act.put])
          refine wpAnyH_take (i := 26) (v := ?vA23) rfl (by kernel_rfl) (by kernel_rfl) (by kernel_rfl) (fun _ _ _ h => h) (Or.inl ⟨by rfl, ?hA23⟩) hS ?rA23
          case hA23 =>
            intro w1 hSw
            have z0 : w1.cell? ⟨wo.heap.size, 0, none⟩ = some (.int .i64 c.ad) := by simp [World.cell?, hSw]
            have z1 : w1.cell? ⟨wo.heap.size, 1, none⟩ = some (.int .i64 c.p.x) := by simp [World.cell?, hSw]
            have z2 : w1.cell? ⟨wo.heap.size, 2, none⟩ = some (.int .i64 c.p.y) := by simp [World.cell?, hSw]
            have z3 : w1.cell? ⟨wo.heap.size, 3, none⟩ = some (.int .i64 c.p.z) := by simp [World.cell?, hSw]
            have z4 : w1.cell? ⟨wo.heap.size, 4, none⟩ = some (.int .i64 c.v.x) := by simp [World.cell?, hSw]
            have z5 : w1.cell? ⟨wo.heap.size, 5, none⟩ = some (.int .i64 c.v.y) := by simp [World.cell?, hSw]
            have z6 : w1.cell? ⟨wo.heap.size, 6, none⟩ = some (.int .i64 c.v.z) := by simp [World.cell?, hSw]
            have z7 : w1.cell? ⟨wo.heap.size, 7, none⟩ = some (.int .i64 c.pu) := by simp [World.cell?, hSw]
            have z8 : w1.cell? ⟨wo.heap.size, 8, none⟩ = some (.slice LA c.lg.length lcap) := by simp [World.cell?, hSw]
            have z9 : w1.cell? ⟨wo.heap.size, 9, none⟩ = some (.int .u8 c.mo) := by simp [World.cell?, hSw]
            have z10 : w1.cell? ⟨wo.heap.size, 10, none⟩ = some (.int .i64 c.de) := by simp [World.cell?, hSw]
            have z11 : w1.cell? ⟨wo.heap.size, 11, none⟩ = some (.int .i64 c.pp) := by simp [World.cell?, hSw]
            have z12 : w1.cell? ⟨wo.heap.size, 12, none⟩ = some (.int .i64 c.mi) := by simp [World.cell?, hSw]
            clear hSw
            go_simp
            try with_reducible rfl
          (try simp only [Act.put])
          refine wpAnyH_take (i := 27) (v := ?vA24) rfl (by kernel_rfl) (by kernel_rfl) (by kernel_rfl) (fun _ _ _ h => h) (Or.inl ⟨by rfl, ?hA24⟩) hS ?rA24
          case hA24 =>
            intro w1 hSw
            have z0 : w1.cell? ⟨wo.heap.size, 0, none⟩ = some (.int .i64 c.ad) := by simp [World.cell?, hSw]
            have z1 : w1.cell? ⟨wo.heap.size, 1, none⟩ = some (.int .i64 c.p.x) := by simp [World.cell?, hSw]
            have z2 : w1.cell? ⟨wo.heap.size, 2, none⟩ = some (.int .i64 c.p.y) := by simp [World.cell?, hSw]
            have z3 : w1.cell? ⟨wo.heap.size, 3, none⟩ = some (.int .i64 c.p.z) := by simp [World.cell?, hSw]
            have z4 : w1.cell? ⟨wo.heap.size, 4, none⟩ = some (.int .i64 c.v.x) := by simp [World.cell?, hSw]
            have z5 : w1.cell? ⟨wo.heap.size, 5, none⟩ = some (.int .i64 c.v.y) := by simp [World.cell?, hSw]
            have z6 : w1.cell? ⟨wo.heap.size, 6, none⟩ = some (.int .i64 c.v.z) := by simp [World.cell?, hSw]
            have z7 : w1.cell? ⟨wo.heap.size, 7, none⟩ = some (.int .i64 c.pu) := by simp [World.cell?, hSw]
            have z8 : w1.cell? ⟨wo.heap.size, 8, none⟩ = some (.slice LA c.lg.length lcap) := by simp [World.cell?, hSw]
            have z9 : w1.cell? ⟨wo.heap.size, 9, none⟩ = some (.int .u8 c.mo) := by simp [World.cell?, hSw]
            have z10 : w1.cell? ⟨wo.heap.size, 10, none⟩ = some (.int .i64 c.de) := by simp [World.cell?, hSw]
            have z11 : w1.cell? ⟨wo.heap.size, 11, none⟩ = some (.int .i64 c.pp) := by simp [World.cell?, hSw]
            have z12 : w1.cell? ⟨wo.heap.size, 12, none⟩ = some (.int .i64 c.mi) := by simp [World.cell?, hSw]
            clear hSw
            go_simp
            try with_reducible rfl
          (try simp only [Act.put])
          refine wpAnyH_take (i := 28) (v := ?vA25) rfl (by kernel_rfl) (by kernel_rfl) (by kernel_rfl) (fun _ _ _ h => h) (Or.inl ⟨by rfl, ?hA25⟩) hS ?rA25
          case hA25 =>
            intro w1 hSw
            have z0 : w1.cell? ⟨wo.heap.size, 0, none⟩ = some (.int .i64 c.ad) := by simp [World.cell?, hSw]
            have z1 : w1.cell? ⟨wo.heap.size, 1, none⟩ = some (.int .i64 c.p.x) := by simp [World.cell?, hSw]
            have z2 : w1.cell? ⟨wo.heap.size, 2, none⟩ = some (.int .i64 c.p.y) := by simp [World.cell?, hSw]
            have z3 : w1.cell? ⟨wo.heap.size, 3, none⟩ = some (.int .i64 c.p.z) := by simp [World.cell?, hSw]
            have z4 : w1.cell? ⟨wo.heap.size, 4, none⟩ = some (.int .i64 c.v.x) := by simp [World.cell?, hSw]
            have z5 : w1.cell? ⟨wo.heap.size, 5, none⟩ = some (.int .i64 c.v.y) := by simp [World.cell?, hSw]
            have z6 : w1.cell? ⟨wo.heap.size, 6, none⟩ = some (.int .i64 c.v.z) := by simp [World.cell?, hSw]
            have z7 : w1.cell? ⟨wo.heap.size, 7, none⟩ = some (.int .i64 c.pu) := by simp [World.cell?, hSw]
            have z8 : w1.cell? ⟨wo.heap.size, 8, none⟩ = some (.slice LA c.lg.length lcap) := by simp [World.cell?, hSw]
            have z9 : w1.cell? ⟨wo.heap.size, 9, none⟩ = some (.int .u8 c.mo) := by simp [World.cell?, hSw]
            have z10 : w1.cell? ⟨wo.heap.size, 10, none⟩ = some (.int .i64 c.de) := by simp [World.cell?, hSw]
            have z11 : w1.cell? ⟨wo.heap.size, 11, none⟩ = some (.int .i64 c.pp) := by simp [World.cell?, hSw]
            have z12 : w1.cell? ⟨wo.heap.size, 12, none⟩ = some (.int .i64 c.mi) := by simp [World.cell?, hSw]
            clear hSw
            go_simp
            try with_reducible rfl
          (try simp only [Act.put])
          refine wpAnyH_take (i := 29) (v := ?vA26) rfl (by kernel_rfl) (by kernel_rfl) (by kernel_rfl) (fun _ _ _ h => h) (Or.inl ⟨by rfl, ?hA26⟩) hS ?rA26
          case hA26 =>
            intro w1 hSw
            have z0 : w1.cell? ⟨wo.heap.size, 0, none⟩ = some (.int .i64 c.ad) := by simp [World.cell?, hSw]
            have z1 : w1.cell? ⟨wo.heap.size, 1, none⟩ = some (.int .i64 c.p.x) := by simp [World.cell?, hSw]
            have z2 : w1.cell? ⟨wo.heap.size, 2, none⟩ = some (.int .i64 c.p.y) := by simp [World.cell?, hSw]
            have z3 : w1.cell? ⟨wo.heap.size, 3, none⟩ = some (.int .i64 c.p.z) := by simp [World.cell?, hSw]
            have z4 : w1.cell? ⟨wo.heap.size, 4, none⟩ = some (.int .i64 c.v.x) := by simp [World.cell?, hSw]
            have z5 : w1.cell? ⟨wo.heap.size, 5, none⟩ = some (.int .i64 c.v.y) := by simp [World.cell?, hSw]
            have z6 : w1.cell? ⟨wo.heap.size, 6, none⟩ = some (.int .i64 c.v.z) := by simp [World.cell?, hSw]
            have z7 : w1.cell? ⟨wo.heap.size, 7, none⟩ = some (.int .i64 c.pu) := by simp [World.cell?, hSw]
            have z8 : w1.cell? ⟨wo.heap.size, 8, none⟩ = some (.slice LA c.lg.length lcap) := by simp [World.cell?, hSw]
            have z9 : w1.cell? ⟨wo.heap.size, 9, none⟩ = some (.int .u8 c.mo) := by simp [World.cell?, hSw]
            have z10 : w1.cell? ⟨wo.heap.size, 10, none⟩ = some (.int .i64 c.de) := by simp [World.cell?, hSw]
            have z11 : w1.cell? ⟨wo.heap.size, 11, none⟩ = some (.int .i64 c.pp) := by simp [World.cell?, hSw]
            have z12 : w1.cell? ⟨wo.heap.size, 12, none⟩ = some (.int .i64 c.mi) := by simp [World.cell?, hSw]
            clear hSw
            go_simp
            try with_reducible rfl
          (try simp only [Act.put])
          refine wpAnyH_take (i := 30) (v := ?vA27) rfl (by kernel_rfl) (by kernel_rfl) (by kernel_rfl) (fun _ _ _ h => h) (Or.inl ⟨by rfl, ?hA27⟩) hS ?rA27
          case hA27 =>
            intro w1 hSw
            have z0 : w1.cell? ⟨wo.heap.size, 0, none⟩ = some (.int .i64 c.ad) := by simp [World.cell?, hSw]
            have z1 : w1.cell? ⟨wo.heap.size, 1, none⟩ = some (.int .i64 c.p.x) := by simp [World.cell?, hSw]
            have z2 : w1.cell? ⟨wo.heap.size, 2, none⟩ = some (.int .i64 c.p.y) := by simp [World.cell?, hSw]
            have z3 : w1.cell? ⟨wo.heap.size, 3, none⟩ = some (.int .i64 c.p.z) := by simp [World.cell?, hSw]
            have z4 : w1.cell? ⟨wo.heap.size, 4, none⟩ = some (.int .i64 c.v.x) := by simp [World.cell?, hSw]
            have z5 : w1.cell? ⟨wo.heap.size, 5, none⟩ = some (.int .i64 c.v.y) := by simp [World.cell?, hSw]
            have z6 : w1.cell? ⟨wo.heap.size, 6, none⟩ = some (.int .i64 c.v.z) := by simp [World.cell?, hSw]
            have z7 : w1.cell? ⟨wo.heap.size, 7, none⟩ = some (.int .i64 c.pu) := by simp [World.cell?, hSw]
            have z8 : w1.cell? ⟨wo.heap.size, 8, none⟩ = some (.slice LA c.lg.length lcap) := by simp [World.cell?, hSw]
            have z9 : w1.cell? ⟨wo.heap.size, 9, none⟩ = some (.int .u8 c.mo) := by simp [World.cell?, hSw]
            have z10 : w1.cell? ⟨wo.heap.size, 10, none⟩ = some (.int .i64 c.de) := by simp [World.cell?, hSw]
            have z11 : w1.cell? ⟨wo.heap.size, 11, none⟩ = some (.int .i64 c.pp) := by simp [World.cell?, hSw]
            have z12 : w1.cell? ⟨wo.heap.size, 12, none⟩ = some (.int .i64 c.mi) := by simp [World.cell?, hSw]
            clear hSw
            go_simp
            try with_reducible rfl
          (try simp only [Act.put])
          refine wpAnyH_take (i := 31) (v := ?vA28) rfl (by kernel_rfl) (by kernel_rfl) (by kernel_rfl) (fun _ _ _ h => h) (Or.inl ⟨by rfl, ?hA28⟩) hS ?rA28
          case hA28 =>
            intro w1 hSw
            have z0 : w1.cell? ⟨wo.heap.size, 0, none⟩ = some (.int .i64 c.ad) := by simp [World.cell?, hSw]
            have z1 : w1.cell? ⟨wo.heap.size, 1, none⟩ = some (.int .i64 c.p.x) := by simp [World.cell?, hSw]
            have z2 : w1.cell? ⟨wo.heap.size, 2, none⟩ = some (.int .i64 c.p.y) := by simp [World.cell?, hSw]
            have z3 : w1.cell? ⟨wo.heap.size, 3, none⟩ = some (.int .i64 c.p.z) := by simp [World.cell?, hSw]
            have z4 : w1.cell? ⟨wo.heap.size, 4, none⟩ = some (.int .i64 c.v.x) := by simp [World.cell?, hSw]
            have z5 : w1.cell? ⟨wo.heap.size, 5, none⟩ = some (.int .i64 c.v.y) := by simp [World.cell?, hSw]
            have z6 : w1.cell? ⟨wo.heap.size, 6, none⟩ = some (.int .i64 c.v.z) := by simp [World.cell?, hSw]
            have z7 : w1.cell? ⟨wo.heap.size, 7, none⟩ = some (.int .i64 c.pu) := by simp [World.cell?, hSw]
            have z8 : w1.cell? ⟨wo.heap.size, 8, none⟩ = some (.slice LA c.lg.length lcap) := by simp [World.cell?, hSw]
            have z9 : w1.cell? ⟨wo.heap.size, 9, none⟩ = some (.int .u8 c.mo) := by simp [World.cell?, hSw]
            have z10 : w1.cell? ⟨wo.heap.size, 10, none⟩ = some (.int .i64 c.de) := by simp [World.cell?, hSw]
            have z11 : w1.cell? ⟨wo.heap.size, 11, none⟩ = some (.int .i64 c.pp) := by simp [World.cell?, hSw]
            have z12 : w1.cell? ⟨wo.heap.size, 12, none⟩ = some (.int .i64 c.mi) := by simp [World.cell?, hSw]
            clear hSw
            go_simp
            try with_reducible rfl
          (try simp only [Act.put])
          refine wpAnyH_take (i := 32) (v := ?vA29) rfl (by kernel_rfl) (by kernel_rfl) (by kernel_rfl) (fun _ _ _ h => h) (Or.inl ⟨by rfl, ?hA29⟩) hS ?rA29
          case hA29 =>
            intro w1 hSw
            have z0 : w1.cell? ⟨wo.heap.size, 0, none⟩ = some (.int .i64 c.ad) := by simp [World.cell?, hSw]
            have z1 : w1.cell? ⟨wo.heap.size, 1, none⟩ = some (.int .i64 c.p.x) := by simp [World.cell?, hSw]
            have z2 : w1.cell? ⟨wo.heap.size, 2, none⟩ = some (.int .i64 c.p.y) := by simp [World.cell?, hSw]
            have z3 : w1.cell? ⟨wo.heap.size, 3, none⟩ = some (.int .i64 c.p.z) := by simp [World.cell?, hSw]
            have z4 : w1.cell? ⟨wo.heap.size, 4, none⟩ = some (.int .i64 c.v.x) := by simp [World.cell?, hSw]
            have z5 : w1.cell? ⟨wo.heap.size, 5, none⟩ = some (.int .i64 c.v.y) := by simp [World.cell?, hSw]
            have z6 : w1.cell? ⟨wo.heap.size, 6, none⟩ = some (.int .i64 c.v.z) := by simp [World.cell?, hSw]
            have z7 : w1.cell? ⟨wo.heap.size, 7, none⟩ = some (.int .i64 c.pu) := by simp [World.cell?, hSw]
            have z8 : w1.cell? ⟨wo.heap.size, 8, none⟩ = some (.slice LA c.lg.length lcap) := by simp [World.cell?, hSw]
            have z9 : w1.cell? ⟨wo.heap.size, 9, none⟩ = some (.int .u8 c.mo) := by simp [World.cell?, hSw]
            have z10 : w1.cell? ⟨wo.heap.size, 10, none⟩ = some (.int .i64 c.de) := by simp [World.cell?, hSw]
            have z11 : w1.cell? ⟨wo.heap.size, 11, none⟩ = some (.int .i64 c.pp) := by simp [World.cell?, hSw]
            have z12 : w1.cell? ⟨wo.heap.size, 12, none⟩ = some (.int .i64 c.mi) := by simp [World.cell?, hSw]
            clear hSw
            go_simp
            try with_reducible rfl
          (try simp only [Act.put])
          refine wpAnyH_take (i := 33) (v := ?vA30) rfl (by kernel_rfl) (by kernel_rfl) (by kernel_rfl) (fun _ _ _ h => h) (Or.inl ⟨by rfl, ?hA30⟩) hS ?rA30
          case hA30 =>
            intro w1 hSw
            have z0 : w1.cell? ⟨wo.heap.size, 0, none⟩ = some (.int .i64 c.ad) := by simp [World.cell?, hSw]
            have z1 : w1.cell? ⟨wo.heap.size, 1, none⟩ = some (.int .i64 c.p.x) := by simp [World.cell?, hSw]
            have z2 : w1.cell? ⟨wo.heap.size, 2, none⟩ = some (.int .i64 c.p.y) := by simp [World.cell?, hSw]
            have z3 : w1.cell? ⟨wo.heap.size, 3, none⟩ = some (.int .i64 c.p.z) := by simp [World.cell?, hSw]
            have z4 : w1.cell? ⟨wo.heap.size, 4, none⟩ = some (.int .i64 c.v.x) := by simp [World.cell?, hSw]
            have z5 : w1.cell? ⟨wo.heap.size, 5, none⟩ = some (.int .i64 c.v.y) := by simp [World.cell?, hSw]
            have z6 : w1.cell? ⟨wo.heap.size, 6, none⟩ = some (.int .i64 c.v.z) := by simp [World.cell?, hSw]
            have z7 : w1.cell? ⟨wo.heap.size, 7, none⟩ = some (.int .i64 c.pu) := by simp [World.cell?, hSw]
            have z8 : w1.cell? ⟨wo.heap.size, 8, none⟩ = some (.slice LA c.lg.length lcap) := by simp [World.cell?, hSw]
            have z9 : w1.cell? ⟨wo.heap.size, 9, none⟩ = some (.int .u8 c.mo) := by simp [World.cell?, hSw]
            have z10 : w1.cell? ⟨wo.heap.size, 10, none⟩ = some (.int .i64 c.de) := by simp [World.cell?, hSw]
            have z11 : w1.cell? ⟨wo.heap.size, 11, none⟩ = some (.int .i64 c.pp) := by simp [World.cell?, hSw]
            have z12 : w1.cell? ⟨wo.heap.size, 12, none⟩ = some (.int .i64 c.mi) := by simp [World.cell?, hSw]
            clear hSw
            go_simp
            try with_reducible rfl
          (try simp only [Act.put])
          refine wpAnyH_take (i := 34) (v := ?vA31) rfl (by kernel_rfl) (by kernel_rfl) (by kernel_rfl) (fun _ _ _ h => h) (Or.inl ⟨by rfl, ?hA31⟩) hS ?rA31
          case hA31 =>
            intro w1 hSw
            have z0 : w1.cell? ⟨wo.heap.size, 0, none⟩ = some (.int .i64 c.ad) := by simp [World.cell?, hSw]
            have z1 : w1.cell? ⟨wo.heap.size, 1, none⟩ = some (.int .i64 c.p.x) := by simp [World.cell?, hSw]
            have z2 : w1.cell? ⟨wo.heap.size, 2, none⟩ = some (.int .i64 c.p.y) := by simp [World.cell?, hSw]
            have z3 : w1.cell? ⟨wo.heap.size, 3, none⟩ = some (.int .i64 c.p.z) := by simp [World.cell?, hSw]
            have z4 : w1.cell? ⟨wo.heap.size, 4, none⟩ = some (.int .i64 c.v.x) := by simp [World.cell?, hSw]
            have z5 : w1.cell? ⟨wo.heap.size, 5, none⟩ = some (.int .i64 c.v.y) := by simp [World.cell?, hSw]
            have z6 : w1.cell? ⟨wo.heap.size, 6, none⟩ = some (.int .i64 c.v.z) := by simp [World.cell?, hSw]
            have z7 : w1.cell? ⟨wo.heap.size, 7, none⟩ = some (.int .i64 c.pu) := by simp [World.cell?, hSw]
            have z8 : w1.cell? ⟨wo.heap.size, 8, none⟩ = some (.slice LA c.lg.length lcap) := by simp [World.cell?, hSw]
            have z9 : w1.cell? ⟨wo.heap.size, 9, none⟩ = some (.int .u8 c.mo) := by simp [World.cell?, hSw]
            have z10 : w1.cell? ⟨wo.heap.size, 10, none⟩ = some (.int .i64 c.de) := by simp [World.cell?, hSw]
            have z11 : w1.cell? ⟨wo.heap.size, 11, none⟩ = some (.int .i64 c.pp) := by simp [World.cell?, hSw]
            have z12 : w1.cell? ⟨wo.heap.size, 12, none⟩ = some (.int .i64 c.mi) := by simp [World.cell?, hSw]
            clear hSw
            go_simp
            try with_reducible rfl
          (try simp only [Act.put])
          refine wpAnyH_take (i := 35) (v := ?vA32) rfl (by kernel_rfl) (by kernel_rfl) (by kernel_rfl) (fun _ _ _ h => h) (Or.inl ⟨by rfl, ?hA32⟩) hS ?rA32
          case hA32 =>
            intro w1 hSw
            have z0 : w1.cell? ⟨wo.heap.size, 0, none⟩ = some (.int .i64 c.ad) := by simp [World.cell?, hSw]
            have z1 : w1.cell? ⟨wo.heap.size, 1, none⟩ = some (.int .i64 c.p.x) := by simp [World.cell?, hSw]
            have z2 : w1.cell? ⟨wo.heap.size, 2, none⟩ = some (.int .i64 c.p.y) := by simp [World.cell?, hSw]
            have z3 : w1.cell? ⟨wo.heap.size, 3, none⟩ = some (.int .i64 c.p.z) := by simp [World.cell?, hSw]
            have z4 : w1.cell? ⟨wo.heap.size, 4, none⟩ = some (.int .i64 c.v.x) := by simp [World.cell?, hSw]
            have z5 : w1.cell? ⟨wo.heap.size, 5, none⟩ = some (.int .i64 c.v.y) := by simp [World.cell?, hSw]
            have z6 : w1.cell? ⟨wo.heap.size, 6, none⟩ = some (.int .i64 c.v.z) := by simp [World.cell?, hSw]
            have z7 : w1.cell? ⟨wo.heap.size, 7, none⟩ = some (.int .i64 c.pu) := by simp [World.cell?, hSw]
            have z8 : w1.cell? ⟨wo.heap.size, 8, none⟩ = some (.slice LA c.lg.length lcap) := by simp [World.cell?, hSw]
            have z9 : w1.cell? ⟨wo.heap.size, 9, none⟩ = some (.int .u8 c.mo) := by simp [World.cell?, hSw]
            have z10 : w1.cell? ⟨wo.heap.size, 10, none⟩ = some (.int .i64 c.de) := by simp [World.cell?, hSw]
            have z11 : w1.cell? ⟨wo.heap.size, 11, none⟩ = some (.int .i64 c.pp) := by simp [World.cell?, hSw]
            have z12 : w1.cell? ⟨wo.heap.size, 12, none⟩ = some (.int .i64 c.mi) := by simp [World.cell?, hSw]
            clear hSw
            go_simp
            try with_reducible rfl
          (try simp only [Act.put])
          refine wpAnyH_take (i := 36) (v := ?vA33) rfl (by kernel_rfl) (by kernel_rfl) (by kernel_rfl) (fun _ _ _ h => h) (Or.inl ⟨by rfl, ?hA33⟩) hS ?rA33
          case hA33 =>
            intro w1 hSw
            have z0 : w1.cell? ⟨wo.heap.size, 0, none⟩ = some (.int .i64 c.ad) := by simp [World.cell?, hSw]
            have z1 : w1.cell? ⟨wo.heap.size, 1, none⟩ = some (.int .i64 c.p.x) := by simp [World.cell?, hSw]
            have z2 : w1.cell? ⟨wo.heap.size, 2, none⟩ = some (.int .i64 c.p.y) := by simp [World.cell?, hSw]
            have z3 : w1.cell? ⟨wo.heap.size, 3, none⟩ = some (.int .i64 c.p.z) := by simp [World.cell?, hSw]
            have z4 : w1.cell? ⟨wo.heap.size, 4, none⟩ = some (.int .i64 c.v.x) := by simp [World.cell?, hSw]
            have z5 : w1.cell? ⟨wo.heap.size, 5, none⟩ = some (.int .i64 c.v.y) := by simp [World.cell?, hSw]
            have z6 : w1.cell? ⟨wo.heap.size, 6, none⟩ = some (.int .i64 c.v.z) := by simp [World.cell?, hSw]
            have z7 : w1.cell? ⟨wo.heap.size, 7, none⟩ = some (.int .i64 c.pu) := by simp [World.cell?, hSw]
            have z8 : w1.cell? ⟨wo.heap.size, 8, none⟩ = some (.slice LA c.lg.length lcap) := by simp [World.cell?, hSw]
            have z9 : w1.cell? ⟨wo.heap.size, 9, none⟩ = some (.int .u8 c.mo) := by simp [World.cell?, hSw]
            have z10 : w1.cell? ⟨wo.heap.size, 10, none⟩ = some (.int .i64 c.de) := by simp [World.cell?, hSw]
            have z11 : w1.cell? ⟨wo.heap.size, 11, none⟩ = some (.int .i64 c.pp) := by simp [World.cell?, hSw]
            have z12 : w1.cell? ⟨wo.heap.size, 12, none⟩ = some (.int .i64 c.mi) := by simp [World.cell?, hSw]
            clear hSw
            go_simp
            try with_reducible rfl
          (try simp only [Act.put])
          refine wpAnyH_take (i := 37) (v := ?vA34) rfl (by kernel_rfl) (by kernel_rfl) (by kernel_rfl) (fun _ _ _ h => h) (Or.inl ⟨by rfl, ?hA34⟩) hS ?rA34
          case hA34 =>
            intro w1 hSw
            have z0 : w1.cell? ⟨wo.heap.size, 0, none⟩ = some (.int .i64 c.ad) := by simp [World.cell?, hSw]
            have z1 : w1.cell? ⟨wo.heap.size, 1, none⟩ = some (.int .i64 c.p.x) := by simp [World.cell?, hSw]
            have z2 : w1.cell? ⟨wo.heap.size, 2, none⟩ = some (.int .i64 c.p.y) := by simp [World.cell?, hSw]
            have z3 : w1.cell? ⟨wo.heap.size, 3, none⟩ = some (.int .i64 c.p.z) := by simp [World.cell?, hSw]
            have z4 : w1.cell? ⟨wo.heap.size, 4, none⟩ = some (.int .i64 c.v.x) := by simp [World.cell?, hSw]
            have z5 : w1.cell? ⟨wo.heap.size, 5, none⟩ = some (.int .i64 c.v.y) := by simp [World.cell?, hSw]
            have z6 : w1.cell? ⟨wo.heap.size, 6, none⟩ = some (.int .i64 c.v.z) := by simp [World.cell?, hSw]
            have z7 : w1.cell? ⟨wo.heap.size, 7, none⟩ = some (.int .i64 c.pu) := by simp [World.cell?, hSw]
            have z8 : w1.cell? ⟨wo.heap.size, 8, none⟩ = some (.slice LA c.lg.length lcap) := by simp [World.cell?, hSw]
            have z9 : w1.cell? ⟨wo.heap.size, 9, none⟩ = some (.int .u8 c.mo) := by simp [World.cell?, hSw]
            have z10 : w1.cell? ⟨wo.heap.size, 10, none⟩ = some (.int .i64 c.de) := by simp [World.cell?, hSw]
            have z11 : w1.cell? ⟨wo.heap.size, 11, none⟩ = some (.int .i64 c.pp) := by simp [World.cell?, hSw]
            have z12 : w1.cell? ⟨wo.heap.size, 12, none⟩ = some (.int .i64 c.mi) := by simp [World.cell?, hSw]
            clear hSw
            go_simp
            try with_reducible rfl
          (try simp only [Act.put])
          refine wpAnyH_ready (rs := [1, 38]) (by kernel_rfl) (by simp) (AllReadyH.cons rfl (fun K hK => ?aA35) (AllReadyH.cons rfl (fun K hK => ?bA35) AllReadyH.nil))
          case aA35 =>
            go_simp
            refine (modes64 _).mono ?_
            rintro e M ⟨rfl, hM⟩
            have hM1 : M.heap[wX.heap.size]? = some (.cells (wordsV [w_none, w_tables, w_rules]) 9 (0, 0)) := by rw [← hM]; exact heap_alloc_new _ _
            have hMs : wX.heap.size + 1 ≤ M.heap.size ∧ M.heap.size ≤ wX.heap.size + 1 := by rw [← hM]; simp
            have hMb : Below (wX.heap.size) (wX.drew) M := by rw [← hM]; exact (Below.refl (wX.heap.size) (wX.drew)).alloc (show wX.heap.size ≤ (wX.drew).heap.size from Nat.le_refl _) _
            clear hM
            have hSm : M.heap[wo.heap.size]? = _ := (hMb.block _ hCX).trans hS
            refine hK.out _ _ hSm (fun hS => ?_)
            clear hK K hSm
            refine wpAnyH_S (S' := fun w' => w'.heap[wo.heap.size]? = some (.cells #[.int .i64 c.ad, .int .i64 c.p.x, .int .i64 c.p.y, .int .i64 c.p.z, .int .i64 c.v.x, .int .i64 c.v.y, .int .i64 c.v.z, .int .i64 c.pu, .slice LA c.lg.length lcap, .int .u8 c.mo, .int .i64 c.de, .int .i64 c.pp, .int .i64 c.mi] 63 (0, 0)) ∧ w'.heap[wX.heap.size]? = some (.cells (wordsV [w_none, w_tables, w_rules]) 9 (0, 0))) (fun _ h => h.1) _ _ _ _ ?_
            have hS := And.intro hS hM1
            clear hM1
            refine wpAnyH_take (i := 4) (v := ?vA36) rfl (by kernel_rfl) (by kernel_rfl) (by kernel_rfl) (fun _ _ _ h => h) (Or.inl ⟨by rfl, ?hA36⟩) hS ?rA36
            case hA36 =>
              intro w1 hSw
              have hSb := hSw.2
              have zm : w1.cell? ⟨wX.heap.size, c.mo.toNat, none⟩ = some (.string (S (moW c.mo))) := words_at hSb (moW_at hm0 hm2)
              clear hSb
              clear hSw
              go_simp
              try with_reducible rfl
            (try simp only [Act.put])
            refine wpAnyH_take (i := 5) (v := ?vA37) rfl (by kernel_rfl) (by kernel_rfl) (by kernel_rfl) (fun _ _ _ h => h) (Or.inl ⟨by rfl, ?hA37⟩) hS ?rA37
            case hA37 =>
              intro w1 hSw
              have hSb := hSw.2
              have zm : w1.cell? ⟨wX.heap.size, c.mo.toNat, none⟩ = some (.string (S (moW c.mo))) := words_at hSb (moW_at hm0 hm2)
              clear hSb
              clear hSw
              go_simp
              try with_reducible rfl
            (try simp only [Act.put])
            refine wpAnyH_ready (rs := [6, 38]) (by kernel_rfl) (by simp) (AllReadyH.cons rfl (fun K hK => ?aA38) (AllReadyH.cons rfl (fun K hK => ?bA38) AllReadyH.nil))
            case aA38 =>
              go_simp
              refine hK.out _ _ (⟨(Below.heap_alloc _ _ _ (heap_lt hS.1)).trans hS.1, (Below.heap_alloc _ _ _ (heap_lt hS.2)).trans hS.2⟩) (fun hS => ?_)
              clear hK K
              refine wpAnyH_ready (rs := [38]) (by kernel_rfl) (by simp) (AllReadyH.cons rfl (fun K hK => ?_) AllReadyH.nil)
              go_simp
              refine hK.out _ _ (⟨(Below.heap_alloc _ _ _ (heap_lt hS.1)).trans hS.1, (Below.heap_alloc _ _ _ (heap_lt hS.2)).trans hS.2⟩) (fun hS => ?_)
              clear hK K
              obtain ⟨Z, hZ⟩ : ∃ Z, Z = (M.alloc (.cells (wordsV (wordsOf (crP (moW c.mo)))) 9)).alloc (.cells ((c.nums.map (Value.int .i64)).toArray) 3) := ⟨_, rfl⟩
              have hZ1 : Z.heap[M.heap.size]? = some (.cells (wordsV (wordsOf (crP (moW c.mo)))) 9 (0, 0)) := by rw [hZ]; exact (Below.heap_alloc _ _ _ (by simp)).trans (heap_alloc_new _ _)
              have hZ2 : Z.heap[M.heap.size + 1]? = some (.cells ((c.nums.map (Value.int .i64)).toArray) 3 (0, 0)) := by rw [hZ]; exact heap_alloc_at _ _ _ (by simp)
              have hZb : Below wX.heap.size wX Z := by rw [hZ]; exact (((Below.refl _ wX).drew.trans (hMb.mono (Nat.le_refl _))).alloc (by omega) _).alloc (by simp; omega) _
              rw [show (M.alloc (.cells #[.string (⟨#[99, 114, 97, 102, 116]⟩), .string (⟨#[]⟩), .string (⟨#[97, 116]⟩), .string (⟨#[]⟩), .string (⟨#[]⟩), .string (⟨#[]⟩), .string (⟨#[109, 111, 118, 105, 110, 103]⟩), .string (⟨#[]⟩), .string (⟨#[]⟩), .string (⟨#[]⟩), .string (⟨#[112, 117, 108, 108]⟩), .string (⟨#[]⟩), .string (⟨#[109, 111, 100, 101]⟩), .string (S (moW c.mo)), .string (⟨#[112, 105, 108, 111, 116]⟩), .string (⟨#[]⟩), .string (⟨#[]⟩), .string (⟨#[]⟩)] 9)).alloc (.cells #[.int .i64 c.ad, .int .i64 c.p.x, .int .i64 c.p.y, .int .i64 c.p.z, .int .i64 c.v.x, .int .i64 c.v.y, .int .i64 c.v.z, .int .i64 c.pu, .int .i64 c.de, .int .i64 c.pp, .int .i64 c.mi] 3) = Z from hZ.symm] at hS ⊢
              have HL := Lib.hid (line_at (crP (moW c.mo)) c.nums (M.heap.size) (M.heap.size + 1) 18 11 Z hZ1 hZ2 rfl rfl (crP_le c.mo) rfl (okw_cr c.mo) hns.out)
              clear hZ hZ1 hZ2
              refine wpAnyH_ready (rs := [39]) (by kernel_rfl) (by simp) (AllReadyH.cons rfl (fun K hK => ?_) AllReadyH.nil)
              go_simp
              refine HL.out.mono ?_
              rintro e Y ⟨rfl, hbY⟩
              refine hK.out _ _ (⟨(hbY.block _ (heap_lt hS.1)).trans hS.1, (hbY.block _ (heap_lt hS.2)).trans hS.2⟩) (fun hS => ?_)
              clear hK K
              refine wpAnyH_ready (rs := [40]) (by kernel_rfl) (by simp) (AllReadyH.cons rfl (fun K hK => ?_) AllReadyH.nil)
              go_simp
              rw [if_neg (by show ¬ _ < _; unfold crL at hT0; omega)]
              go_simp
              refine hK.out _ _ (hS) (fun hS => ?_)
              clear hK K
              refine wpAnyH_ready (rs := [41]) (by kernel_rfl) (by simp) (AllReadyH.cons rfl (fun K hK => ?_) AllReadyH.nil)
              go_simp
              refine hK.out _ _ (hS) (fun hS => ?_)
              clear hK K
              refine wpAnyH_done (by kernel_rfl) ?_ _
              go_wp2_with fail
              go_meet
              case rel => exact ⟨rfl, hZb.trans (hbY.mono hZb.size)⟩
            case bA38 =>
              go_simp
              refine hK.out _ _ (⟨(Below.heap_alloc _ _ _ (heap_lt hS.1)).trans hS.1, (Below.heap_alloc _ _ _ (heap_lt hS.2)).trans hS.2⟩) (fun hS => ?_)
              clear hK K
              refine wpAnyH_ready (rs := [6]) (by kernel_rfl) (by simp) (AllReadyH.cons rfl (fun K hK => ?_) AllReadyH.nil)
              go_simp
              refine hK.out _ _ (⟨(Below.heap_alloc _ _ _ (heap_lt hS.1)).trans hS.1, (Below.heap_alloc _ _ _ (heap_lt hS.2)).trans hS.2⟩) (fun hS => ?_)
              clear hK K
              obtain ⟨Z, hZ⟩ : ∃ Z, Z = (M.alloc (.cells ((c.nums.map (Value.int .i64)).toArray) 3)).alloc (.cells (wordsV (wordsOf (crP (moW c.mo)))) 9) := ⟨_, rfl⟩
              have hZ1 : Z.heap[M.heap.size + 1]? = some (.cells (wordsV (wordsOf (crP (moW c.mo)))) 9 (0, 0)) := by rw [hZ]; exact heap_alloc_at _ _ _ (by simp)
              have hZ2 : Z.heap[M.heap.size]? = some (.cells ((c.nums.map (Value.int .i64)).toArray) 3 (0, 0)) := by rw [hZ]; exact (Below.heap_alloc _ _ _ (by simp)).trans (heap_alloc_new _ _)
              have hZb : Below wX.heap.size wX Z := by rw [hZ]; exact (((Below.refl _ wX).drew.trans (hMb.mono (Nat.le_refl _))).alloc (by omega) _).alloc (by simp; omega) _
              rw [show (M.alloc (.cells #[.int .i64 c.ad, .int .i64 c.p.x, .int .i64 c.p.y, .int .i64 c.p.z, .int .i64 c.v.x, .int .i64 c.v.y, .int .i64 c.v.z, .int .i64 c.pu, .int .i64 c.de, .int .i64 c.pp, .int .i64 c.mi] 3)).alloc (.cells #[.string (⟨#[99, 114, 97, 102, 116]⟩), .string (⟨#[]⟩), .string (⟨#[97, 116]⟩), .string (⟨#[]⟩), .string (⟨#[]⟩), .string (⟨#[]⟩), .string (⟨#[109, 111, 118, 105, 110, 103]⟩), .string (⟨#[]⟩), .string (⟨#[]⟩), .string (⟨#[]⟩), .string (⟨#[112, 117, 108, 108]⟩), .string (⟨#[]⟩), .string (⟨#[109, 111, 100, 101]⟩), .string (S (moW c.mo)), .string (⟨#[112, 105, 108, 111, 116]⟩), .string (⟨#[]⟩), .string (⟨#[]⟩), .string (⟨#[]⟩)] 9) = Z from hZ.symm] at hS ⊢
              have HL := Lib.hid (line_at (crP (moW c.mo)) c.nums (M.heap.size + 1) (M.heap.size) 18 11 Z hZ1 hZ2 rfl rfl (crP_le c.mo) rfl (okw_cr c.mo) hns.out)
              clear hZ hZ1 hZ2
              refine wpAnyH_ready (rs := [39]) (by kernel_rfl) (by simp) (AllReadyH.cons rfl (fun K hK => ?_) AllReadyH.nil)
              go_simp
              refine HL.out.mono ?_
              rintro e Y ⟨rfl, hbY⟩
              refine hK.out _ _ (⟨(hbY.block _ (heap_lt hS.1)).trans hS.1, (hbY.block _ (heap_lt hS.2)).trans hS.2⟩) (fun hS => ?_)
              clear hK K
              refine wpAnyH_ready (rs := [40]) (by kernel_rfl) (by simp) (AllReadyH.cons rfl (fun K hK => ?_) AllReadyH.nil)
              go_simp
              rw [if_neg (by show ¬ _ < _; unfold crL at hT0; omega)]
              go_simp
              refine hK.out _ _ (hS) (fun hS => ?_)
              clear hK K
              refine wpAnyH_ready (rs := [41]) (by kernel_rfl) (by simp) (AllReadyH.cons rfl (fun K hK => ?_) AllReadyH.nil)
              go_simp
              refine hK.out _ _ (hS) (fun hS => ?_)
              clear hK K
              refine wpAnyH_done (by kernel_rfl) ?_ _
              go_wp2_with fail
              go_meet
              case rel => exact ⟨rfl, hZb.trans (hbY.mono hZb.size)⟩
          case bA35 =>
            go_simp
            refine hK.out _ _ ((Below.heap_alloc _ _ _ (heap_lt hS)).trans hS) (fun hS => ?_)
            clear hK K
            obtain ⟨V, hV⟩ : ∃ V, V = (wX.alloc (.cells ((c.nums.map (Value.int .i64)).toArray) 3)).drew := ⟨_, rfl⟩
            have hV2 : V.heap[wX.heap.size]? = some (.cells ((c.nums.map (Value.int .i64)).toArray) 3 (0, 0)) := by rw [hV]; exact heap_alloc_new _ _
            have hVb : Below wX.heap.size wX V := by rw [hV]; exact ((Below.refl _ _).alloc (Nat.le_refl _) _).drew
            have hVs : wX.heap.size + 1 ≤ V.heap.size ∧ V.heap.size ≤ wX.heap.size + 1 := by rw [hV]; simp
            rw [show (wX.alloc (.cells #[.int .i64 c.ad, .int .i64 c.p.x, .int .i64 c.p.y, .int .i64 c.p.z, .int .i64 c.v.x, .int .i64 c.v.y, .int .i64 c.v.z, .int .i64 c.pu, .int .i64 c.de, .int .i64 c.pp, .int .i64 c.mi] 3)).drew = V from hV.symm] at hS ⊢
            clear hV
            refine wpAnyH_ready (rs := [1]) (by kernel_rfl) (by simp) (AllReadyH.cons rfl (fun K hK => ?_) AllReadyH.nil)
            go_simp
            refine (modes64 _).mono ?_
            rintro e M ⟨rfl, hM⟩
            have hM1 : M.heap[V.heap.size]? = some (.cells (wordsV [w_none, w_tables, w_rules]) 9 (0, 0)) := by rw [← hM]; exact heap_alloc_new _ _
            have hMs : V.heap.size + 1 ≤ M.heap.size ∧ M.heap.size ≤ V.heap.size + 1 := by rw [← hM]; simp
            have hMb : Below (V.heap.size) (V) M := by rw [← hM]; exact (Below.refl (V.heap.size) (V)).alloc (show V.heap.size ≤ (V).heap.size from Nat.le_refl _) _
            clear hM
            have hSm : M.heap[wo.heap.size]? = _ := (hMb.block _ (heap_lt hS)).trans hS
            refine hK.out _ _ hSm (fun hS => ?_)
            clear hK K hSm
            refine wpAnyH_S (S' := fun w' => w'.heap[wo.heap.size]? = some (.cells #[.int .i64 c.ad, .int .i64 c.p.x, .int .i64 c.p.y, .int .i64 c.p.z, .int .i64 c.v.x, .int .i64 c.v.y, .int .i64 c.v.z, .int .i64 c.pu, .slice LA c.lg.length lcap, .int .u8 c.mo, .int .i64 c.de, .int .i64 c.pp, .int .i64 c.mi] 63 (0, 0)) ∧ w'.heap[V.heap.size]? = some (.cells (wordsV [w_none, w_tables, w_rules]) 9 (0, 0))) (fun _ h => h.1) _ _ _ _ ?_
            have hS := And.intro hS hM1
            clear hM1
            refine wpAnyH_take (i := 4) (v := ?vA39) rfl (by kernel_rfl) (by kernel_rfl) (by kernel_rfl) (fun _ _ _ h => h) (Or.inl ⟨by rfl, ?hA39⟩) hS ?rA39
            case hA39 =>
              intro w1 hSw
              have hSb := hSw.2
              have zm : w1.cell? ⟨V.heap.size, c.mo.toNat, none⟩ = some (.string (S (moW c.mo))) := words_at hSb (moW_at hm0 hm2)
              clear hSb
              clear hSw
              go_simp
              try with_reducible rfl
            (try simp only [Act.put])
            refine wpAnyH_take (i := 5) (v := ?vA40) rfl (by kernel_rfl) (by kernel_rfl) (by kernel_rfl) (fun _ _ _ h => h) (Or.inl ⟨by rfl, ?hA40⟩) hS ?rA40
            case hA40 =>
              intro w1 hSw
              have hSb := hSw.2
              have zm : w1.cell? ⟨V.heap.size, c.mo.toNat, none⟩ = some (.string (S (moW c.mo))) := words_at hSb (moW_at hm0 hm2)
              clear hSb
              clear hSw
              go_simp
              try with_reducible rfl
            (try simp only [Act.put])
            refine wpAnyH_ready (rs := [6]) (by kernel_rfl) (by simp) (AllReadyH.cons rfl (fun K hK => ?_) AllReadyH.nil)
            go_simp
            refine hK.out _ _ (⟨(Below.heap_alloc _ _ _ (heap_lt hS.1)).trans hS.1, (Below.heap_alloc _ _ _ (heap_lt hS.2)).trans hS.2⟩) (fun hS => ?_)
            clear hK K
            obtain ⟨Z, hZ⟩ : ∃ Z, Z = M.alloc (.cells (wordsV (wordsOf (crP (moW c.mo)))) 9) := ⟨_, rfl⟩
            have hZ1 : Z.heap[M.heap.size]? = some (.cells (wordsV (wordsOf (crP (moW c.mo)))) 9 (0, 0)) := by rw [hZ]; exact heap_alloc_new _ _
            have hZ2 : Z.heap[wX.heap.size]? = some (.cells ((c.nums.map (Value.int .i64)).toArray) 3 (0, 0)) := by rw [hZ]; exact (Below.heap_alloc _ _ _ (by omega)).trans ((hMb.block _ (by omega)).trans hV2)
            have hZb : Below wX.heap.size wX Z := by rw [hZ]; exact (hVb.trans (hMb.mono (by omega))).alloc (by omega) _
            rw [show M.alloc (.cells #[.string (⟨#[99, 114, 97, 102, 116]⟩), .string (⟨#[]⟩), .string (⟨#[97, 116]⟩), .string (⟨#[]⟩), .string (⟨#[]⟩), .string (⟨#[]⟩), .string (⟨#[109, 111, 118, 105, 110, 103]⟩), .string (⟨#[]⟩), .string (⟨#[]⟩), .string (⟨#[]⟩), .string (⟨#[112, 117, 108, 108]⟩), .string (⟨#[]⟩), .string (⟨#[109, 111, 100, 101]⟩), .string (S (moW c.mo)), .string (⟨#[112, 105, 108, 111, 116]⟩), .string (⟨#[]⟩), .string (⟨#[]⟩), .string (⟨#[]⟩)] 9) = Z from hZ.symm] at hS ⊢
            have HL := Lib.hid (line_at (crP (moW c.mo)) c.nums (M.heap.size) (wX.heap.size) 18 11 Z hZ1 hZ2 rfl rfl (crP_le c.mo) rfl (okw_cr c.mo) hns.out)
            clear hZ hZ1 hZ2
            refine wpAnyH_ready (rs := [39]) (by kernel_rfl) (by simp) (AllReadyH.cons rfl (fun K hK => ?_) AllReadyH.nil)
            go_simp
            refine HL.out.mono ?_
            rintro e Y ⟨rfl, hbY⟩
            refine hK.out _ _ (⟨(hbY.block _ (heap_lt hS.1)).trans hS.1, (hbY.block _ (heap_lt hS.2)).trans hS.2⟩) (fun hS => ?_)
            clear hK K
            refine wpAnyH_ready (rs := [40]) (by kernel_rfl) (by simp) (AllReadyH.cons rfl (fun K hK => ?_) AllReadyH.nil)
            go_simp
            rw [if_neg (by show ¬ _ < _; unfold crL at hT0; omega)]
            go_simp
            refine hK.out _ _ (hS) (fun hS => ?_)
            clear hK K
            refine wpAnyH_ready (rs := [41]) (by kernel_rfl) (by simp) (AllReadyH.cons rfl (fun K hK => ?_) AllReadyH.nil)
            go_simp
            refine hK.out _ _ (hS) (fun hS => ?_)
            clear hK K
            refine wpAnyH_done (by kernel_rfl) ?_ _
            go_wp2_with fail
            go_meet
            case rel => exact ⟨rfl, hZb.trans (hbY.mono hZb.size)⟩
        case rest =>
          obtain ⟨rfl, hbc⟩ := hcut
          obtain ⟨wi, hwi⟩ : ∃ wi, wi = wc := ⟨_, rfl⟩
          subst hwi
          have Bi := Lib.hid (BW.out.trans ((bX.out.mono (by omega)).trans (hbc.mono (by have := bX.out.size; omega))))
          have Bo := Lib.hid (HB.out.trans ((bX.out.mono sr).trans (hbc.mono (by have := bX.out.size; omega))))
          have Ci := Lib.hid ((hbc.block _ hCX).trans CX.out)
          have si := Nat.le_trans bX.out.size hbc.size
          have hCi := heap_lt Ci.out
          clear hbc CX bX hCX hT0
          have c8 : wi.cell? ⟨wo.heap.size, 8, none⟩ = some (.slice LA c.lg.length lcap) := by simp [World.cell?, Ci.out]
          rw [← crU_zero c]
          go_wp2_with fail
          clear c8
          go_loopw [5, 8] (fun v i wr => ∃ k : Nat, k ≤ c.lg.length ∧ i = .int .i64 k ∧ v = .string (S (txU x n ++ crU c k)) ∧ Below wi.heap.size wi wr) (fun _ i _ => c.lg.length - (intOf i).toNat)
          case atStart => exact ⟨0, Nat.zero_le _, rfl, rfl, Below.refl _ _⟩
          case round =>
            obtain ⟨k, hk, rfl, rfl, hb⟩ := hrel
            have HBi := Lib.hid hb
            have Cr := Lib.hid ((hb.block _ hCi).trans Ci.out)
            have Br := Lib.hid (Bi.out.trans (hb.mono (by omega)))
            have si2 := hb.size
            clear hb
            have c8 : wr.cell? ⟨wo.heap.size, 8, none⟩ = some (.slice LA c.lg.length lcap) := by simp [World.cell?, Cr.out]
            by_cases hltk : k < c.lg.length
            · obtain ⟨l, hl⟩ : ∃ l, c.lg[k]? = some l := ⟨_, List.getElem?_eq_getElem hltk⟩
              have HCU := Lib.hid (crU_succ hl)
              have hlm := HLS.out l (List.mem_of_getElem? hl)
              have hsm1 := hlm.1
              have hsm2 := hlm.2
              obtain ⟨lb, loff, rfl, hlb, hlc⟩ := HLr.out (by rw [flat2_len]; omega)
              have e0 := leg_cell0 hlc hl
              have e1 := leg_cell1 hlc hl
              have r0 : wr.cell? ⟨lb, loff + k * 2, none⟩ = some (.int .i64 l.1) := (Br.out.cell (p := ⟨lb, loff + k * 2, none⟩) hlb).trans ((BW.out.cell (p := ⟨lb, loff + k * 2, none⟩) hlb).symm.trans e0)
              have r1 : wr.cell? ⟨lb, loff + k * 2 + 1, none⟩ = some (.int .i64 l.2) := (Br.out.cell (p := ⟨lb, loff + k * 2 + 1, none⟩) hlb).trans ((BW.out.cell (p := ⟨lb, loff + k * 2 + 1, none⟩) hlb).symm.trans e1)
              have hT1 := HT.out (k + 1)
              rw [HCU.out] at hT1
              rw [List.length_append] at hT1
              have hkI : (k : Int) < (c.lg.length : Int) := by omega
              have hlbw : lb < wr.heap.size := by omega
              clear hlc hl e0 e1 hlm
              go_wp2_with fail
              clear c8
              have hD : wr.drew.heap[wo.heap.size]? = some (.cells #[.int .i64 c.ad, .int .i64 c.p.x, .int .i64 c.p.y, .int .i64 c.p.z, .int .i64 c.v.x, .int .i64 c.v.y, .int .i64 c.v.z, .int .i64 c.pu, .slice (some ⟨lb, loff, none⟩) c.lg.length lcap, .int .u8 c.mo, .int .i64 c.de, .int .i64 c.pp, .int .i64 c.mi] 63 (0, 0)) ∧ wr.drew.cell? ⟨lb, loff + k * 2, none⟩ = some (.int .i64 l.1) ∧ wr.drew.cell? ⟨lb, loff + k * 2 + 1, none⟩ = some (.int .i64 l.2) := ⟨Cr.out, r0, r1⟩
              refine wp_region_held_drew (S := fun w' => w'.heap[wo.heap.size]? = some (.cells #[.int .i64 c.ad, .int .i64 c.p.x, .int .i64 c.p.y, .int .i64 c.p.z, .int .i64 c.v.x, .int .i64 c.v.y, .int .i64 c.v.z, .int .i64 c.pu, .slice (some ⟨lb, loff, none⟩) c.lg.length lcap, .int .u8 c.mo, .int .i64 c.de, .int .i64 c.pp, .int .i64 c.mi] 63 (0, 0)) ∧ w'.cell? ⟨lb, loff + k * 2, none⟩ = some (.int .i64 l.1) ∧ w'.cell? ⟨lb, loff + k * 2 + 1, none⟩ = some (.int .i64 l.2)) (by kernel_rfl) (hD) (fun hS => ?_)
              refine wpAnyH_take (i := 0) (v := ?vB1) rfl (by kernel_rfl) (by kernel_rfl) (by kernel_rfl) (fun _ _ _ h => h) (Or.inl ⟨by rfl, ?hB1⟩) hS ?rB1
              case hB1 =>
                intro w1 hSw
                obtain ⟨hSa, zl0, zl1⟩ := hSw
                have z8 : w1.cell? ⟨wo.heap.size, 8, none⟩ = some (.slice (some ⟨lb, loff, none⟩) c.lg.length lcap) := by simp [World.cell?, hSa]
                have hSw : True := trivial
                clear hSa
                clear hSw
                go_simp
                try with_reducible rfl
              (try simp only [Act.put])
              refine wpAnyH_take (i := 2) (v := ?vB2) rfl (by kernel_rfl) (by kernel_rfl) (by kernel_rfl) (fun _ _ _ h => h) (Or.inl ⟨by rfl, ?hB2⟩) hS ?rB2
              case hB2 =>
                intro w1 hSw
                obtain ⟨hSa, zl0, zl1⟩ := hSw
                have z8 : w1.cell? ⟨wo.heap.size, 8, none⟩ = some (.slice (some ⟨lb, loff, none⟩) c.lg.length lcap) := by simp [World.cell?, hSa]
                have hSw : True := trivial
                clear hSa
                clear hSw
                go_simp
                try with_reducible rfl
              (try simp only [Act.put])
              refine wpAnyH_take (i := 3) (v := ?vB3) rfl (by kernel_rfl) (by kernel_rfl) (by kernel_rfl) (fun _ _ _ h => h) (Or.inl ⟨by rfl, ?hB3⟩) hS ?rB3
              case hB3 =>
                intro w1 hSw
                obtain ⟨hSa, zl0, zl1⟩ := hSw
                have z8 : w1.cell? ⟨wo.heap.size, 8, none⟩ = some (.slice (some ⟨lb, loff, none⟩) c.lg.length lcap) := by simp [World.cell?, hSa]
                have hSw : True := trivial
                clear hSa
                clear hSw
                go_simp
                try with_reducible rfl
              (try simp only [Act.put])
              refine wpAnyH_take (i := 4) (v := ?vB4) rfl (by kernel_rfl) (by kernel_rfl) (by kernel_rfl) (fun _ _ _ h => h) (Or.inl ⟨by rfl, ?hB4⟩) hS ?rB4
              case hB4 =>
                intro w1 hSw
                obtain ⟨hSa, zl0, zl1⟩ := hSw
                have z8 : w1.cell? ⟨wo.heap.size, 8, none⟩ = some (.slice (some ⟨lb, loff, none⟩) c.lg.length lcap) := by simp [World.cell?, hSa]
                have hSw : True := trivial
                clear hSa
                clear hSw
                go_simp
                try with_reducible rfl
              (try simp only [Act.put])
              refine wpAnyH_take (i := 5) (v := ?vB5) rfl (by kernel_rfl) (by kernel_rfl) (by kernel_rfl) (fun _ _ _ h => h) (Or.inl ⟨by rfl, ?hB5⟩) hS ?rB5
              case hB5 =>
                intro w1 hSw
                obtain ⟨hSa, zl0, zl1⟩ := hSw
                have z8 : w1.cell? ⟨wo.heap.size, 8, none⟩ = some (.slice (some ⟨lb, loff, none⟩) c.lg.length lcap) := by simp [World.cell?, hSa]
                have hSw : True := trivial
                clear hSa
                clear hSw
                go_simp
                try with_reducible rfl
              (try simp only [Act.put])
              refine wpAnyH_take (i := 6) (v := ?vB6) rfl (by kernel_rfl) (by kernel_rfl) (by kernel_rfl) (fun _ _ _ h => h) (Or.inl ⟨by rfl, ?hB6⟩) hS ?rB6
              case hB6 =>
                intro w1 hSw
                obtain ⟨hSa, zl0, zl1⟩ := hSw
                have z8 : w1.cell? ⟨wo.heap.size, 8, none⟩ = some (.slice (some ⟨lb, loff, none⟩) c.lg.length lcap) := by simp [World.cell?, hSa]
                have hSw : True := trivial
                clear hSa
                clear hSw
                go_simp
                try with_reducible rfl
              (try simp only [Act.put])
              refine wpAnyH_take (i := 7) (v := ?vB7) rfl (by kernel_rfl) (by kernel_rfl) (by kernel_rfl) (fun _ _ _ h => h) (Or.inl ⟨by rfl, ?hB7⟩) hS ?rB7
              case hB7 =>
                intro w1 hSw
                obtain ⟨hSa, zl0, zl1⟩ := hSw
                have z8 : w1.cell? ⟨wo.heap.size, 8, none⟩ = some (.slice (some ⟨lb, loff, none⟩) c.lg.length lcap) := by simp [World.cell?, hSa]
                have hSw : True := trivial
                clear hSa
                clear hSw
                go_simp
                try with_reducible rfl
              (try simp only [Act.put])
              refine wpAnyH_take (i := 8) (v := ?vB8) rfl (by kernel_rfl) (by kernel_rfl) (by kernel_rfl) (fun _ _ _ h => h) (Or.inl ⟨by rfl, ?hB8⟩) hS ?rB8
              case hB8 =>
                intro w1 hSw
                obtain ⟨hSa, zl0, zl1⟩ := hSw
                have z8 : w1.cell? ⟨wo.heap.size, 8, none⟩ = some (.slice (some ⟨lb, loff, none⟩) c.lg.length lcap) := by simp [World.cell?, hSa]
                have hSw : True := trivial
                clear hSa
                clear hSw
                go_simp
                try with_reducible rfl
              (try simp only [Act.put])
              refine wpAnyH_take (i := 9) (v := ?vB9) rfl (by kernel_rfl) (by kernel_rfl) (by kernel_rfl) (fun _ _ _ h => h) (Or.inl ⟨by rfl, ?hB9⟩) hS ?rB9
              case hB9 =>
                intro w1 hSw
                obtain ⟨hSa, zl0, zl1⟩ := hSw
                have z8 : w1.cell? ⟨wo.heap.size, 8, none⟩ = some (.slice (some ⟨lb, loff, none⟩) c.lg.length lcap) := by simp [World.cell?, hSa]
                have hSw : True := trivial
                clear hSa
                clear hSw
                go_simp
                try with_reducible rfl
              (try simp only [Act.put])
              refine wpAnyH_take (i := 10) (v := ?vB10) rfl (by kernel_rfl) (by kernel_rfl) (by kernel_rfl) (fun _ _ _ h => h) (Or.inl ⟨by rfl, ?hB10⟩) hS ?rB10
              case hB10 =>
                intro w1 hSw
                obtain ⟨hSa, zl0, zl1⟩ := hSw
                have z8 : w1.cell? ⟨wo.heap.size, 8, none⟩ = some (.slice (some ⟨lb, loff, none⟩) c.lg.length lcap) := by simp [World.cell?, hSa]
                have hSw : True := trivial
                clear hSa
                clear hSw
                go_simp
                try with_reducible rfl
              (try simp only [Act.put])
              refine wpAnyH_take (i := 11) (v := ?vB11) rfl (by kernel_rfl) (by kernel_rfl) (by kernel_rfl) (fun _ _ _ h => h) (Or.inl ⟨by rfl, ?hB11⟩) hS ?rB11
              case hB11 =>
                intro w1 hSw
                obtain ⟨hSa, zl0, zl1⟩ := hSw
                have z8 : w1.cell? ⟨wo.heap.size, 8, none⟩ = some (.slice (some ⟨lb, loff, none⟩) c.lg.length lcap) := by simp [World.cell?, hSa]
                have hSw : True := trivial
                clear hSa
                clear hSw
                go_simp
                try with_reducible rfl
              (try simp only [Act.put])
              refine wpAnyH_take (i := 12) (v := ?vB12) rfl (by kernel_rfl) (by kernel_rfl) (by kernel_rfl) (fun _ _ _ h => h) (Or.inl ⟨by rfl, ?hB12⟩) hS ?rB12
              case hB12 =>
                intro w1 hSw
                obtain ⟨hSa, zl0, zl1⟩ := hSw
                have z8 : w1.cell? ⟨wo.heap.size, 8, none⟩ = some (.slice (some ⟨lb, loff, none⟩) c.lg.length lcap) := by simp [World.cell?, hSa]
                have hSw : True := trivial
                clear hSa
                clear hSw
                go_simp
                try with_reducible rfl
              (try simp only [Act.put])
              refine wpAnyH_take (i := 13) (v := ?vB13) rfl (by kernel_rfl) (by kernel_rfl) (by kernel_rfl) (fun _ _ _ h => h) (Or.inl ⟨by rfl, ?hB13⟩) hS ?rB13
              case hB13 =>
                intro w1 hSw
                obtain ⟨hSa, zl0, zl1⟩ := hSw
                have z8 : w1.cell? ⟨wo.heap.size, 8, none⟩ = some (.slice (some ⟨lb, loff, none⟩) c.lg.length lcap) := by simp [World.cell?, hSa]
                have hSw : True := trivial
                clear hSa
                clear hSw
                go_simp
                try with_reducible rfl
              (try simp only [Act.put])
              refine wpAnyH_ready (rs := [1, 14]) (by kernel_rfl) (by simp) (AllReadyH.cons rfl (fun K hK => ?aB14) (AllReadyH.cons rfl (fun K hK => ?bB14) AllReadyH.nil))
              case aB14 =>
                go_simp
                refine hK.out _ _ (⟨(Below.heap_alloc _ _ _ (heap_lt hS.1)).trans hS.1, (World.cell?_alloc_lt _ _ _ (by show lb < _; first | omega | (simp; omega))).trans hS.2.1, (World.cell?_alloc_lt _ _ _ (by show lb < _; first | omega | (simp; omega))).trans hS.2.2⟩) (fun hS => ?_)
                clear hK K
                refine wpAnyH_ready (rs := [14]) (by kernel_rfl) (by simp) (AllReadyH.cons rfl (fun K hK => ?_) AllReadyH.nil)
                go_simp
                refine hK.out _ _ (⟨(Below.heap_alloc _ _ _ (heap_lt hS.1)).trans hS.1, (World.cell?_alloc_lt _ _ _ (by show lb < _; first | omega | (simp; omega))).trans hS.2.1, (World.cell?_alloc_lt _ _ _ (by show lb < _; first | omega | (simp; omega))).trans hS.2.2⟩) (fun hS => ?_)
                clear hK K
                obtain ⟨Z, hZ⟩ : ∃ Z, Z = ((wr.alloc (.cells (wordsV (wordsOf legP)) 9)).alloc (.cells (([l.1, l.2].map (Value.int .i64)).toArray) 3)).drew := ⟨_, rfl⟩
                have hZ1 : Z.heap[wr.heap.size]? = some (.cells (wordsV (wordsOf legP)) 9 (0, 0)) := by rw [hZ]; exact (Below.heap_alloc _ _ _ (by simp)).trans (heap_alloc_new _ _)
                have hZ2 : Z.heap[wr.heap.size + 1]? = some (.cells (([l.1, l.2].map (Value.int .i64)).toArray) 3 (0, 0)) := by rw [hZ]; exact heap_alloc_at _ _ _ (by simp)
                have hZb : Below wr.heap.size wr Z := by rw [hZ]; exact (((Below.refl _ _).alloc (Nat.le_refl _) _).alloc (by simp) _).drew
                rw [show ((wr.alloc (.cells #[.string ⟨#[108, 101, 103]⟩, .string ⟨#[]⟩, .string ⟨#[]⟩] 9)).alloc (.cells #[.int .i64 l.1, .int .i64 l.2] 3)).drew = Z from hZ.symm] at hS ⊢
                have HL := Lib.hid (line_at legP [l.1, l.2] (wr.heap.size) (wr.heap.size + 1) 3 2 Z hZ1 hZ2 rfl rfl (by decide) rfl okw_leg (fun n hn => by simp at hn; rcases hn with rfl | rfl <;> assumption))
                have hzs := hZb.size
                clear hZ hZ1 hZ2
                refine wpAnyH_ready (rs := [15]) (by kernel_rfl) (by simp) (AllReadyH.cons rfl (fun K hK => ?_) AllReadyH.nil)
                go_simp
                refine HL.out.mono ?_
                rintro e Y ⟨rfl, hbY⟩
                refine hK.out _ _ (⟨(hbY.block _ (heap_lt hS.1)).trans hS.1, (hbY.cell (p := ⟨lb, loff + k * 2, none⟩) (by show lb < _; omega)).trans hS.2.1, (hbY.cell (p := ⟨lb, loff + k * 2 + 1, none⟩) (by show lb < _; omega)).trans hS.2.2⟩) (fun hS => ?_)
                clear hK K
                refine wpAnyH_ready (rs := [16]) (by kernel_rfl) (by simp) (AllReadyH.cons rfl (fun K hK => ?_) AllReadyH.nil)
                go_simp
                rw [if_neg (by show ¬ _ < _; unfold legL at hT1; (try simp only [List.length_append]); omega)]
                go_simp
                refine hK.out _ _ (hS) (fun hS => ?_)
                clear hK K
                refine wpAnyH_ready (rs := [17]) (by kernel_rfl) (by simp) (AllReadyH.cons rfl (fun K hK => ?_) AllReadyH.nil)
                go_simp
                refine hK.out _ _ (hS) (fun hS => ?_)
                clear hK K
                refine wpAnyH_done (by kernel_rfl) ?_ _
                go_wp2_with fail
                exact ⟨⟨k + 1, by omega, by go_num, by rw [HCU.out]; unfold legL; first | rfl | rw [List.append_assoc], HBi.out.trans ((hZb.trans (hbY.mono hzs)).mono si2)⟩, by simp [intOf]; omega⟩
              case bB14 =>
                go_simp
                refine hK.out _ _ (⟨(Below.heap_alloc _ _ _ (heap_lt hS.1)).trans hS.1, (World.cell?_alloc_lt _ _ _ (by show lb < _; first | omega | (simp; omega))).trans hS.2.1, (World.cell?_alloc_lt _ _ _ (by show lb < _; first | omega | (simp; omega))).trans hS.2.2⟩) (fun hS => ?_)
                clear hK K
                refine wpAnyH_ready (rs := [1]) (by kernel_rfl) (by simp) (AllReadyH.cons rfl (fun K hK => ?_) AllReadyH.nil)
                go_simp
                refine hK.out _ _ (⟨(Below.heap_alloc _ _ _ (heap_lt hS.1)).trans hS.1, (World.cell?_alloc_lt _ _ _ (by show lb < _; first | omega | (simp; omega))).trans hS.2.1, (World.cell?_alloc_lt _ _ _ (by show lb < _; first | omega | (simp; omega))).trans hS.2.2⟩) (fun hS => ?_)
                clear hK K
                obtain ⟨Z, hZ⟩ : ∃ Z, Z = ((wr.alloc (.cells (([l.1, l.2].map (Value.int .i64)).toArray) 3)).alloc (.cells (wordsV (wordsOf legP)) 9)).drew := ⟨_, rfl⟩
                have hZ1 : Z.heap[wr.heap.size + 1]? = some (.cells (wordsV (wordsOf legP)) 9 (0, 0)) := by rw [hZ]; exact heap_alloc_at _ _ _ (by simp)
                have hZ2 : Z.heap[wr.heap.size]? = some (.cells (([l.1, l.2].map (Value.int .i64)).toArray) 3 (0, 0)) := by rw [hZ]; exact (Below.heap_alloc _ _ _ (by simp)).trans (heap_alloc_new _ _)
                have hZb : Below wr.heap.size wr Z := by rw [hZ]; exact (((Below.refl _ _).alloc (Nat.le_refl _) _).alloc (by simp) _).drew
                rw [show ((wr.alloc (.cells #[.int .i64 l.1, .int .i64 l.2] 3)).alloc (.cells #[.string ⟨#[108, 101, 103]⟩, .string ⟨#[]⟩, .string ⟨#[]⟩] 9)).drew = Z from hZ.symm] at hS ⊢
                have HL := Lib.hid (line_at legP [l.1, l.2] (wr.heap.size + 1) (wr.heap.size) 3 2 Z hZ1 hZ2 rfl rfl (by decide) rfl okw_leg (fun n hn => by simp at hn; rcases hn with rfl | rfl <;> assumption))
                have hzs := hZb.size
                clear hZ hZ1 hZ2
                refine wpAnyH_ready (rs := [15]) (by kernel_rfl) (by simp) (AllReadyH.cons rfl (fun K hK => ?_) AllReadyH.nil)
                go_simp
                refine HL.out.mono ?_
                rintro e Y ⟨rfl, hbY⟩
                refine hK.out _ _ (⟨(hbY.block _ (heap_lt hS.1)).trans hS.1, (hbY.cell (p := ⟨lb, loff + k * 2, none⟩) (by show lb < _; omega)).trans hS.2.1, (hbY.cell (p := ⟨lb, loff + k * 2 + 1, none⟩) (by show lb < _; omega)).trans hS.2.2⟩) (fun hS => ?_)
                clear hK K
                refine wpAnyH_ready (rs := [16]) (by kernel_rfl) (by simp) (AllReadyH.cons rfl (fun K hK => ?_) AllReadyH.nil)
                go_simp
                rw [if_neg (by show ¬ _ < _; unfold legL at hT1; (try simp only [List.length_append]); omega)]
                go_simp
                refine hK.out _ _ (hS) (fun hS => ?_)
                clear hK K
                refine wpAnyH_ready (rs := [17]) (by kernel_rfl) (by simp) (AllReadyH.cons rfl (fun K hK => ?_) AllReadyH.nil)
                go_simp
                refine hK.out _ _ (hS) (fun hS => ?_)
                clear hK K
                refine wpAnyH_done (by kernel_rfl) ?_ _
                go_wp2_with fail
                exact ⟨⟨k + 1, by omega, by go_num, by rw [HCU.out]; unfold legL; first | rfl | rw [List.append_assoc], HBi.out.trans ((hZb.trans (hbY.mono hzs)).mono si2)⟩, by simp [intOf]; omega⟩
            · obtain rfl : k = c.lg.length := by omega
              have hkI : ¬ (c.lg.length : Int) < (c.lg.length : Int) := by omega
              have HE : Hid (txU x n ++ crU c c.lg.length = txU x (n + 1)) := Lib.hid (by rw [HTX.out, crU_all c (Nat.le_refl _)])
              rw [HE.out]
              go_wp2_with fail
              exact ⟨⟨n + 1, by omega, by go_num, rfl, Bo.out.trans (HBi.out.mono (by omega))⟩, by simp [intOf]; omega⟩
      · obtain rfl : n = x.cs.length := by omega
        have hltI : ¬ (x.cs.length : Int) < (x.cs.length : Int) := by omega
        rw [txU_all x (Nat.le_refl _)]
        go_wp2_with fail
        go_ret2
        exact ⟨by rw [HF.out]; rfl, BW.out⟩
  · have HF : Hid (foE x = ([], chE x)) := Lib.hid (by unfold foE; rw [if_pos hch])
    have hcb : (chE x != 0) = true := by simpa using hch
    clear hch
    go_enter Tryz.func14, Tryz.ntmps14
    go_wp2_with fail
    refine (check20 x A cap _ ((HC.out.below ((Below.refl _ _).alloc (Nat.le_refl _) _)).mono (by simp))).mono ?_
    rintro e w1 ⟨rfl, hb1⟩
    go_wp2_with fail
    go_ret2
    exact ⟨by rw [HF.out]; rfl, ((Below.refl _ _).alloc (Nat.le_refl _) _).trans (hb1.mono (by simp))⟩
end Go.Proofs.YtnnnpliigdfipaaGreatDoor
