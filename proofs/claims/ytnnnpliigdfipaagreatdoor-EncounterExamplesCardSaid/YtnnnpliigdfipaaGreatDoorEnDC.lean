/- encounter: Same, of two equal encounters. -/
import Derived.Test.YtnnnpliigdfipaaGreatDoorRows
import Derived.WalkKit
import Derived.WalkLawsBesides
import Derived.WalkSpells
import Derived.ProofKit
import Derived.Below
import Derived.Outline
import Derived.Lib.Hide
import Derived.Deep.RegionWith
import Derived.Deep.RegionHeld3
import Derived.Deep.DrawnRows
import Derived.StillTailTactics
import Derived.BigQuiet
import Derived.Deep.QuietTactic
import Derived.Deep.LoopGhost
import Derived.IntWalk
import Derived.Test.YtnnnpliigdfipaaGreatDoorEnDA
import Derived.Test.YtnnnpliigdfipaaGreatDoorRC
namespace Go.Proofs.YtnnnpliigdfipaaGreatDoor
open Go.RowKit
attribute [local go_sem ↓] Go.wp_at_zero Go.wp_at_succ
attribute [local go_sem] wrap_lit
/-- two boxes with one aircraft -/
def Two (c : Cr) (LA LA' : Option Addr) (lcap lcap' : Nat) (wr : World) (s6 s7 : Value) (wx : World) : Prop :=
  ∃ p q : Nat, s6 = .pointer (some ⟨p, 0, none⟩) ∧ s7 = .pointer (some ⟨q, 0, none⟩) ∧ wx.heap[p]? = some (.cells #[.int .i64 c.ad, .int .i64 c.p.x, .int .i64 c.p.y, .int .i64 c.p.z, .int .i64 c.v.x, .int .i64 c.v.y, .int .i64 c.v.z, .int .i64 c.pu, .slice LA c.lg.length lcap, .int .u8 c.mo, .int .i64 c.de, .int .i64 c.pp, .int .i64 c.mi] 63 (0, 0)) ∧ wx.heap[q]? = some (.cells #[.int .i64 c.ad, .int .i64 c.p.x, .int .i64 c.p.y, .int .i64 c.p.z, .int .i64 c.v.x, .int .i64 c.v.y, .int .i64 c.v.z, .int .i64 c.pu, .slice LA' c.lg.length lcap', .int .u8 c.mo, .int .i64 c.de, .int .i64 c.pp, .int .i64 c.mi] 63 (0, 0)) ∧ Below wr.heap.size wr wx
set_option maxRecDepth 100000 in
set_option maxHeartbeats 4000000 in
theorem same17 (x : En) (A A' : Option Addr) (cap cap' : Nat) (w : World) (hc : InCr w w.heap.size A x.cs) (hc' : InCr w w.heap.size A' x.cs) (hN : x.cs.length ≤ 1000) (hG : ∀ c ∈ x.cs, c.lg.length ≤ 1000) :
    Calls Tryz.prog 17 #[.agg #[.int .i64 x.cy, .int .i64 x.gr, .slice A x.cs.length cap], .agg #[.int .i64 x.cy, .int .i64 x.gr, .slice A' x.cs.length cap']] w fun e w' => e = .returned (.bool true) ∧ Below w.heap.size w w' := by
  have HC := Lib.hid hc
  have HC' := Lib.hid hc'
  have HG := Lib.hid hG
  clear hc hc' hG
  go_enter Tryz.func17, Tryz.ntmps17
  go_wp2_with fail
  obtain ⟨W0, hW0⟩ : ∃ W0, W0 = (w.alloc (.cells #[.int .i64 x.cy, .int .i64 x.gr, .slice A x.cs.length cap] 24)).alloc (.cells #[.int .i64 x.cy, .int .i64 x.gr, .slice A' x.cs.length cap'] 24) := ⟨_, rfl⟩
  have hB0 : Hid (Below w.heap.size w W0) := Lib.hid (by rw [hW0]; exact ((Below.refl _ _).alloc (Nat.le_refl _) _).alloc (by simp) _)
  have hX0 : Hid (W0.heap[w.heap.size]? = some (.cells #[.int .i64 x.cy, .int .i64 x.gr, .slice A x.cs.length cap] 24 (0, 0))) := Lib.hid (by rw [hW0]; exact (Below.heap_alloc _ _ _ (by simp)).trans (heap_alloc_new _ _))
  have hY0 : Hid (W0.heap[w.heap.size + 1]? = some (.cells #[.int .i64 x.cy, .int .i64 x.gr, .slice A' x.cs.length cap'] 24 (0, 0))) := Lib.hid (by rw [hW0]; exact heap_alloc_at _ _ _ (by simp))
  have hS0 : W0.heap.size = w.heap.size + 2 := by rw [hW0]; simp
  rw [← hW0]
  clear hW0
  go_loopw [5] (fun v wr => ∃ k : Nat, k ≤ x.cs.length ∧ v = .int .i64 k ∧ Below W0.heap.size W0 wr) (fun v _ => x.cs.length - (intOf v).toNat)
  case atStart => exact ⟨0, Nat.zero_le _, rfl, Below.refl _ _⟩
  case round =>
    obtain ⟨k, hk, rfl, hb⟩ := hrel
    have hX := (hb.block _ (by omega)).trans hX0.out
    have hY := (hb.block _ (by omega)).trans hY0.out
    have x2 : wr.cell? ⟨w.heap.size, 2, none⟩ = some (.slice A x.cs.length cap) := by simp [World.cell?, hX]
    have HB := Lib.hid hb
    have hsz := hb.size
    have hBw : Below w.heap.size w wr := hB0.out.trans (hb.mono (by omega))
    by_cases hlt : k < x.cs.length
    · obtain ⟨c, hci⟩ : ∃ c, x.cs[k]? = some c := ⟨_, List.getElem?_eq_getElem hlt⟩
      obtain ⟨b0, off, rfl, hb0, hcr⟩ := HC.out (by omega)
      obtain ⟨LA, lcap, hat, hlg⟩ := hcr k c hci
      obtain ⟨b1, off1, rfl, hb1, hcr1⟩ := HC'.out (by omega)
      obtain ⟨LA', lcap', hat1, hlg1⟩ := hcr1 k c hci
      have HAT := Lib.hid (hat.below hBw hb0)
      have HAT1 := Lib.hid (hat1.below hBw hb1)
      have HLG := Lib.hid (hlg.below hBw)
      have HLG1 := Lib.hid (hlg1.below hBw)
      have HX := Lib.hid hX
      have HY := Lib.hid hY
      have hcl := HG.out c (List.mem_of_getElem? hci)
      have hkI : (k : Int) < (x.cs.length : Int) := by omega
      clear hcr hcr1 hat hat1 hlg hlg1 hX hY hb hci
      go_wp2_with fail
      clear x2
      go_cut [6, 7] (fun s6 s7 wx => Two c LA LA' lcap lcap' wr s6 s7 wx)
      case first =>
       refine wp_region_held_drew (S := fun w' => Below wr.heap.size wr w') (by kernel_rfl) (Below.refl _ _).drew (fun hS => ?_)
       refine wpAnyH_take (i := 0) (v := ?v0) rfl (by kernel_rfl) (by kernel_rfl) (by kernel_rfl) (fun _ _ _ h => h) (Or.inl ⟨by rfl, ?h0⟩) hS ?r0
       case h0 =>
         intro w1 hSw
         have hXw := (hSw.block _ (by omega)).trans HX.out
         have hYw := (hSw.block _ (by omega)).trans HY.out
         have z2 : w1.cell? ⟨w.heap.size, 2, none⟩ = some (.slice (some ⟨b0, off, none⟩) x.cs.length cap) := by simp [World.cell?, hXw]
         have z3 : w1.cell? ⟨w.heap.size + 1, 2, none⟩ = some (.slice (some ⟨b1, off1, none⟩) x.cs.length cap') := by simp [World.cell?, hYw]
         obtain ⟨c0, c1, c2, c3, c4, c5, c6, c7, c8, c9, c10, c11, c12⟩ := HAT.out.below hSw (by omega)
         obtain ⟨d0, d1, d2, d3, d4, d5, d6, d7, d8, d9, d10, d11, d12⟩ := HAT1.out.below hSw (by omega)
         clear hSw hXw hYw
         go_simp
         try with_reducible rfl
       (try simp only [Act.put])
       refine wpAnyH_take (i := 1) (v := ?v1) rfl (by kernel_rfl) (by kernel_rfl) (by kernel_rfl) (fun _ _ _ h => h) (Or.inl ⟨by rfl, ?h1⟩) hS ?r1
       case h1 =>
         intro w1 hSw
         have hXw := (hSw.block _ (by omega)).trans HX.out
         have hYw := (hSw.block _ (by omega)).trans HY.out
         have z2 : w1.cell? ⟨w.heap.size, 2, none⟩ = some (.slice (some ⟨b0, off, none⟩) x.cs.length cap) := by simp [World.cell?, hXw]
         have z3 : w1.cell? ⟨w.heap.size + 1, 2, none⟩ = some (.slice (some ⟨b1, off1, none⟩) x.cs.length cap') := by simp [World.cell?, hYw]
         obtain ⟨c0, c1, c2, c3, c4, c5, c6, c7, c8, c9, c10, c11, c12⟩ := HAT.out.below hSw (by omega)
         obtain ⟨d0, d1, d2, d3, d4, d5, d6, d7, d8, d9, d10, d11, d12⟩ := HAT1.out.below hSw (by omega)
         clear hSw hXw hYw
         go_simp
         try with_reducible rfl
       (try simp only [Act.put])
       refine wpAnyH_take (i := 2) (v := ?v2) rfl (by kernel_rfl) (by kernel_rfl) (by kernel_rfl) (fun _ _ _ h => h) (Or.inl ⟨by rfl, ?h2⟩) hS ?r2
       case h2 =>
         intro w1 hSw
         have hXw := (hSw.block _ (by omega)).trans HX.out
         have hYw := (hSw.block _ (by omega)).trans HY.out
         have z2 : w1.cell? ⟨w.heap.size, 2, none⟩ = some (.slice (some ⟨b0, off, none⟩) x.cs.length cap) := by simp [World.cell?, hXw]
         have z3 : w1.cell? ⟨w.heap.size + 1, 2, none⟩ = some (.slice (some ⟨b1, off1, none⟩) x.cs.length cap') := by simp [World.cell?, hYw]
         obtain ⟨c0, c1, c2, c3, c4, c5, c6, c7, c8, c9, c10, c11, c12⟩ := HAT.out.below hSw (by omega)
         obtain ⟨d0, d1, d2, d3, d4, d5, d6, d7, d8, d9, d10, d11, d12⟩ := HAT1.out.below hSw (by omega)
         clear hSw hXw hYw
         go_simp
         try with_reducible rfl
       (try simp only [Act.put])
       refine wpAnyH_take (i := 3) (v := ?v3) rfl (by kernel_rfl) (by kernel_rfl) (by kernel_rfl) (fun _ _ _ h => h) (Or.inl ⟨by rfl, ?h3⟩) hS ?r3
       case h3 =>
         intro w1 hSw
         have hXw := (hSw.block _ (by omega)).trans HX.out
         have hYw := (hSw.block _ (by omega)).trans HY.out
         have z2 : w1.cell? ⟨w.heap.size, 2, none⟩ = some (.slice (some ⟨b0, off, none⟩) x.cs.length cap) := by simp [World.cell?, hXw]
         have z3 : w1.cell? ⟨w.heap.size + 1, 2, none⟩ = some (.slice (some ⟨b1, off1, none⟩) x.cs.length cap') := by simp [World.cell?, hYw]
         obtain ⟨c0, c1, c2, c3, c4, c5, c6, c7, c8, c9, c10, c11, c12⟩ := HAT.out.below hSw (by omega)
         obtain ⟨d0, d1, d2, d3, d4, d5, d6, d7, d8, d9, d10, d11, d12⟩ := HAT1.out.below hSw (by omega)
         clear hSw hXw hYw
         go_simp
         try with_reducible rfl
       (try simp only [Act.put])
       refine wpAnyH_take (i := 4) (v := ?v4) rfl (by kernel_rfl) (by kernel_rfl) (by kernel_rfl) (fun _ _ _ h => h) (Or.inl ⟨by rfl, ?h4⟩) hS ?r4
       case h4 =>
         intro w1 hSw
         have hXw := (hSw.block _ (by omega)).trans HX.out
         have hYw := (hSw.block _ (by omega)).trans HY.out
         have z2 : w1.cell? ⟨w.heap.size, 2, none⟩ = some (.slice (some ⟨b0, off, none⟩) x.cs.length cap) := by simp [World.cell?, hXw]
         have z3 : w1.cell? ⟨w.heap.size + 1, 2, none⟩ = some (.slice (some ⟨b1, off1, none⟩) x.cs.length cap') := by simp [World.cell?, hYw]
         obtain ⟨c0, c1, c2, c3, c4, c5, c6, c7, c8, c9, c10, c11, c12⟩ := HAT.out.below hSw (by omega)
         obtain ⟨d0, d1, d2, d3, d4, d5, d6, d7, d8, d9, d10, d11, d12⟩ := HAT1.out.below hSw (by omega)
         clear hSw hXw hYw
         go_simp
         try with_reducible rfl
       (try simp only [Act.put])
       refine wpAnyH_take (i := 5) (v := ?v5) rfl (by kernel_rfl) (by kernel_rfl) (by kernel_rfl) (fun _ _ _ h => h) (Or.inl ⟨by rfl, ?h5⟩) hS ?r5
       case h5 =>
         intro w1 hSw
         have hXw := (hSw.block _ (by omega)).trans HX.out
         have hYw := (hSw.block _ (by omega)).trans HY.out
         have z2 : w1.cell? ⟨w.heap.size, 2, none⟩ = some (.slice (some ⟨b0, off, none⟩) x.cs.length cap) := by simp [World.cell?, hXw]
         have z3 : w1.cell? ⟨w.heap.size + 1, 2, none⟩ = some (.slice (some ⟨b1, off1, none⟩) x.cs.length cap') := by simp [World.cell?, hYw]
         obtain ⟨c0, c1, c2, c3, c4, c5, c6, c7, c8, c9, c10, c11, c12⟩ := HAT.out.below hSw (by omega)
         obtain ⟨d0, d1, d2, d3, d4, d5, d6, d7, d8, d9, d10, d11, d12⟩ := HAT1.out.below hSw (by omega)
         clear hSw hXw hYw
         go_simp
         try with_reducible rfl
       (try simp only [Act.put])
       refine wpAnyH_take (i := 6) (v := ?v6) rfl (by kernel_rfl) (by kernel_rfl) (by kernel_rfl) (fun _ _ _ h => h) (Or.inl ⟨by rfl, ?h6⟩) hS ?r6
       case h6 =>
         intro w1 hSw
         have hXw := (hSw.block _ (by omega)).trans HX.out
         have hYw := (hSw.block _ (by omega)).trans HY.out
         have z2 : w1.cell? ⟨w.heap.size, 2, none⟩ = some (.slice (some ⟨b0, off, none⟩) x.cs.length cap) := by simp [World.cell?, hXw]
         have z3 : w1.cell? ⟨w.heap.size + 1, 2, none⟩ = some (.slice (some ⟨b1, off1, none⟩) x.cs.length cap') := by simp [World.cell?, hYw]
         obtain ⟨c0, c1, c2, c3, c4, c5, c6, c7, c8, c9, c10, c11, c12⟩ := HAT.out.below hSw (by omega)
         obtain ⟨d0, d1, d2, d3, d4, d5, d6, d7, d8, d9, d10, d11, d12⟩ := HAT1.out.below hSw (by omega)
         clear hSw hXw hYw
         go_simp
         try with_reducible rfl
       (try simp only [Act.put])
       refine wpAnyH_take (i := 7) (v := ?v7) rfl (by kernel_rfl) (by kernel_rfl) (by kernel_rfl) (fun _ _ _ h => h) (Or.inl ⟨by rfl, ?h7⟩) hS ?r7
       case h7 =>
         intro w1 hSw
         have hXw := (hSw.block _ (by omega)).trans HX.out
         have hYw := (hSw.block _ (by omega)).trans HY.out
         have z2 : w1.cell? ⟨w.heap.size, 2, none⟩ = some (.slice (some ⟨b0, off, none⟩) x.cs.length cap) := by simp [World.cell?, hXw]
         have z3 : w1.cell? ⟨w.heap.size + 1, 2, none⟩ = some (.slice (some ⟨b1, off1, none⟩) x.cs.length cap') := by simp [World.cell?, hYw]
         obtain ⟨c0, c1, c2, c3, c4, c5, c6, c7, c8, c9, c10, c11, c12⟩ := HAT.out.below hSw (by omega)
         obtain ⟨d0, d1, d2, d3, d4, d5, d6, d7, d8, d9, d10, d11, d12⟩ := HAT1.out.below hSw (by omega)
         clear hSw hXw hYw
         go_simp
         try with_reducible rfl
       (try simp only [Act.put])
       refine wpAnyH_take (i := 8) (v := ?v8) rfl (by kernel_rfl) (by kernel_rfl) (by kernel_rfl) (fun _ _ _ h => h) (Or.inl ⟨by rfl, ?h8⟩) hS ?r8
       case h8 =>
         intro w1 hSw
         have hXw := (hSw.block _ (by omega)).trans HX.out
         have hYw := (hSw.block _ (by omega)).trans HY.out
         have z2 : w1.cell? ⟨w.heap.size, 2, none⟩ = some (.slice (some ⟨b0, off, none⟩) x.cs.length cap) := by simp [World.cell?, hXw]
         have z3 : w1.cell? ⟨w.heap.size + 1, 2, none⟩ = some (.slice (some ⟨b1, off1, none⟩) x.cs.length cap') := by simp [World.cell?, hYw]
         obtain ⟨c0, c1, c2, c3, c4, c5, c6, c7, c8, c9, c10, c11, c12⟩ := HAT.out.below hSw (by omega)
         obtain ⟨d0, d1, d2, d3, d4, d5, d6, d7, d8, d9, d10, d11, d12⟩ := HAT1.out.below hSw (by omega)
         clear hSw hXw hYw
         go_simp
         try with_reducible rfl
       (try simp only [Act.put])
       refine wpAnyH_take (i := 9) (v := ?v9) rfl (by kernel_rfl) (by kernel_rfl) (by kernel_rfl) (fun _ _ _ h => h) (Or.inl ⟨by rfl, ?h9⟩) hS ?r9
       case h9 =>
         intro w1 hSw
         have hXw := (hSw.block _ (by omega)).trans HX.out
         have hYw := (hSw.block _ (by omega)).trans HY.out
         have z2 : w1.cell? ⟨w.heap.size, 2, none⟩ = some (.slice (some ⟨b0, off, none⟩) x.cs.length cap) := by simp [World.cell?, hXw]
         have z3 : w1.cell? ⟨w.heap.size + 1, 2, none⟩ = some (.slice (some ⟨b1, off1, none⟩) x.cs.length cap') := by simp [World.cell?, hYw]
         obtain ⟨c0, c1, c2, c3, c4, c5, c6, c7, c8, c9, c10, c11, c12⟩ := HAT.out.below hSw (by omega)
         obtain ⟨d0, d1, d2, d3, d4, d5, d6, d7, d8, d9, d10, d11, d12⟩ := HAT1.out.below hSw (by omega)
         clear hSw hXw hYw
         go_simp
         try with_reducible rfl
       (try simp only [Act.put])
       refine wpAnyH_ready (rs := [10, 11]) (by kernel_rfl) (by simp) (AllReadyH.cons rfl (fun K hK => ?a1) (AllReadyH.cons rfl (fun K hK => ?a2) AllReadyH.nil))
       case a1 =>
         go_simp
         refine hK.out _ _ (hS.alloc (by have := hS.size; omega) _) (fun hS => ?_)
         clear hK K
         refine wpAnyH_ready (rs := [11]) (by kernel_rfl) (by simp) (AllReadyH.cons rfl (fun K hK => ?_) AllReadyH.nil)
         go_simp
         refine hK.out _ _ (hS.alloc (by have := hS.size; omega) _) (fun hS => ?_)
         clear hK K
         refine wpAnyH_ready (rs := [12]) (by kernel_rfl) (by simp) (AllReadyH.cons rfl (fun K hK => ?_) AllReadyH.nil)
         go_simp
         refine hK.out _ _ (((Below.refl _ _).alloc (Nat.le_refl _) _).alloc (by simp) _).drew (fun hS => ?_)
         clear hK K
         refine wpAnyH_ready (rs := [13]) (by kernel_rfl) (by simp) (AllReadyH.cons rfl (fun K hK => ?_) AllReadyH.nil)
         go_simp
         refine hK.out _ _ (((Below.refl _ _).alloc (Nat.le_refl _) _).alloc (by simp) _).drew (fun _ => ?_)
         clear hK K
         refine wpAnyH_done (by kernel_rfl) ?_ _
         go_wp2_with fail
         go_meet
         exact ⟨wr.heap.size, wr.heap.size + 1, rfl, rfl, (Below.heap_alloc _ _ _ (by simp)).trans (heap_alloc_new _ _), heap_alloc_at _ _ _ (by simp), (((Below.refl _ _).alloc (Nat.le_refl _) _).alloc (by simp) _).drew⟩
       case a2 =>
         go_simp
         refine hK.out _ _ (hS.alloc (by have := hS.size; omega) _) (fun hS => ?_)
         clear hK K
         refine wpAnyH_ready (rs := [10]) (by kernel_rfl) (by simp) (AllReadyH.cons rfl (fun K hK => ?_) AllReadyH.nil)
         go_simp
         refine hK.out _ _ (hS.alloc (by have := hS.size; omega) _) (fun hS => ?_)
         clear hK K
         refine wpAnyH_ready (rs := [12]) (by kernel_rfl) (by simp) (AllReadyH.cons rfl (fun K hK => ?_) AllReadyH.nil)
         go_simp
         refine hK.out _ _ (((Below.refl _ _).alloc (Nat.le_refl _) _).alloc (by simp) _).drew (fun hS => ?_)
         clear hK K
         refine wpAnyH_ready (rs := [13]) (by kernel_rfl) (by simp) (AllReadyH.cons rfl (fun K hK => ?_) AllReadyH.nil)
         go_simp
         refine hK.out _ _ (((Below.refl _ _).alloc (Nat.le_refl _) _).alloc (by simp) _).drew (fun _ => ?_)
         clear hK K
         refine wpAnyH_done (by kernel_rfl) ?_ _
         go_wp2_with fail
         go_meet
         exact ⟨wr.heap.size + 1, wr.heap.size, rfl, rfl, heap_alloc_at _ _ _ (by simp), (Below.heap_alloc _ _ _ (by simp)).trans (heap_alloc_new _ _), (((Below.refl _ _).alloc (Nat.le_refl _) _).alloc (by simp) _).drew⟩
      case rest =>
        obtain ⟨p, q, rfl, rfl, hp, hq, hbx⟩ := hcut
        have hX := (hbx.block _ (by omega)).trans HX.out
        have x2 : wc.cell? ⟨w.heap.size, 2, none⟩ = some (.slice (some ⟨b0, off, none⟩) x.cs.length cap) := by simp [World.cell?, hX]
        have p0 : wc.cell? ⟨p, 0, none⟩ = some (.int .i64 c.ad) := by simp [World.cell?, hp]
        have q0 : wc.cell? ⟨q, 0, none⟩ = some (.int .i64 c.ad) := by simp [World.cell?, hq]
        have p1 : wc.cell? ⟨p, 1, none⟩ = some (.int .i64 c.p.x) := by simp [World.cell?, hp]
        have q1 : wc.cell? ⟨q, 1, none⟩ = some (.int .i64 c.p.x) := by simp [World.cell?, hq]
        have p2 : wc.cell? ⟨p, 2, none⟩ = some (.int .i64 c.p.y) := by simp [World.cell?, hp]
        have q2 : wc.cell? ⟨q, 2, none⟩ = some (.int .i64 c.p.y) := by simp [World.cell?, hq]
        have p3 : wc.cell? ⟨p, 3, none⟩ = some (.int .i64 c.p.z) := by simp [World.cell?, hp]
        have q3 : wc.cell? ⟨q, 3, none⟩ = some (.int .i64 c.p.z) := by simp [World.cell?, hq]
        have p4 : wc.cell? ⟨p, 4, none⟩ = some (.int .i64 c.v.x) := by simp [World.cell?, hp]
        have q4 : wc.cell? ⟨q, 4, none⟩ = some (.int .i64 c.v.x) := by simp [World.cell?, hq]
        have p5 : wc.cell? ⟨p, 5, none⟩ = some (.int .i64 c.v.y) := by simp [World.cell?, hp]
        have q5 : wc.cell? ⟨q, 5, none⟩ = some (.int .i64 c.v.y) := by simp [World.cell?, hq]
        have p6 : wc.cell? ⟨p, 6, none⟩ = some (.int .i64 c.v.z) := by simp [World.cell?, hp]
        have q6 : wc.cell? ⟨q, 6, none⟩ = some (.int .i64 c.v.z) := by simp [World.cell?, hq]
        have p7 : wc.cell? ⟨p, 7, none⟩ = some (.int .i64 c.pu) := by simp [World.cell?, hp]
        have q7 : wc.cell? ⟨q, 7, none⟩ = some (.int .i64 c.pu) := by simp [World.cell?, hq]
        have p8 : wc.cell? ⟨p, 8, none⟩ = some (.slice LA c.lg.length lcap) := by simp [World.cell?, hp]
        have q8 : wc.cell? ⟨q, 8, none⟩ = some (.slice LA' c.lg.length lcap') := by simp [World.cell?, hq]
        have p9 : wc.cell? ⟨p, 9, none⟩ = some (.int .u8 c.mo) := by simp [World.cell?, hp]
        have q9 : wc.cell? ⟨q, 9, none⟩ = some (.int .u8 c.mo) := by simp [World.cell?, hq]
        have p10 : wc.cell? ⟨p, 10, none⟩ = some (.int .i64 c.de) := by simp [World.cell?, hp]
        have q10 : wc.cell? ⟨q, 10, none⟩ = some (.int .i64 c.de) := by simp [World.cell?, hq]
        have p11 : wc.cell? ⟨p, 11, none⟩ = some (.int .i64 c.pp) := by simp [World.cell?, hp]
        have q11 : wc.cell? ⟨q, 11, none⟩ = some (.int .i64 c.pp) := by simp [World.cell?, hq]
        have p12 : wc.cell? ⟨p, 12, none⟩ = some (.int .i64 c.mi) := by simp [World.cell?, hp]
        have q12 : wc.cell? ⟨q, 12, none⟩ = some (.int .i64 c.mi) := by simp [World.cell?, hq]
        have HBX := Lib.hid hbx
        have hsz2 := hbx.size
        have HLc := Lib.hid (HLG.out.below (hbx.mono (by omega)))
        have HLc1 := Lib.hid (HLG1.out.below (hbx.mono (by omega)))
        clear hX hp hq hbx HLG HLG1 HAT HAT1
        go_wp2_with fail
        go_loopw [8] (fun v wq => ∃ j : Nat, j ≤ c.lg.length ∧ v = .int .i64 j ∧ ∃ n, wq = wc.drewN n) (fun v _ => c.lg.length - (intOf v).toNat)
        case atStart => exact ⟨0, Nat.zero_le _, rfl, 0, rfl⟩
        case round =>
          obtain ⟨j, hj, rfl, n, rfl⟩ := hrel
          by_cases hlj : j < c.lg.length
          · obtain ⟨lb, lo, rfl, hlb, hl1⟩ := HLc.out (by rw [flat2_len]; omega)
            obtain ⟨lb', lo', rfl, hlb', hl2⟩ := HLc1.out (by rw [flat2_len]; omega)
            obtain ⟨l, hl⟩ : ∃ l, c.lg[j]? = some l := ⟨_, List.getElem?_eq_getElem hlj⟩
            have y0 := leg_cell0 hl1 hl
            have y1 := leg_cell1 hl1 hl
            have y2 := leg_cell0 hl2 hl
            have y3 := leg_cell1 hl2 hl
            have hjI : (j : Int) < (c.lg.length : Int) := by omega
            clear hl1 hl2 hl
            go_wp2_with fail
            go_quiet (fail)
            go_wp2_with fail
            exact ⟨⟨j + 1, by omega, by go_num, _, rfl⟩, by simp [intOf]; omega⟩
          · have hjI : ¬ (j : Int) < (c.lg.length : Int) := by omega
            go_wp2_with fail
            exact ⟨⟨k + 1, by omega, by go_num, below_drewN (HB.out.trans (HBX.out.mono (by omega))) _⟩, by simp [intOf]; omega⟩
    · have hkI : ¬ (k : Int) < (x.cs.length : Int) := by omega
      go_wp2_with fail
      go_ret
      exact ⟨rfl, hBw⟩
end Go.Proofs.YtnnnpliigdfipaaGreatDoor
