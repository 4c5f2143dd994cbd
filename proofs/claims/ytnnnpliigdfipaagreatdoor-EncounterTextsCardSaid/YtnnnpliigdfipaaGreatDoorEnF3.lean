/- EncounterTexts: the walk. -/
import Derived.Test.YtnnnpliigdfipaaGreatDoorRows
import Derived.WalkKit
import Derived.WalkLawsBesides
import Derived.WalkSpells
import Derived.ProofKit
import Derived.Below
import Derived.Outline
import Derived.Lib.Hide
import Derived.Deep.RegionWith
import Derived.Deep.RegionHeld3
import Derived.Deep.DrawnRows
import Derived.StillTailTactics
import Derived.BigQuiet
import Derived.Deep.QuietTactic
import Derived.Deep.LoopGhost
import Derived.IntWalk
import Derived.Lib.MinMax
import Derived.OrdersHeld
import Derived.Test.YtnnnpliigdfipaaGreatDoorEnF1
import Derived.Test.YtnnnpliigdfipaaGreatDoorEnHC
import Derived.Test.YtnnnpliigdfipaaGreatDoorEnHI
import Derived.Test.YtnnnpliigdfipaaGreatDoorEnHJ
namespace Go.Proofs.YtnnnpliigdfipaaGreatDoor
open Go.RowKit
attribute [local go_sem ↓] Go.wp_at_zero Go.wp_at_succ
attribute [local go_sem] wrap_lit
set_option maxRecDepth 100000 in
set_option maxHeartbeats 4000000 in
theorem texts3 (x : En) (A : Option Addr) (cap : Nat) (s : Tx) (w : World) (E : Env 8 w) (h8 : 8 ≤ w.heap.size) (hc : InCr w w.heap.size A x.cs) (hN : x.cs.length ≤ maxLen) (hmo : ∀ c ∈ x.cs, 0 ≤ c.mo) :
    Calls Tryz.prog 3 #[.agg #[.int .i64 x.cy, .int .i64 x.gr, .slice A x.cs.length cap], .string (S s)] w fun e w' => e = .returned (.bool true) ∧ Below w.heap.size w w' := by
  have Ew := Lib.hid E
  have Iw := Lib.hid hc
  have HMO := Lib.hid hmo
  clear E hc hmo
  go_enter Tryz.func3, Tryz.ntmps3
  have LG := Lib.hid (fun w' hc => long10 x A cap w' hc hN)
  clear hN
  go_wp2_with fail
  obtain ⟨w0, hw0⟩ : ∃ w0, w0 = w.alloc (.cells #[.int .i64 x.cy, .int .i64 x.gr, .slice A x.cs.length cap] 24) := ⟨_, rfl⟩
  have bw0 : Below w.heap.size w w0 := by rw [hw0]; exact (Below.refl _ _).alloc (Nat.le_refl _) _
  have nw0 : w0.heap[w.heap.size]? = some (.cells #[.int .i64 x.cy, .int .i64 x.gr, .slice A x.cs.length cap] 24 (0, 0)) := by rw [hw0]; exact heap_alloc_new _ _
  have Bw0 : Hid (Below w.heap.size w w0) := Lib.hid ((bw0))
  have mw0 : w.heap.size ≤ w0.heap.size := (bw0).size
  have Ew0 := Lib.hid (Ew.out.below ((bw0).mono (by omega)))
  have Iw0 := Lib.hid ((Iw.out.below (bw0)).mono (bw0).size)
  clear Ew Iw
  rw [← hw0]
  clear hw0 bw0
  have Xw0 := Lib.hid nw0
  clear nw0
  have Xc0w0 : w0.cell? ⟨w.heap.size, 0, none⟩ = some (.int .i64 x.cy) := by simp [World.cell?, Xw0.out]
  have Xc1w0 : w0.cell? ⟨w.heap.size, 1, none⟩ = some (.int .i64 x.gr) := by simp [World.cell?, Xw0.out]
  have Xc2w0 : w0.cell? ⟨w.heap.size, 2, none⟩ = some (.slice A x.cs.length cap) := by simp [World.cell?, Xw0.out]
  refine (LG.out w0 Iw0.out).mono ?_
  rintro e w1 ⟨rfl, hw1⟩
  have Bw1 := Lib.hid (Bw0.out.trans ((hw1).mono mw0))
  have mw1 : w.heap.size ≤ w1.heap.size := Nat.le_trans mw0 (hw1).size
  have Ew1 := Lib.hid (Ew0.out.below ((hw1).mono (by omega)))
  have Iw1 := Lib.hid ((Iw0.out.below (hw1)).mono (hw1).size)
  have Xw1 := Lib.hid (((hw1).block _ (heap_lt Xw0.out)).trans Xw0.out)
  clear Bw0 mw0 Ew0 Iw0 Xw0 Xc0w0 Xc1w0 Xc2w0
  have Xc0w1 : w1.cell? ⟨w.heap.size, 0, none⟩ = some (.int .i64 x.cy) := by simp [World.cell?, Xw1.out]
  have Xc1w1 : w1.cell? ⟨w.heap.size, 1, none⟩ = some (.int .i64 x.gr) := by simp [World.cell?, Xw1.out]
  have Xc2w1 : w1.cell? ⟨w.heap.size, 2, none⟩ = some (.slice A x.cs.length cap) := by simp [World.cell?, Xw1.out]
  clear hw1
  by_cases hlg : lgB x = true
  · go_wp2_with fail
    refine (awake11 8 w1 Ew1.out (by omega)).mono ?_
    rintro e v1 ⟨rfl, hv1⟩
    have Bv1 := Lib.hid (Bw1.out.trans ((hv1).mono mw1))
    have mv1 : w.heap.size ≤ v1.heap.size := Nat.le_trans mw1 (hv1).size
    have Ev1 := Lib.hid (Ew1.out.below ((hv1).mono (by omega)))
    have Iv1 := Lib.hid ((Iw1.out.below (hv1)).mono (hv1).size)
    have Xv1 := Lib.hid (((hv1).block _ (heap_lt Xw1.out)).trans Xw1.out)
    clear Bw1 mw1 Ew1 Iw1 Xw1 Xc0w1 Xc1w1 Xc2w1
    have Xc0v1 : v1.cell? ⟨w.heap.size, 0, none⟩ = some (.int .i64 x.cy) := by simp [World.cell?, Xv1.out]
    have Xc1v1 : v1.cell? ⟨w.heap.size, 1, none⟩ = some (.int .i64 x.gr) := by simp [World.cell?, Xv1.out]
    have Xc2v1 : v1.cell? ⟨w.heap.size, 2, none⟩ = some (.slice A x.cs.length cap) := by simp [World.cell?, Xv1.out]
    clear hv1
    go_wp2_with fail
    go_ret
    exact ⟨rfl, Bv1.out⟩
  have hlg' : lgB x = false := by cases h : lgB x <;> simp_all
  obtain ⟨hn12, hl30⟩ := lg_bd hlg'
  have HL30 := Lib.hid hl30
  have HL1000 : Hid (∀ c ∈ x.cs, c.lg.length ≤ 1000) := Lib.hid (fun c hc => Nat.le_trans (hl30 c hc) (by decide))
  clear hlg hl30 LG
  by_cases h6 : 6000 < s.length
  · have h6I : (6000 : Int) < (s.length : Int) := by omega
    go_wp2_with fail
    refine (awake11 8 w1 Ew1.out (by omega)).mono ?_
    rintro e v1 ⟨rfl, hv1⟩
    have Bv1 := Lib.hid (Bw1.out.trans ((hv1).mono mw1))
    have mv1 : w.heap.size ≤ v1.heap.size := Nat.le_trans mw1 (hv1).size
    have Ev1 := Lib.hid (Ew1.out.below ((hv1).mono (by omega)))
    have Iv1 := Lib.hid ((Iw1.out.below (hv1)).mono (hv1).size)
    have Xv1 := Lib.hid (((hv1).block _ (heap_lt Xw1.out)).trans Xw1.out)
    clear Bw1 mw1 Ew1 Iw1 Xw1 Xc0w1 Xc1w1 Xc2w1
    have Xc0v1 : v1.cell? ⟨w.heap.size, 0, none⟩ = some (.int .i64 x.cy) := by simp [World.cell?, Xv1.out]
    have Xc1v1 : v1.cell? ⟨w.heap.size, 1, none⟩ = some (.int .i64 x.gr) := by simp [World.cell?, Xv1.out]
    have Xc2v1 : v1.cell? ⟨w.heap.size, 2, none⟩ = some (.slice A x.cs.length cap) := by simp [World.cell?, Xv1.out]
    clear hv1
    go_wp2_with fail
    go_ret
    exact ⟨rfl, Bv1.out⟩
  have h6I : ¬ (6000 : Int) < (s.length : Int) := by omega
  go_wp2_with fail
  refine (own12 x A cap w1 Iw1.out (by omega) HL1000.out).mono ?_
  rintro e w2 ⟨⟨v, lvs, Bl, rfl, hps, hBl⟩, hw2⟩
  have Bw2 := Lib.hid (Bw1.out.trans ((hw2).mono mw1))
  have mw2 : w.heap.size ≤ w2.heap.size := Nat.le_trans mw1 (hw2).size
  have Ew2 := Lib.hid (Ew1.out.below ((hw2).mono (by omega)))
  have Iw2 := Lib.hid ((Iw1.out.below (hw2)).mono (hw2).size)
  have Xw2 := Lib.hid (((hw2).block _ (heap_lt Xw1.out)).trans Xw1.out)
  clear Bw1 mw1 Ew1 Iw1 Xw1 Xc0w1 Xc1w1 Xc2w1
  have Xc0w2 : w2.cell? ⟨w.heap.size, 0, none⟩ = some (.int .i64 x.cy) := by simp [World.cell?, Xw2.out]
  have Xc1w2 : w2.cell? ⟨w.heap.size, 1, none⟩ = some (.int .i64 x.gr) := by simp [World.cell?, Xw2.out]
  have Xc2w2 : w2.cell? ⟨w.heap.size, 2, none⟩ = some (.slice A x.cs.length cap) := by simp [World.cell?, Xw2.out]
  clear hw2
  obtain ⟨CA, ccap, rfl, hcc, hin⟩ := hps.inCr
  have Jw2 := Lib.hid hin
  clear hps hin hBl
  have Xa0 : ∀ ob, (w2.alloc ob).cell? ⟨w.heap.size, 0, none⟩ = some (.int .i64 x.cy) := fun ob => (World.cell?_alloc_lt _ _ _ (heap_lt Xw2.out)).trans Xc0w2
  have Xa1 : ∀ ob, (w2.alloc ob).cell? ⟨w.heap.size, 1, none⟩ = some (.int .i64 x.gr) := fun ob => (World.cell?_alloc_lt _ _ _ (heap_lt Xw2.out)).trans Xc1w2
  have Xa2 : ∀ ob, (w2.alloc ob).cell? ⟨w.heap.size, 2, none⟩ = some (.slice A x.cs.length cap) := fun ob => (World.cell?_alloc_lt _ _ _ (heap_lt Xw2.out)).trans Xc2w2
  go_wp2_with fail
  obtain ⟨w3, hw3⟩ : ∃ w3, w3 = w2.alloc (.cells #[.int .i64 x.cy, .int .i64 x.gr, .slice CA x.cs.length ccap] 24) := ⟨_, rfl⟩
  have bw3 : Below w2.heap.size w2 w3 := by rw [hw3]; exact (Below.refl _ _).alloc (Nat.le_refl _) _
  have nw3 : w3.heap[w2.heap.size]? = some (.cells #[.int .i64 x.cy, .int .i64 x.gr, .slice CA x.cs.length ccap] 24 (0, 0)) := by rw [hw3]; exact heap_alloc_new _ _
  have Bw3 := Lib.hid (Bw2.out.trans ((bw3).mono mw2))
  have mw3 : w.heap.size ≤ w3.heap.size := Nat.le_trans mw2 (bw3).size
  have Ew3 := Lib.hid (Ew2.out.below ((bw3).mono (by omega)))
  have Iw3 := Lib.hid ((Iw2.out.below (bw3)).mono (bw3).size)
  have Xw3 := Lib.hid (((bw3).block _ (heap_lt Xw2.out)).trans Xw2.out)
  have Jw3 := Lib.hid ((Jw2.out.below (bw3)).mono (bw3).size)
  clear Bw2 mw2 Ew2 Iw2 Xw2 Jw2 Xc0w2 Xc1w2 Xc2w2
  have Xc0w3 : w3.cell? ⟨w.heap.size, 0, none⟩ = some (.int .i64 x.cy) := by simp [World.cell?, Xw3.out]
  have Xc1w3 : w3.cell? ⟨w.heap.size, 1, none⟩ = some (.int .i64 x.gr) := by simp [World.cell?, Xw3.out]
  have Xc2w3 : w3.cell? ⟨w.heap.size, 2, none⟩ = some (.slice A x.cs.length cap) := by simp [World.cell?, Xw3.out]
  rw [← hw3]
  clear hw3 bw3 Xa0 Xa1 Xa2
  have Ow3 := Lib.hid nw3
  clear nw3
  have Oc0w3 : w3.cell? ⟨w2.heap.size, 0, none⟩ = some (.int .i64 x.cy) := by simp [World.cell?, Ow3.out]
  have Oc1w3 : w3.cell? ⟨w2.heap.size, 1, none⟩ = some (.int .i64 x.gr) := by simp [World.cell?, Ow3.out]
  have Oc2w3 : w3.cell? ⟨w2.heap.size, 2, none⟩ = some (.slice CA x.cs.length ccap) := by simp [World.cell?, Ow3.out]
  refine (format13 8 x CA ccap w3 Ew3.out (by omega) Jw3.out hcc HMO.out).mono ?_
  rintro e w4 ⟨rfl, hw4⟩
  have Bw4 := Lib.hid (Bw3.out.trans ((hw4).mono mw3))
  have mw4 : w.heap.size ≤ w4.heap.size := Nat.le_trans mw3 (hw4).size
  have Ew4 := Lib.hid (Ew3.out.below ((hw4).mono (by omega)))
  have Iw4 := Lib.hid ((Iw3.out.below (hw4)).mono (hw4).size)
  have Xw4 := Lib.hid (((hw4).block _ (heap_lt Xw3.out)).trans Xw3.out)
  have Jw4 := Lib.hid ((Jw3.out.below (hw4)).mono (hw4).size)
  have Ow4 := Lib.hid (((hw4).block _ (heap_lt Ow3.out)).trans Ow3.out)
  clear Bw3 mw3 Ew3 Iw3 Xw3 Jw3 Ow3 Xc0w3 Xc1w3 Xc2w3 Oc0w3 Oc1w3 Oc2w3
  have Xc0w4 : w4.cell? ⟨w.heap.size, 0, none⟩ = some (.int .i64 x.cy) := by simp [World.cell?, Xw4.out]
  have Xc1w4 : w4.cell? ⟨w.heap.size, 1, none⟩ = some (.int .i64 x.gr) := by simp [World.cell?, Xw4.out]
  have Xc2w4 : w4.cell? ⟨w.heap.size, 2, none⟩ = some (.slice A x.cs.length cap) := by simp [World.cell?, Xw4.out]
  have Oc0w4 : w4.cell? ⟨w2.heap.size, 0, none⟩ = some (.int .i64 x.cy) := by simp [World.cell?, Ow4.out]
  have Oc1w4 : w4.cell? ⟨w2.heap.size, 1, none⟩ = some (.int .i64 x.gr) := by simp [World.cell?, Ow4.out]
  have Oc2w4 : w4.cell? ⟨w2.heap.size, 2, none⟩ = some (.slice CA x.cs.length ccap) := by simp [World.cell?, Ow4.out]
  clear hw4
  go_wp2_with fail
  refine (format14 x A cap w4 Iw4.out HMO.out).mono ?_
  rintro e w5 ⟨rfl, hw5⟩
  have Bw5 := Lib.hid (Bw4.out.trans ((hw5).mono mw4))
  have mw5 : w.heap.size ≤ w5.heap.size := Nat.le_trans mw4 (hw5).size
  have Ew5 := Lib.hid (Ew4.out.below ((hw5).mono (by omega)))
  have Iw5 := Lib.hid ((Iw4.out.below (hw5)).mono (hw5).size)
  have Xw5 := Lib.hid (((hw5).block _ (heap_lt Xw4.out)).trans Xw4.out)
  have Jw5 := Lib.hid ((Jw4.out.below (hw5)).mono (hw5).size)
  have Ow5 := Lib.hid (((hw5).block _ (heap_lt Ow4.out)).trans Ow4.out)
  clear Bw4 mw4 Ew4 Iw4 Xw4 Jw4 Ow4 Xc0w4 Xc1w4 Xc2w4 Oc0w4 Oc1w4 Oc2w4
  have Xc0w5 : w5.cell? ⟨w.heap.size, 0, none⟩ = some (.int .i64 x.cy) := by simp [World.cell?, Xw5.out]
  have Xc1w5 : w5.cell? ⟨w.heap.size, 1, none⟩ = some (.int .i64 x.gr) := by simp [World.cell?, Xw5.out]
  have Xc2w5 : w5.cell? ⟨w.heap.size, 2, none⟩ = some (.slice A x.cs.length cap) := by simp [World.cell?, Xw5.out]
  have Oc0w5 : w5.cell? ⟨w2.heap.size, 0, none⟩ = some (.int .i64 x.cy) := by simp [World.cell?, Ow5.out]
  have Oc1w5 : w5.cell? ⟨w2.heap.size, 1, none⟩ = some (.int .i64 x.gr) := by simp [World.cell?, Ow5.out]
  have Oc2w5 : w5.cell? ⟨w2.heap.size, 2, none⟩ = some (.slice CA x.cs.length ccap) := by simp [World.cell?, Ow5.out]
  clear hw5
  go_wp2_with fail
  obtain ⟨y, n, f, hp⟩ : ∃ y n f, paE s = (y, n, f) := ⟨_, _, _, rfl⟩
  have PB1 := paE_bd (t := s)
  rw [hp] at PB1
  have HPB := Lib.hid PB1
  clear PB1
  have HP := Lib.hid hp
  clear hp
  refine (parse15 s (by omega) w5).mono ?_
  rintro e w6 ⟨v, lvs, Bl, rfl, hps, hb6⟩
  rw [HP.out] at hps
  rw [HP.out]
  simp only at hps ⊢
  obtain ⟨WA, wcap, rfl, hwc, hin⟩ := hps.inCr
  clear hps
  have Bw6 := Lib.hid (Bw5.out.trans ((hb6).mono mw5))
  have mw6 : w.heap.size ≤ w6.heap.size := Nat.le_trans mw5 (hb6).size
  have Ew6 := Lib.hid (Ew5.out.below ((hb6).mono (by omega)))
  have Iw6 := Lib.hid ((Iw5.out.below (hb6)).mono (hb6).size)
  have Xw6 := Lib.hid (((hb6).block _ (heap_lt Xw5.out)).trans Xw5.out)
  have Jw6 := Lib.hid ((Jw5.out.below (hb6)).mono (hb6).size)
  have Ow6 := Lib.hid (((hb6).block _ (heap_lt Ow5.out)).trans Ow5.out)
  clear Bw5 mw5 Ew5 Iw5 Xw5 Jw5 Ow5 Xc0w5 Xc1w5 Xc2w5 Oc0w5 Oc1w5 Oc2w5
  have Xc0w6 : w6.cell? ⟨w.heap.size, 0, none⟩ = some (.int .i64 x.cy) := by simp [World.cell?, Xw6.out]
  have Xc1w6 : w6.cell? ⟨w.heap.size, 1, none⟩ = some (.int .i64 x.gr) := by simp [World.cell?, Xw6.out]
  have Xc2w6 : w6.cell? ⟨w.heap.size, 2, none⟩ = some (.slice A x.cs.length cap) := by simp [World.cell?, Xw6.out]
  have Oc0w6 : w6.cell? ⟨w2.heap.size, 0, none⟩ = some (.int .i64 x.cy) := by simp [World.cell?, Ow6.out]
  have Oc1w6 : w6.cell? ⟨w2.heap.size, 1, none⟩ = some (.int .i64 x.gr) := by simp [World.cell?, Ow6.out]
  have Oc2w6 : w6.cell? ⟨w2.heap.size, 2, none⟩ = some (.slice CA x.cs.length ccap) := by simp [World.cell?, Ow6.out]
  have Gw6 := Lib.hid hin
  clear hb6 hin
  have Xa0 : ∀ ob, (w6.alloc ob).cell? ⟨w.heap.size, 0, none⟩ = some (.int .i64 x.cy) := fun ob => (World.cell?_alloc_lt _ _ _ (heap_lt Xw6.out)).trans Xc0w6
  have Xa1 : ∀ ob, (w6.alloc ob).cell? ⟨w.heap.size, 1, none⟩ = some (.int .i64 x.gr) := fun ob => (World.cell?_alloc_lt _ _ _ (heap_lt Xw6.out)).trans Xc1w6
  have Xa2 : ∀ ob, (w6.alloc ob).cell? ⟨w.heap.size, 2, none⟩ = some (.slice A x.cs.length cap) := fun ob => (World.cell?_alloc_lt _ _ _ (heap_lt Xw6.out)).trans Xc2w6
  have Oa0 : ∀ ob, (w6.alloc ob).cell? ⟨w2.heap.size, 0, none⟩ = some (.int .i64 x.cy) := fun ob => (World.cell?_alloc_lt _ _ _ (heap_lt Ow6.out)).trans Oc0w6
  have Oa1 : ∀ ob, (w6.alloc ob).cell? ⟨w2.heap.size, 1, none⟩ = some (.int .i64 x.gr) := fun ob => (World.cell?_alloc_lt _ _ _ (heap_lt Ow6.out)).trans Oc1w6
  have Oa2 : ∀ ob, (w6.alloc ob).cell? ⟨w2.heap.size, 2, none⟩ = some (.slice CA x.cs.length ccap) := fun ob => (World.cell?_alloc_lt _ _ _ (heap_lt Ow6.out)).trans Oc2w6
  go_wp2_with fail
  obtain ⟨w7, hw7⟩ : ∃ w7, w7 = w6.alloc (.cells #[.int .i64 y.cy, .int .i64 y.gr, .slice WA y.cs.length wcap] 24) := ⟨_, rfl⟩
  have bw7 : Below w6.heap.size w6 w7 := by rw [hw7]; exact (Below.refl _ _).alloc (Nat.le_refl _) _
  have nw7 : w7.heap[w6.heap.size]? = some (.cells #[.int .i64 y.cy, .int .i64 y.gr, .slice WA y.cs.length wcap] 24 (0, 0)) := by rw [hw7]; exact heap_alloc_new _ _
  have Bw7 := Lib.hid (Bw6.out.trans ((bw7).mono mw6))
  have mw7 : w.heap.size ≤ w7.heap.size := Nat.le_trans mw6 (bw7).size
  have Ew7 := Lib.hid (Ew6.out.below ((bw7).mono (by omega)))
  have Iw7 := Lib.hid ((Iw6.out.below (bw7)).mono (bw7).size)
  have Xw7 := Lib.hid (((bw7).block _ (heap_lt Xw6.out)).trans Xw6.out)
  have Jw7 := Lib.hid ((Jw6.out.below (bw7)).mono (bw7).size)
  have Ow7 := Lib.hid (((bw7).block _ (heap_lt Ow6.out)).trans Ow6.out)
  have Gw7 := Lib.hid ((Gw6.out.below (bw7)).mono (bw7).size)
  clear Bw6 mw6 Ew6 Iw6 Xw6 Jw6 Ow6 Gw6 Xc0w6 Xc1w6 Xc2w6 Oc0w6 Oc1w6 Oc2w6
  have Xc0w7 : w7.cell? ⟨w.heap.size, 0, none⟩ = some (.int .i64 x.cy) := by simp [World.cell?, Xw7.out]
  have Xc1w7 : w7.cell? ⟨w.heap.size, 1, none⟩ = some (.int .i64 x.gr) := by simp [World.cell?, Xw7.out]
  have Xc2w7 : w7.cell? ⟨w.heap.size, 2, none⟩ = some (.slice A x.cs.length cap) := by simp [World.cell?, Xw7.out]
  have Oc0w7 : w7.cell? ⟨w2.heap.size, 0, none⟩ = some (.int .i64 x.cy) := by simp [World.cell?, Ow7.out]
  have Oc1w7 : w7.cell? ⟨w2.heap.size, 1, none⟩ = some (.int .i64 x.gr) := by simp [World.cell?, Ow7.out]
  have Oc2w7 : w7.cell? ⟨w2.heap.size, 2, none⟩ = some (.slice CA x.cs.length ccap) := by simp [World.cell?, Ow7.out]
  rw [← hw7]
  clear hw7 bw7 Xa0 Xa1 Xa2 Oa0 Oa1 Oa2
  have Vw7 := Lib.hid nw7
  clear nw7
  have Vc0w7 : w7.cell? ⟨w6.heap.size, 0, none⟩ = some (.int .i64 y.cy) := by simp [World.cell?, Vw7.out]
  have Vc1w7 : w7.cell? ⟨w6.heap.size, 1, none⟩ = some (.int .i64 y.gr) := by simp [World.cell?, Vw7.out]
  have Vc2w7 : w7.cell? ⟨w6.heap.size, 2, none⟩ = some (.slice WA y.cs.length wcap) := by simp [World.cell?, Vw7.out]
  have hyn : y.cs.length ≤ 1000 := by have := HPB.out.1; omega
  have HY1 : Hid (∀ c ∈ y.cs, c.lg.length ≤ 1000) := Lib.hid (fun c hc => Nat.le_trans (HPB.out.2 c hc).1 (by decide))
  go_loopw [13] (fun i wr => ∃ t : Nat, t ≤ 2 ∧ i = .int .i64 t ∧ Below w7.heap.size w7 wr) (fun i _ => 2 - (intOf i).toNat)
  case atStart => exact ⟨0, Nat.zero_le _, rfl, Below.refl _ _⟩
  case round =>
    obtain ⟨t, ht, rfl, hb⟩ := hrel
    have HB7 := Lib.hid hb
    have s7 := hb.size
    have Bwr := Lib.hid (Bw7.out.trans ((hb).mono mw7))
    have mwr : w.heap.size ≤ wr.heap.size := Nat.le_trans mw7 (hb).size
    have Ewr := Lib.hid (Ew7.out.below ((hb).mono (by omega)))
    have Iwr := Lib.hid ((Iw7.out.below (hb)).mono (hb).size)
    have Xwr := Lib.hid (((hb).block _ (heap_lt Xw7.out)).trans Xw7.out)
    have Jwr := Lib.hid ((Jw7.out.below (hb)).mono (hb).size)
    have Owr := Lib.hid (((hb).block _ (heap_lt Ow7.out)).trans Ow7.out)
    have Gwr := Lib.hid ((Gw7.out.below (hb)).mono (hb).size)
    have Vwr := Lib.hid (((hb).block _ (heap_lt Vw7.out)).trans Vw7.out)
    clear Bw7 mw7 Ew7 Iw7 Xw7 Jw7 Ow7 Gw7 Vw7 Xc0w7 Xc1w7 Xc2w7 Oc0w7 Oc1w7 Oc2w7 Vc0w7 Vc1w7 Vc2w7
    have Xc0wr : wr.cell? ⟨w.heap.size, 0, none⟩ = some (.int .i64 x.cy) := by simp [World.cell?, Xwr.out]
    have Xc1wr : wr.cell? ⟨w.heap.size, 1, none⟩ = some (.int .i64 x.gr) := by simp [World.cell?, Xwr.out]
    have Xc2wr : wr.cell? ⟨w.heap.size, 2, none⟩ = some (.slice A x.cs.length cap) := by simp [World.cell?, Xwr.out]
    have Oc0wr : wr.cell? ⟨w2.heap.size, 0, none⟩ = some (.int .i64 x.cy) := by simp [World.cell?, Owr.out]
    have Oc1wr : wr.cell? ⟨w2.heap.size, 1, none⟩ = some (.int .i64 x.gr) := by simp [World.cell?, Owr.out]
    have Oc2wr : wr.cell? ⟨w2.heap.size, 2, none⟩ = some (.slice CA x.cs.length ccap) := by simp [World.cell?, Owr.out]
    have Vc0wr : wr.cell? ⟨w6.heap.size, 0, none⟩ = some (.int .i64 y.cy) := by simp [World.cell?, Vwr.out]
    have Vc1wr : wr.cell? ⟨w6.heap.size, 1, none⟩ = some (.int .i64 y.gr) := by simp [World.cell?, Vwr.out]
    have Vc2wr : wr.cell? ⟨w6.heap.size, 2, none⟩ = some (.slice WA y.cs.length wcap) := by simp [World.cell?, Vwr.out]
    clear hb
    by_cases hlt : t < 2
    · have hltI : (t : Int) < 2 := by omega
      go_wp2_with fail
      refine (parse16 8 s (by omega) wr Ewr.out (by omega)).mono ?_
      rintro e u1 ⟨v, lvs, Bl, rfl, hps, hb⟩
      rw [HP.out] at hps
      rw [HP.out]
      simp only at hps ⊢
      obtain ⟨DA, dcap, rfl, hdc, hin⟩ := hps.inCr
      have Bu1 : Hid (Below wr.heap.size wr u1) := Lib.hid ((hb))
      have mu1 : wr.heap.size ≤ u1.heap.size := (hb).size
      have Eu1 := Lib.hid (Ewr.out.below ((hb).mono (by omega)))
      have Iu1 := Lib.hid ((Iwr.out.below (hb)).mono (hb).size)
      have Xu1 := Lib.hid (((hb).block _ (heap_lt Xwr.out)).trans Xwr.out)
      have Ju1 := Lib.hid ((Jwr.out.below (hb)).mono (hb).size)
      have Ou1 := Lib.hid (((hb).block _ (heap_lt Owr.out)).trans Owr.out)
      have Gu1 := Lib.hid ((Gwr.out.below (hb)).mono (hb).size)
      have Vu1 := Lib.hid (((hb).block _ (heap_lt Vwr.out)).trans Vwr.out)
      clear Ewr Iwr Xwr Jwr Owr Gwr Vwr Xc0wr Xc1wr Xc2wr Oc0wr Oc1wr Oc2wr Vc0wr Vc1wr Vc2wr
      have Xc0u1 : u1.cell? ⟨w.heap.size, 0, none⟩ = some (.int .i64 x.cy) := by simp [World.cell?, Xu1.out]
      have Xc1u1 : u1.cell? ⟨w.heap.size, 1, none⟩ = some (.int .i64 x.gr) := by simp [World.cell?, Xu1.out]
      have Xc2u1 : u1.cell? ⟨w.heap.size, 2, none⟩ = some (.slice A x.cs.length cap) := by simp [World.cell?, Xu1.out]
      have Oc0u1 : u1.cell? ⟨w2.heap.size, 0, none⟩ = some (.int .i64 x.cy) := by simp [World.cell?, Ou1.out]
      have Oc1u1 : u1.cell? ⟨w2.heap.size, 1, none⟩ = some (.int .i64 x.gr) := by simp [World.cell?, Ou1.out]
      have Oc2u1 : u1.cell? ⟨w2.heap.size, 2, none⟩ = some (.slice CA x.cs.length ccap) := by simp [World.cell?, Ou1.out]
      have Vc0u1 : u1.cell? ⟨w6.heap.size, 0, none⟩ = some (.int .i64 y.cy) := by simp [World.cell?, Vu1.out]
      have Vc1u1 : u1.cell? ⟨w6.heap.size, 1, none⟩ = some (.int .i64 y.gr) := by simp [World.cell?, Vu1.out]
      have Vc2u1 : u1.cell? ⟨w6.heap.size, 2, none⟩ = some (.slice WA y.cs.length wcap) := by simp [World.cell?, Vu1.out]
      have Ku1 := Lib.hid hin
      have Qu1 := Lib.hid hps
      clear hb hin hps
      have Xa0 : ∀ ob, (u1.alloc ob).cell? ⟨w.heap.size, 0, none⟩ = some (.int .i64 x.cy) := fun ob => (World.cell?_alloc_lt _ _ _ (heap_lt Xu1.out)).trans Xc0u1
      have Xa1 : ∀ ob, (u1.alloc ob).cell? ⟨w.heap.size, 1, none⟩ = some (.int .i64 x.gr) := fun ob => (World.cell?_alloc_lt _ _ _ (heap_lt Xu1.out)).trans Xc1u1
      have Xa2 : ∀ ob, (u1.alloc ob).cell? ⟨w.heap.size, 2, none⟩ = some (.slice A x.cs.length cap) := fun ob => (World.cell?_alloc_lt _ _ _ (heap_lt Xu1.out)).trans Xc2u1
      have Oa0 : ∀ ob, (u1.alloc ob).cell? ⟨w2.heap.size, 0, none⟩ = some (.int .i64 x.cy) := fun ob => (World.cell?_alloc_lt _ _ _ (heap_lt Ou1.out)).trans Oc0u1
      have Oa1 : ∀ ob, (u1.alloc ob).cell? ⟨w2.heap.size, 1, none⟩ = some (.int .i64 x.gr) := fun ob => (World.cell?_alloc_lt _ _ _ (heap_lt Ou1.out)).trans Oc1u1
      have Oa2 : ∀ ob, (u1.alloc ob).cell? ⟨w2.heap.size, 2, none⟩ = some (.slice CA x.cs.length ccap) := fun ob => (World.cell?_alloc_lt _ _ _ (heap_lt Ou1.out)).trans Oc2u1
      have Va0 : ∀ ob, (u1.alloc ob).cell? ⟨w6.heap.size, 0, none⟩ = some (.int .i64 y.cy) := fun ob => (World.cell?_alloc_lt _ _ _ (heap_lt Vu1.out)).trans Vc0u1
      have Va1 : ∀ ob, (u1.alloc ob).cell? ⟨w6.heap.size, 1, none⟩ = some (.int .i64 y.gr) := fun ob => (World.cell?_alloc_lt _ _ _ (heap_lt Vu1.out)).trans Vc1u1
      have Va2 : ∀ ob, (u1.alloc ob).cell? ⟨w6.heap.size, 2, none⟩ = some (.slice WA y.cs.length wcap) := fun ob => (World.cell?_alloc_lt _ _ _ (heap_lt Vu1.out)).trans Vc2u1
      go_wp2_with fail
      obtain ⟨u2, hu2⟩ : ∃ u2, u2 = u1.alloc (.cells #[.int .i64 y.cy, .int .i64 y.gr, .slice DA y.cs.length dcap] 24) := ⟨_, rfl⟩
      have bu2 : Below u1.heap.size u1 u2 := by rw [hu2]; exact (Below.refl _ _).alloc (Nat.le_refl _) _
      have nu2 : u2.heap[u1.heap.size]? = some (.cells #[.int .i64 y.cy, .int .i64 y.gr, .slice DA y.cs.length dcap] 24 (0, 0)) := by rw [hu2]; exact heap_alloc_new _ _
      have Bu2 := Lib.hid (Bu1.out.trans ((bu2).mono mu1))
      have mu2 : wr.heap.size ≤ u2.heap.size := Nat.le_trans mu1 (bu2).size
      have Eu2 := Lib.hid (Eu1.out.below ((bu2).mono (by omega)))
      have Iu2 := Lib.hid ((Iu1.out.below (bu2)).mono (bu2).size)
      have Xu2 := Lib.hid (((bu2).block _ (heap_lt Xu1.out)).trans Xu1.out)
      have Ju2 := Lib.hid ((Ju1.out.below (bu2)).mono (bu2).size)
      have Ou2 := Lib.hid (((bu2).block _ (heap_lt Ou1.out)).trans Ou1.out)
      have Gu2 := Lib.hid ((Gu1.out.below (bu2)).mono (bu2).size)
      have Vu2 := Lib.hid (((bu2).block _ (heap_lt Vu1.out)).trans Vu1.out)
      have Ku2 := Lib.hid ((Ku1.out.below (bu2)).mono (bu2).size)
      have Qu2 := Lib.hid (Qu1.out.below (bu2))
      clear Bu1 mu1 Eu1 Iu1 Xu1 Ju1 Ou1 Gu1 Vu1 Ku1 Qu1 Xc0u1 Xc1u1 Xc2u1 Oc0u1 Oc1u1 Oc2u1 Vc0u1 Vc1u1 Vc2u1
      have Xc0u2 : u2.cell? ⟨w.heap.size, 0, none⟩ = some (.int .i64 x.cy) := by simp [World.cell?, Xu2.out]
      have Xc1u2 : u2.cell? ⟨w.heap.size, 1, none⟩ = some (.int .i64 x.gr) := by simp [World.cell?, Xu2.out]
      have Xc2u2 : u2.cell? ⟨w.heap.size, 2, none⟩ = some (.slice A x.cs.length cap) := by simp [World.cell?, Xu2.out]
      have Oc0u2 : u2.cell? ⟨w2.heap.size, 0, none⟩ = some (.int .i64 x.cy) := by simp [World.cell?, Ou2.out]
      have Oc1u2 : u2.cell? ⟨w2.heap.size, 1, none⟩ = some (.int .i64 x.gr) := by simp [World.cell?, Ou2.out]
      have Oc2u2 : u2.cell? ⟨w2.heap.size, 2, none⟩ = some (.slice CA x.cs.length ccap) := by simp [World.cell?, Ou2.out]
      have Vc0u2 : u2.cell? ⟨w6.heap.size, 0, none⟩ = some (.int .i64 y.cy) := by simp [World.cell?, Vu2.out]
      have Vc1u2 : u2.cell? ⟨w6.heap.size, 1, none⟩ = some (.int .i64 y.gr) := by simp [World.cell?, Vu2.out]
      have Vc2u2 : u2.cell? ⟨w6.heap.size, 2, none⟩ = some (.slice WA y.cs.length wcap) := by simp [World.cell?, Vu2.out]
      rw [← hu2]
      clear hu2 bu2 Xa0 Xa1 Xa2 Oa0 Oa1 Oa2 Va0 Va1 Va2
      have Du2 := Lib.hid nu2
      clear nu2
      have Dc0u2 : u2.cell? ⟨u1.heap.size, 0, none⟩ = some (.int .i64 y.cy) := by simp [World.cell?, Du2.out]
      have Dc1u2 : u2.cell? ⟨u1.heap.size, 1, none⟩ = some (.int .i64 y.gr) := by simp [World.cell?, Du2.out]
      have Dc2u2 : u2.cell? ⟨u1.heap.size, 2, none⟩ = some (.slice DA y.cs.length dcap) := by simp [World.cell?, Du2.out]
      refine (same17 y DA WA dcap wcap u2 Ku2.out Gu2.out hyn HY1.out).mono ?_
      rintro e u3 ⟨rfl, hu3⟩
      have Bu3 := Lib.hid (Bu2.out.trans ((hu3).mono mu2))
      have mu3 : wr.heap.size ≤ u3.heap.size := Nat.le_trans mu2 (hu3).size
      have Eu3 := Lib.hid (Eu2.out.below ((hu3).mono (by omega)))
      have Iu3 := Lib.hid ((Iu2.out.below (hu3)).mono (hu3).size)
      have Xu3 := Lib.hid (((hu3).block _ (heap_lt Xu2.out)).trans Xu2.out)
      have Ju3 := Lib.hid ((Ju2.out.below (hu3)).mono (hu3).size)
      have Ou3 := Lib.hid (((hu3).block _ (heap_lt Ou2.out)).trans Ou2.out)
      have Gu3 := Lib.hid ((Gu2.out.below (hu3)).mono (hu3).size)
      have Vu3 := Lib.hid (((hu3).block _ (heap_lt Vu2.out)).trans Vu2.out)
      have Ku3 := Lib.hid ((Ku2.out.below (hu3)).mono (hu3).size)
      have Qu3 := Lib.hid (Qu2.out.below (hu3))
      have Du3 := Lib.hid (((hu3).block _ (heap_lt Du2.out)).trans Du2.out)
      clear Bu2 mu2 Eu2 Iu2 Xu2 Ju2 Ou2 Gu2 Vu2 Ku2 Qu2 Du2 Xc0u2 Xc1u2 Xc2u2 Oc0u2 Oc1u2 Oc2u2 Vc0u2 Vc1u2 Vc2u2 Dc0u2 Dc1u2 Dc2u2
      have Xc0u3 : u3.cell? ⟨w.heap.size, 0, none⟩ = some (.int .i64 x.cy) := by simp [World.cell?, Xu3.out]
      have Xc1u3 : u3.cell? ⟨w.heap.size, 1, none⟩ = some (.int .i64 x.gr) := by simp [World.cell?, Xu3.out]
      have Xc2u3 : u3.cell? ⟨w.heap.size, 2, none⟩ = some (.slice A x.cs.length cap) := by simp [World.cell?, Xu3.out]
      have Oc0u3 : u3.cell? ⟨w2.heap.size, 0, none⟩ = some (.int .i64 x.cy) := by simp [World.cell?, Ou3.out]
      have Oc1u3 : u3.cell? ⟨w2.heap.size, 1, none⟩ = some (.int .i64 x.gr) := by simp [World.cell?, Ou3.out]
      have Oc2u3 : u3.cell? ⟨w2.heap.size, 2, none⟩ = some (.slice CA x.cs.length ccap) := by simp [World.cell?, Ou3.out]
      have Vc0u3 : u3.cell? ⟨w6.heap.size, 0, none⟩ = some (.int .i64 y.cy) := by simp [World.cell?, Vu3.out]
      have Vc1u3 : u3.cell? ⟨w6.heap.size, 1, none⟩ = some (.int .i64 y.gr) := by simp [World.cell?, Vu3.out]
      have Vc2u3 : u3.cell? ⟨w6.heap.size, 2, none⟩ = some (.slice WA y.cs.length wcap) := by simp [World.cell?, Vu3.out]
      have Dc0u3 : u3.cell? ⟨u1.heap.size, 0, none⟩ = some (.int .i64 y.cy) := by simp [World.cell?, Du3.out]
      have Dc1u3 : u3.cell? ⟨u1.heap.size, 1, none⟩ = some (.int .i64 y.gr) := by simp [World.cell?, Du3.out]
      have Dc2u3 : u3.cell? ⟨u1.heap.size, 2, none⟩ = some (.slice DA y.cs.length dcap) := by simp [World.cell?, Du3.out]
      clear hu3
      go_wp2_with fail
      refine (spoil18 y.cy y.gr wr.heap.size _ y.cs lvs Bl u3 mu3 Qu3.out (by omega) (fun c hc => Nat.le_trans (HY1.out c hc) (by decide))).mono ?_
      rintro e u4 ⟨rfl, hb4⟩
      have Bu4 := Lib.hid (Bu3.out.trans hb4)
      clear hb4
      go_wp2_with fail
      exact ⟨⟨t + 1, by omega, by go_num, HB7.out.trans (Bu4.out.mono s7)⟩, by simp [intOf]; omega⟩
    · have hltI : ¬ (t : Int) < 2 := by omega
      clear HB7 s7
      go_upto_region 14 with fail
      obtain ⟨wd, hwd⟩ : ∃ wd, wd = wr.drew := ⟨_, rfl⟩
      have bd : Below wr.heap.size wr wd := by rw [hwd]; exact (Below.refl _ _).drew
      have HWD := Lib.hid hwd
      clear hwd
      have Bwd := Lib.hid (Bwr.out.trans ((bd).mono mwr))
      have mwd : w.heap.size ≤ wd.heap.size := Nat.le_trans mwr (bd).size
      have Ewd := Lib.hid (Ewr.out.below ((bd).mono (by omega)))
      have Iwd := Lib.hid ((Iwr.out.below (bd)).mono (bd).size)
      have Xwd := Lib.hid (((bd).block _ (heap_lt Xwr.out)).trans Xwr.out)
      have Jwd := Lib.hid ((Jwr.out.below (bd)).mono (bd).size)
      have Owd := Lib.hid (((bd).block _ (heap_lt Owr.out)).trans Owr.out)
      have Gwd := Lib.hid ((Gwr.out.below (bd)).mono (bd).size)
      have Vwd := Lib.hid (((bd).block _ (heap_lt Vwr.out)).trans Vwr.out)
      clear Bwr mwr Ewr Iwr Xwr Jwr Owr Gwr Vwr Xc0wr Xc1wr Xc2wr Oc0wr Oc1wr Oc2wr Vc0wr Vc1wr Vc2wr
      have Xc0wd : wd.cell? ⟨w.heap.size, 0, none⟩ = some (.int .i64 x.cy) := by simp [World.cell?, Xwd.out]
      have Xc1wd : wd.cell? ⟨w.heap.size, 1, none⟩ = some (.int .i64 x.gr) := by simp [World.cell?, Xwd.out]
      have Xc2wd : wd.cell? ⟨w.heap.size, 2, none⟩ = some (.slice A x.cs.length cap) := by simp [World.cell?, Xwd.out]
      have Oc0wd : wd.cell? ⟨w2.heap.size, 0, none⟩ = some (.int .i64 x.cy) := by simp [World.cell?, Owd.out]
      have Oc1wd : wd.cell? ⟨w2.heap.size, 1, none⟩ = some (.int .i64 x.gr) := by simp [World.cell?, Owd.out]
      have Oc2wd : wd.cell? ⟨w2.heap.size, 2, none⟩ = some (.slice CA x.cs.length ccap) := by simp [World.cell?, Owd.out]
      have Vc0wd : wd.cell? ⟨w6.heap.size, 0, none⟩ = some (.int .i64 y.cy) := by simp [World.cell?, Vwd.out]
      have Vc1wd : wd.cell? ⟨w6.heap.size, 1, none⟩ = some (.int .i64 y.gr) := by simp [World.cell?, Vwd.out]
      have Vc2wd : wd.cell? ⟨w6.heap.size, 2, none⟩ = some (.slice WA y.cs.length wcap) := by simp [World.cell?, Vwd.out]
      clear bd
      refine wp_region_held_drew (S := fun w' => w'.heap[w.heap.size]? = some (.cells #[.int .i64 x.cy, .int .i64 x.gr, .slice A x.cs.length cap] 24 (0, 0)) ∧ w'.heap[w2.heap.size]? = some (.cells #[.int .i64 x.cy, .int .i64 x.gr, .slice CA x.cs.length ccap] 24 (0, 0))) (by kernel_rfl) (show _ from (by rw [← HWD.out]; exact ⟨Xwd.out, Owd.out⟩)) (fun hS => ?_)
      rw [← HWD.out] at hS ⊢
      refine wpAnyH_take (i := 0) (v := ?vR1) rfl (by kernel_rfl) (by kernel_rfl) (by kernel_rfl) (fun _ _ _ h => h) (Or.inl ⟨by rfl, ?hR1⟩) hS ?rR1
      case hR1 =>
        intro w1 hSw
        have zo0 : w1.cell? ⟨w2.heap.size, 0, none⟩ = some (.int .i64 x.cy) := cur_at hSw.2 rfl
        have zo1 : w1.cell? ⟨w2.heap.size, 1, none⟩ = some (.int .i64 x.gr) := cur_at hSw.2 rfl
        have zo2 : w1.cell? ⟨w2.heap.size, 2, none⟩ = some (.slice CA x.cs.length ccap) := cur_at hSw.2 rfl
        clear hSw
        go_simp
        try with_reducible rfl
      (try simp only [Act.put])
      refine wpAnyH_take (i := 2) (v := ?vR2) rfl (by kernel_rfl) (by kernel_rfl) (by kernel_rfl) (fun _ _ _ h => h) (Or.inl ⟨by rfl, ?hR2⟩) hS ?rR2
      case hR2 =>
        intro w1 hSw
        have zx0 : w1.cell? ⟨w.heap.size, 0, none⟩ = some (.int .i64 x.cy) := cur_at hSw.1 rfl
        have zx1 : w1.cell? ⟨w.heap.size, 1, none⟩ = some (.int .i64 x.gr) := cur_at hSw.1 rfl
        have zx2 : w1.cell? ⟨w.heap.size, 2, none⟩ = some (.slice A x.cs.length cap) := cur_at hSw.1 rfl
        clear hSw
        go_simp
        try with_reducible rfl
      (try simp only [Act.put])
      refine wpAnyH_ready (rs := [1]) (by kernel_rfl) (by simp) (AllReadyH.cons rfl (fun K hK => ?_) AllReadyH.nil)
      go_simp
      refine (check19 x CA ccap wd Jwd.out hcc).mono ?_
      rintro e v1 ⟨rfl, hv1⟩
      have Bv1 := Lib.hid (Bwd.out.trans ((hv1).mono mwd))
      have mv1 : w.heap.size ≤ v1.heap.size := Nat.le_trans mwd (hv1).size
      have Ev1 := Lib.hid (Ewd.out.below ((hv1).mono (by omega)))
      have Iv1 := Lib.hid ((Iwd.out.below (hv1)).mono (hv1).size)
      have Xv1 := Lib.hid (((hv1).block _ (heap_lt Xwd.out)).trans Xwd.out)
      have Jv1 := Lib.hid ((Jwd.out.below (hv1)).mono (hv1).size)
      have Ov1 := Lib.hid (((hv1).block _ (heap_lt Owd.out)).trans Owd.out)
      have Gv1 := Lib.hid ((Gwd.out.below (hv1)).mono (hv1).size)
      have Vv1 := Lib.hid (((hv1).block _ (heap_lt Vwd.out)).trans Vwd.out)
      clear Bwd mwd Ewd Iwd Xwd Jwd Owd Gwd Vwd Xc0wd Xc1wd Xc2wd Oc0wd Oc1wd Oc2wd Vc0wd Vc1wd Vc2wd
      have Xc0v1 : v1.cell? ⟨w.heap.size, 0, none⟩ = some (.int .i64 x.cy) := by simp [World.cell?, Xv1.out]
      have Xc1v1 : v1.cell? ⟨w.heap.size, 1, none⟩ = some (.int .i64 x.gr) := by simp [World.cell?, Xv1.out]
      have Xc2v1 : v1.cell? ⟨w.heap.size, 2, none⟩ = some (.slice A x.cs.length cap) := by simp [World.cell?, Xv1.out]
      have Oc0v1 : v1.cell? ⟨w2.heap.size, 0, none⟩ = some (.int .i64 x.cy) := by simp [World.cell?, Ov1.out]
      have Oc1v1 : v1.cell? ⟨w2.heap.size, 1, none⟩ = some (.int .i64 x.gr) := by simp [World.cell?, Ov1.out]
      have Oc2v1 : v1.cell? ⟨w2.heap.size, 2, none⟩ = some (.slice CA x.cs.length ccap) := by simp [World.cell?, Ov1.out]
      have Vc0v1 : v1.cell? ⟨w6.heap.size, 0, none⟩ = some (.int .i64 y.cy) := by simp [World.cell?, Vv1.out]
      have Vc1v1 : v1.cell? ⟨w6.heap.size, 1, none⟩ = some (.int .i64 y.gr) := by simp [World.cell?, Vv1.out]
      have Vc2v1 : v1.cell? ⟨w6.heap.size, 2, none⟩ = some (.slice WA y.cs.length wcap) := by simp [World.cell?, Vv1.out]
      clear hv1
      refine hK.out _ _ ⟨Xv1.out, Ov1.out⟩ (fun hS => ?_)
      clear hK K
      refine wpAnyH_ready (rs := [3]) (by kernel_rfl) (by simp) (AllReadyH.cons rfl (fun K hK => ?_) AllReadyH.nil)
      go_simp
      refine (check20 x A cap v1 Iv1.out).mono ?_
      rintro e v2 ⟨rfl, hv2⟩
      have Bv2 := Lib.hid (Bv1.out.trans ((hv2).mono mv1))
      have mv2 : w.heap.size ≤ v2.heap.size := Nat.le_trans mv1 (hv2).size
      have Ev2 := Lib.hid (Ev1.out.below ((hv2).mono (by omega)))
      have Iv2 := Lib.hid ((Iv1.out.below (hv2)).mono (hv2).size)
      have Xv2 := Lib.hid (((hv2).block _ (heap_lt Xv1.out)).trans Xv1.out)
      have Jv2 := Lib.hid ((Jv1.out.below (hv2)).mono (hv2).size)
      have Ov2 := Lib.hid (((hv2).block _ (heap_lt Ov1.out)).trans Ov1.out)
      have Gv2 := Lib.hid ((Gv1.out.below (hv2)).mono (hv2).size)
      have Vv2 := Lib.hid (((hv2).block _ (heap_lt Vv1.out)).trans Vv1.out)
      clear Bv1 mv1 Ev1 Iv1 Xv1 Jv1 Ov1 Gv1 Vv1 Xc0v1 Xc1v1 Xc2v1 Oc0v1 Oc1v1 Oc2v1 Vc0v1 Vc1v1 Vc2v1
      have Xc0v2 : v2.cell? ⟨w.heap.size, 0, none⟩ = some (.int .i64 x.cy) := by simp [World.cell?, Xv2.out]
      have Xc1v2 : v2.cell? ⟨w.heap.size, 1, none⟩ = some (.int .i64 x.gr) := by simp [World.cell?, Xv2.out]
      have Xc2v2 : v2.cell? ⟨w.heap.size, 2, none⟩ = some (.slice A x.cs.length cap) := by simp [World.cell?, Xv2.out]
      have Oc0v2 : v2.cell? ⟨w2.heap.size, 0, none⟩ = some (.int .i64 x.cy) := by simp [World.cell?, Ov2.out]
      have Oc1v2 : v2.cell? ⟨w2.heap.size, 1, none⟩ = some (.int .i64 x.gr) := by simp [World.cell?, Ov2.out]
      have Oc2v2 : v2.cell? ⟨w2.heap.size, 2, none⟩ = some (.slice CA x.cs.length ccap) := by simp [World.cell?, Ov2.out]
      have Vc0v2 : v2.cell? ⟨w6.heap.size, 0, none⟩ = some (.int .i64 y.cy) := by simp [World.cell?, Vv2.out]
      have Vc1v2 : v2.cell? ⟨w6.heap.size, 1, none⟩ = some (.int .i64 y.gr) := by simp [World.cell?, Vv2.out]
      have Vc2v2 : v2.cell? ⟨w6.heap.size, 2, none⟩ = some (.slice WA y.cs.length wcap) := by simp [World.cell?, Vv2.out]
      clear hv2
      refine hK.out _ _ ⟨Xv2.out, Ov2.out⟩ (fun hS => ?_)
      clear hK K
      refine wpAnyH_take (i := 4) (v := ?vR3) rfl (by kernel_rfl) (by kernel_rfl) (by kernel_rfl) (fun _ _ _ h => h) (Or.inl ⟨by kernel_rfl, ?hR3⟩) hS ?rR3
      case hR3 =>
        intro w1 hSw
        clear hSw
        go_simp
        try with_reducible rfl
      (try simp only [Act.put])
      refine wpAnyH_take (i := 5) (v := ?vR4) rfl (by kernel_rfl) (by kernel_rfl) (by kernel_rfl) (fun _ _ _ h => h) (Or.inl ⟨by kernel_rfl, ?hR4⟩) hS ?rR4
      case hR4 =>
        intro w1 hSw
        clear hSw
        go_simp
        try with_reducible rfl
      (try simp only [Act.put])
      refine wpAnyH_take (i := 6) (v := ?vR5) rfl (by kernel_rfl) (by kernel_rfl) (by kernel_rfl) (fun _ _ _ h => h) (Or.inl ⟨by kernel_rfl, ?hR5⟩) hS ?rR5
      case hR5 =>
        intro w1 hSw
        clear hSw
        go_simp
        try with_reducible rfl
      (try simp only [Act.put])
      refine wpAnyH_take (i := 7) (v := ?vR6) rfl (by kernel_rfl) (by kernel_rfl) (by kernel_rfl) (fun _ _ _ h => h) (Or.inl ⟨by kernel_rfl, ?hR6⟩) hS ?rR6
      case hR6 =>
        intro w1 hSw
        clear hSw
        go_simp
        try with_reducible rfl
      (try simp only [Act.put])
      refine wpAnyH_take (i := 8) (v := ?vR7) rfl (by kernel_rfl) (by kernel_rfl) (by kernel_rfl) (fun _ _ _ h => h) (Or.inl ⟨by kernel_rfl, ?hR7⟩) hS ?rR7
      case hR7 =>
        intro w1 hSw
        clear hSw
        go_simp
        try with_reducible rfl
      (try simp only [Act.put])
      refine wpAnyH_take (i := 9) (v := ?vR8) rfl (by kernel_rfl) (by kernel_rfl) (by kernel_rfl) (fun _ _ _ h => h) (Or.inl ⟨by kernel_rfl, ?hR8⟩) hS ?rR8
      case hR8 =>
        intro w1 hSw
        clear hSw
        go_simp
        try with_reducible rfl
      (try simp only [Act.put])
      refine wpAnyH_take (i := 10) (v := ?vR9) rfl (by kernel_rfl) (by kernel_rfl) (by kernel_rfl) (fun _ _ _ h => h) (Or.inl ⟨by kernel_rfl, ?hR9⟩) hS ?rR9
      case hR9 =>
        intro w1 hSw
        clear hSw
        go_simp
        try with_reducible rfl
      (try simp only [Act.put])
      refine wpAnyH_take (i := 11) (v := ?vR10) rfl (by kernel_rfl) (by kernel_rfl) (by kernel_rfl) (fun _ _ _ h => h) (Or.inl ⟨by kernel_rfl, ?hR10⟩) hS ?rR10
      case hR10 =>
        intro w1 hSw
        clear hSw
        go_simp
        try with_reducible rfl
      (try simp only [Act.put])
      refine wpAnyH_take (i := 12) (v := ?vR11) rfl (by kernel_rfl) (by kernel_rfl) (by kernel_rfl) (fun _ _ _ h => h) (Or.inl ⟨by kernel_rfl, ?hR11⟩) hS ?rR11
      case hR11 =>
        intro w1 hSw
        clear hSw
        go_simp
        try with_reducible rfl
      (try simp only [Act.put])
      refine wpAnyH_take (i := 13) (v := ?vR12) rfl (by kernel_rfl) (by kernel_rfl) (by kernel_rfl) (fun _ _ _ h => h) (Or.inl ⟨by kernel_rfl, ?hR12⟩) hS ?rR12
      case hR12 =>
        intro w1 hSw
        clear hSw
        go_simp
        try with_reducible rfl
      (try simp only [Act.put])
      refine wpAnyH_take (i := 14) (v := ?vR13) rfl (by kernel_rfl) (by kernel_rfl) (by kernel_rfl) (fun _ _ _ h => h) (Or.inl ⟨by kernel_rfl, ?hR13⟩) hS ?rR13
      case hR13 =>
        intro w1 hSw
        clear hSw
        go_simp
        try with_reducible rfl
      (try simp only [Act.put])
      refine wpAnyH_take (i := 15) (v := ?vR14) rfl (by kernel_rfl) (by kernel_rfl) (by kernel_rfl) (fun _ _ _ h => h) (Or.inl ⟨by kernel_rfl, ?hR14⟩) hS ?rR14
      case hR14 =>
        intro w1 hSw
        clear hSw
        go_simp
        try with_reducible rfl
      (try simp only [Act.put])
      refine wpAnyH_take (i := 16) (v := ?vR15) rfl (by kernel_rfl) (by kernel_rfl) (by kernel_rfl) (fun _ _ _ h => h) (Or.inl ⟨by kernel_rfl, ?hR15⟩) hS ?rR15
      case hR15 =>
        intro w1 hSw
        have zo0 : w1.cell? ⟨w2.heap.size, 0, none⟩ = some (.int .i64 x.cy) := cur_at hSw.2 rfl
        have zo1 : w1.cell? ⟨w2.heap.size, 1, none⟩ = some (.int .i64 x.gr) := cur_at hSw.2 rfl
        have zo2 : w1.cell? ⟨w2.heap.size, 2, none⟩ = some (.slice CA x.cs.length ccap) := cur_at hSw.2 rfl
        clear hSw
        go_simp
        try with_reducible rfl
      (try simp only [Act.put])
      refine wpAnyH_take (i := 17) (v := ?vR16) rfl (by kernel_rfl) (by kernel_rfl) (by kernel_rfl) (fun _ _ _ h => h) (Or.inl ⟨by kernel_rfl, ?hR16⟩) hS ?rR16
      case hR16 =>
        intro w1 hSw
        have zx0 : w1.cell? ⟨w.heap.size, 0, none⟩ = some (.int .i64 x.cy) := cur_at hSw.1 rfl
        have zx1 : w1.cell? ⟨w.heap.size, 1, none⟩ = some (.int .i64 x.gr) := cur_at hSw.1 rfl
        have zx2 : w1.cell? ⟨w.heap.size, 2, none⟩ = some (.slice A x.cs.length cap) := cur_at hSw.1 rfl
        clear hSw
        go_simp
        try with_reducible rfl
      (try simp only [Act.put])
      refine wpAnyH_ready (rs := [18]) (by kernel_rfl) (by simp) (AllReadyH.cons rfl (fun K hK => ?_) AllReadyH.nil)
      go_simp
      refine (same17 x CA A ccap cap v2 Jv2.out Iv2.out (by omega) HL1000.out).mono ?_
      rintro e v3 ⟨rfl, hv3⟩
      have Bv3 := Lib.hid (Bv2.out.trans ((hv3).mono mv2))
      have mv3 : w.heap.size ≤ v3.heap.size := Nat.le_trans mv2 (hv3).size
      have Ev3 := Lib.hid (Ev2.out.below ((hv3).mono (by omega)))
      have Iv3 := Lib.hid ((Iv2.out.below (hv3)).mono (hv3).size)
      have Xv3 := Lib.hid (((hv3).block _ (heap_lt Xv2.out)).trans Xv2.out)
      have Jv3 := Lib.hid ((Jv2.out.below (hv3)).mono (hv3).size)
      have Ov3 := Lib.hid (((hv3).block _ (heap_lt Ov2.out)).trans Ov2.out)
      have Gv3 := Lib.hid ((Gv2.out.below (hv3)).mono (hv3).size)
      have Vv3 := Lib.hid (((hv3).block _ (heap_lt Vv2.out)).trans Vv2.out)
      clear Bv2 mv2 Ev2 Iv2 Xv2 Jv2 Ov2 Gv2 Vv2 Xc0v2 Xc1v2 Xc2v2 Oc0v2 Oc1v2 Oc2v2 Vc0v2 Vc1v2 Vc2v2
      have Xc0v3 : v3.cell? ⟨w.heap.size, 0, none⟩ = some (.int .i64 x.cy) := by simp [World.cell?, Xv3.out]
      have Xc1v3 : v3.cell? ⟨w.heap.size, 1, none⟩ = some (.int .i64 x.gr) := by simp [World.cell?, Xv3.out]
      have Xc2v3 : v3.cell? ⟨w.heap.size, 2, none⟩ = some (.slice A x.cs.length cap) := by simp [World.cell?, Xv3.out]
      have Oc0v3 : v3.cell? ⟨w2.heap.size, 0, none⟩ = some (.int .i64 x.cy) := by simp [World.cell?, Ov3.out]
      have Oc1v3 : v3.cell? ⟨w2.heap.size, 1, none⟩ = some (.int .i64 x.gr) := by simp [World.cell?, Ov3.out]
      have Oc2v3 : v3.cell? ⟨w2.heap.size, 2, none⟩ = some (.slice CA x.cs.length ccap) := by simp [World.cell?, Ov3.out]
      have Vc0v3 : v3.cell? ⟨w6.heap.size, 0, none⟩ = some (.int .i64 y.cy) := by simp [World.cell?, Vv3.out]
      have Vc1v3 : v3.cell? ⟨w6.heap.size, 1, none⟩ = some (.int .i64 y.gr) := by simp [World.cell?, Vv3.out]
      have Vc2v3 : v3.cell? ⟨w6.heap.size, 2, none⟩ = some (.slice WA y.cs.length wcap) := by simp [World.cell?, Vv3.out]
      clear hv3
      refine hK.out _ _ ⟨Xv3.out, Ov3.out⟩ (fun hS => ?_)
      clear hK K
      refine wpAnyH_take (i := 19) (v := ?vR17) rfl (by kernel_rfl) (by kernel_rfl) (by kernel_rfl) (fun _ _ _ h => h) (Or.inl ⟨by kernel_rfl, ?hR17⟩) hS ?rR17
      case hR17 =>
        intro w1 hSw
        clear hSw
        go_simp
        try with_reducible rfl
      (try simp only [Act.put])
      refine wpAnyH_take (i := 20) (v := ?vR18) rfl (by kernel_rfl) (by kernel_rfl) (by kernel_rfl) (fun _ _ _ h => h) (Or.inl ⟨by kernel_rfl, ?hR18⟩) hS ?rR18
      case hR18 =>
        intro w1 hSw
        clear hSw
        go_simp
        try with_reducible rfl
      (try simp only [Act.put])
      refine wpAnyH_ready (rs := [21]) (by kernel_rfl) (by simp) (AllReadyH.cons rfl (fun K hK => ?_) AllReadyH.nil)
      go_simp
      refine (awake11 8 v3 Ev3.out (by omega)).mono ?_
      rintro e v4 ⟨rfl, hv4⟩
      have Bv4 := Lib.hid (Bv3.out.trans ((hv4).mono mv3))
      have mv4 : w.heap.size ≤ v4.heap.size := Nat.le_trans mv3 (hv4).size
      have Ev4 := Lib.hid (Ev3.out.below ((hv4).mono (by omega)))
      have Iv4 := Lib.hid ((Iv3.out.below (hv4)).mono (hv4).size)
      have Xv4 := Lib.hid (((hv4).block _ (heap_lt Xv3.out)).trans Xv3.out)
      have Jv4 := Lib.hid ((Jv3.out.below (hv4)).mono (hv4).size)
      have Ov4 := Lib.hid (((hv4).block _ (heap_lt Ov3.out)).trans Ov3.out)
      have Gv4 := Lib.hid ((Gv3.out.below (hv4)).mono (hv4).size)
      have Vv4 := Lib.hid (((hv4).block _ (heap_lt Vv3.out)).trans Vv3.out)
      clear Bv3 mv3 Ev3 Iv3 Xv3 Jv3 Ov3 Gv3 Vv3 Xc0v3 Xc1v3 Xc2v3 Oc0v3 Oc1v3 Oc2v3 Vc0v3 Vc1v3 Vc2v3
      have Xc0v4 : v4.cell? ⟨w.heap.size, 0, none⟩ = some (.int .i64 x.cy) := by simp [World.cell?, Xv4.out]
      have Xc1v4 : v4.cell? ⟨w.heap.size, 1, none⟩ = some (.int .i64 x.gr) := by simp [World.cell?, Xv4.out]
      have Xc2v4 : v4.cell? ⟨w.heap.size, 2, none⟩ = some (.slice A x.cs.length cap) := by simp [World.cell?, Xv4.out]
      have Oc0v4 : v4.cell? ⟨w2.heap.size, 0, none⟩ = some (.int .i64 x.cy) := by simp [World.cell?, Ov4.out]
      have Oc1v4 : v4.cell? ⟨w2.heap.size, 1, none⟩ = some (.int .i64 x.gr) := by simp [World.cell?, Ov4.out]
      have Oc2v4 : v4.cell? ⟨w2.heap.size, 2, none⟩ = some (.slice CA x.cs.length ccap) := by simp [World.cell?, Ov4.out]
      have Vc0v4 : v4.cell? ⟨w6.heap.size, 0, none⟩ = some (.int .i64 y.cy) := by simp [World.cell?, Vv4.out]
      have Vc1v4 : v4.cell? ⟨w6.heap.size, 1, none⟩ = some (.int .i64 y.gr) := by simp [World.cell?, Vv4.out]
      have Vc2v4 : v4.cell? ⟨w6.heap.size, 2, none⟩ = some (.slice WA y.cs.length wcap) := by simp [World.cell?, Vv4.out]
      clear hv4
      refine hK.out _ _ ⟨Xv4.out, Ov4.out⟩ (fun hS => ?_)
      clear hK K
      refine wpAnyH_take (i := 22) (v := ?vR19) rfl (by kernel_rfl) (by kernel_rfl) (by kernel_rfl) (fun _ _ _ h => h) (Or.inl ⟨by kernel_rfl, ?hR19⟩) hS ?rR19
      case hR19 =>
        intro w1 hSw
        clear hSw
        go_simp
        try with_reducible rfl
      (try simp only [Act.put])
      refine wpAnyH_take (i := 23) (v := ?vR20) rfl (by kernel_rfl) (by kernel_rfl) (by kernel_rfl) (fun _ _ _ h => h) (Or.inl ⟨by kernel_rfl, ?hR20⟩) hS ?rR20
      case hR20 =>
        intro w1 hSw
        clear hSw
        go_simp
        try with_reducible rfl
      (try simp only [Act.put])
      refine wpAnyH_done (by kernel_rfl) ?_ _
      go_wp2_with fail
      go_ret
      exact ⟨rfl, Bv4.out⟩
theorem texts3s (x : En) (A : Option Addr) (cap : Nat) (s : ByteArray) (w : World) (E : Env 8 w) (h8 : 8 ≤ w.heap.size) (hc : InCr w w.heap.size A x.cs) (hN : x.cs.length ≤ maxLen) (hmo : ∀ c ∈ x.cs, 0 ≤ c.mo) :
    Calls Tryz.prog 3 #[.agg #[.int .i64 x.cy, .int .i64 x.gr, .slice A x.cs.length cap], .string s] w fun e w' => e = .returned (.bool true) ∧ Below w.heap.size w w' := by
  have := texts3 x A cap s.data.toList w E h8 hc hN hmo
  rw [S_data] at this
  exact this
end Go.Proofs.YtnnnpliigdfipaaGreatDoor
