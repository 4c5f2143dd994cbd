/- EncounterFlights: the walk. -/
import Derived.Test.YtnnnpliigdfipaaGreatDoorRows
import Derived.WalkKit
import Derived.WalkLawsBesides
import Derived.WalkSpells
import Derived.ProofKit
import Derived.Below
import Derived.Outline
import Derived.Lib.Hide
import Derived.Deep.RegionWith
import Derived.Deep.RegionHeld3
import Derived.Deep.DrawnRows
import Derived.StillTailTactics
import Derived.BigQuiet
import Derived.Deep.QuietTactic
import Derived.Deep.LoopGhost
import Derived.IntWalk
import Derived.Lib.MinMax
import Derived.Test.YtnnnpliigdfipaaGreatDoorEnF1
import Derived.Test.YtnnnpliigdfipaaGreatDoorEnHC
import Derived.Test.YtnnnpliigdfipaaGreatDoorEnHM
namespace Go.Proofs.YtnnnpliigdfipaaGreatDoor
open Go.RowKit
attribute [local go_sem ↓] Go.wp_at_zero Go.wp_at_succ
attribute [local go_sem] wrap_lit
theorem is_of {w : World} {B : Nat} {A : Option Addr} {T : TypeId} {ys : List Int} (h : Own .i64 w B A T ys) : Is .i64 w w.heap.size A ys := fun h0 => by
  obtain ⟨g, cs, e, -, hh, hc⟩ := h h0
  refine ⟨g, 0, e, heap_lt hh, fun j hj => ?_⟩
  rw [Nat.zero_add]
  simpa [World.cell?, hh] using hc j hj
/-- a row of planes of its own, of which only the block matters -/
def Row (w : World) (B n : Nat) (A : Option Addr) : Prop := 0 < n → ∃ g cur, A = some ⟨g, 0, none⟩ ∧ B ≤ g ∧ w.heap[g]? = some (.cells cur 42 (0, 0)) ∧ n * 2 ≤ cur.size
theorem Own.row {w : World} {B n : Nat} {A : Option Addr} {l : List (Int × Int)} (h : Own .i64 w B A 42 (flat l)) (hn : l.length = n) : Row w B n A := fun h0 => by
  obtain ⟨g, cs, e, hB, hh, hc⟩ := h (by rw [flat2_len]; omega)
  refine ⟨g, cs, e, hB, hh, ?_⟩
  rcases Nat.lt_or_ge cs.size (n * 2) with g1 | g1
  · have := hc cs.size (by rw [flat2_len]; omega)
    simp at this
  · exact g1
theorem Row.below {w w' : World} {B n : Nat} {A : Option Addr} (h : Row w B n A) (hb : Below w.heap.size w w') : Row w' B n A := fun h0 => by
  obtain ⟨g, cur, e, h1, h2, h3⟩ := h h0
  exact ⟨g, cur, e, h1, (hb.block _ (heap_lt h2)).trans h2, h3⟩
theorem cur_some {cur : Array Value} {i : Nat} (h : i < cur.size) : ∃ u, cur[i]? = some u := ⟨_, Array.getElem?_eq_getElem h⟩
theorem pathR_le (x : En) (i : Int) : (pathR x i).1.length ≤ 1000 := by
  unfold pathR
  split
  · simp
  · rename_i g
    have := chE_ok (numE_0 (by simpa using g)).1
    simp only [pathL_len]
    omega
set_option maxRecDepth 100000 in
set_option maxHeartbeats 4000000 in
theorem flights4 (x : En) (A : Option Addr) (cap : Nat) (i k : Int) (w : World) (E : Env 8 w) (h8 : 8 ≤ w.heap.size) (hc : InCr w w.heap.size A x.cs) (hcap : x.cs.length ≤ cap) (hcm : cap ≤ maxLen) :
    Calls Tryz.prog 4 #[.agg #[.int .i64 x.cy, .int .i64 x.gr, .slice A x.cs.length cap], .int .i64 i, .int .i64 k] w fun e w' => e = .returned (.bool true) ∧ Below w.heap.size w w' := by
  have hN := Nat.le_trans hcap hcm
  have Ew := Lib.hid E
  have Iw := Lib.hid hc
  clear E hc
  go_enter Tryz.func4, Tryz.ntmps4
  have LG := Lib.hid (fun w' hc => long10 x A cap w' hc hN)
  go_wp2_with fail
  obtain ⟨w0, hw0⟩ : ∃ w0, w0 = w.alloc (.cells #[.int .i64 x.cy, .int .i64 x.gr, .slice A x.cs.length cap] 24) := ⟨_, rfl⟩
  have bw0 : Below w.heap.size w w0 := by rw [hw0]; exact (Below.refl _ _).alloc (Nat.le_refl _) _
  have nw0 : w0.heap[w.heap.size]? = some (.cells #[.int .i64 x.cy, .int .i64 x.gr, .slice A x.cs.length cap] 24 (0, 0)) := by rw [hw0]; exact heap_alloc_new _ _
  have Bw0 : Hid (Below w.heap.size w w0) := Lib.hid ((bw0))
  have mw0 : w.heap.size ≤ w0.heap.size := (bw0).size
  have Ew0 := Lib.hid (Ew.out.below ((bw0).mono (by omega)))
  have Iw0 := Lib.hid ((Iw.out.below (bw0)).mono (bw0).size)
  clear Ew Iw
  rw [← hw0]
  clear hw0 bw0
  have Xw0 := Lib.hid nw0
  clear nw0
  have Xc0w0 : w0.cell? ⟨w.heap.size, 0, none⟩ = some (.int .i64 x.cy) := by simp [World.cell?, Xw0.out]
  have Xc1w0 : w0.cell? ⟨w.heap.size, 1, none⟩ = some (.int .i64 x.gr) := by simp [World.cell?, Xw0.out]
  have Xc2w0 : w0.cell? ⟨w.heap.size, 2, none⟩ = some (.slice A x.cs.length cap) := by simp [World.cell?, Xw0.out]
  refine (LG.out w0 Iw0.out).mono ?_
  rintro e w1 ⟨rfl, hw1⟩
  have Bw1 := Lib.hid (Bw0.out.trans ((hw1).mono mw0))
  have mw1 : w.heap.size ≤ w1.heap.size := Nat.le_trans mw0 (hw1).size
  have Ew1 := Lib.hid (Ew0.out.below ((hw1).mono (by omega)))
  have Iw1 := Lib.hid ((Iw0.out.below (hw1)).mono (hw1).size)
  have Xw1 := Lib.hid (((hw1).block _ (heap_lt Xw0.out)).trans Xw0.out)
  clear Bw0 mw0 Ew0 Iw0 Xw0 Xc0w0 Xc1w0 Xc2w0
  have Xc0w1 : w1.cell? ⟨w.heap.size, 0, none⟩ = some (.int .i64 x.cy) := by simp [World.cell?, Xw1.out]
  have Xc1w1 : w1.cell? ⟨w.heap.size, 1, none⟩ = some (.int .i64 x.gr) := by simp [World.cell?, Xw1.out]
  have Xc2w1 : w1.cell? ⟨w.heap.size, 2, none⟩ = some (.slice A x.cs.length cap) := by simp [World.cell?, Xw1.out]
  clear hw1
  by_cases hlg : lgB x = true
  · go_wp2_with fail
    refine (awake11 8 w1 Ew1.out (by omega)).mono ?_
    rintro e v1 ⟨rfl, hv1⟩
    have Bv1 := Lib.hid (Bw1.out.trans ((hv1).mono mw1))
    have mv1 : w.heap.size ≤ v1.heap.size := Nat.le_trans mw1 (hv1).size
    have Ev1 := Lib.hid (Ew1.out.below ((hv1).mono (by omega)))
    have Iv1 := Lib.hid ((Iw1.out.below (hv1)).mono (hv1).size)
    have Xv1 := Lib.hid (((hv1).block _ (heap_lt Xw1.out)).trans Xw1.out)
    clear Bw1 mw1 Ew1 Iw1 Xw1 Xc0w1 Xc1w1 Xc2w1
    have Xc0v1 : v1.cell? ⟨w.heap.size, 0, none⟩ = some (.int .i64 x.cy) := by simp [World.cell?, Xv1.out]
    have Xc1v1 : v1.cell? ⟨w.heap.size, 1, none⟩ = some (.int .i64 x.gr) := by simp [World.cell?, Xv1.out]
    have Xc2v1 : v1.cell? ⟨w.heap.size, 2, none⟩ = some (.slice A x.cs.length cap) := by simp [World.cell?, Xv1.out]
    clear hv1
    go_wp2_with fail
    go_ret
    exact ⟨rfl, Bv1.out⟩
  have hlg' : lgB x = false := by cases h : lgB x <;> simp_all
  obtain ⟨hn12, hl30⟩ := lg_bd hlg'
  have HL1000 : Hid (∀ c ∈ x.cs, c.lg.length ≤ 1000) := Lib.hid (fun c hc => Nat.le_trans (hl30 c hc) (by decide))
  clear hlg hl30 LG
  go_wp2_with fail
  refine (own12 x A cap w1 Iw1.out (by omega) HL1000.out).mono ?_
  rintro e w2 ⟨⟨v, lvs, Bl, rfl, hps, hBl⟩, hw2⟩
  have Bw2 := Lib.hid (Bw1.out.trans ((hw2).mono mw1))
  have mw2 : w.heap.size ≤ w2.heap.size := Nat.le_trans mw1 (hw2).size
  have Ew2 := Lib.hid (Ew1.out.below ((hw2).mono (by omega)))
  have Iw2 := Lib.hid ((Iw1.out.below (hw2)).mono (hw2).size)
  have Xw2 := Lib.hid (((hw2).block _ (heap_lt Xw1.out)).trans Xw1.out)
  clear Bw1 mw1 Ew1 Iw1 Xw1 Xc0w1 Xc1w1 Xc2w1
  have Xc0w2 : w2.cell? ⟨w.heap.size, 0, none⟩ = some (.int .i64 x.cy) := by simp [World.cell?, Xw2.out]
  have Xc1w2 : w2.cell? ⟨w.heap.size, 1, none⟩ = some (.int .i64 x.gr) := by simp [World.cell?, Xw2.out]
  have Xc2w2 : w2.cell? ⟨w.heap.size, 2, none⟩ = some (.slice A x.cs.length cap) := by simp [World.cell?, Xw2.out]
  clear hw2
  obtain ⟨CA, ccap, rfl, hcc, hin⟩ := hps.inCr
  have Jw2 := Lib.hid hin
  clear hps hin hBl
  have Xa0 : ∀ ob, (w2.alloc ob).cell? ⟨w.heap.size, 0, none⟩ = some (.int .i64 x.cy) := fun ob => (World.cell?_alloc_lt _ _ _ (heap_lt Xw2.out)).trans Xc0w2
  have Xa1 : ∀ ob, (w2.alloc ob).cell? ⟨w.heap.size, 1, none⟩ = some (.int .i64 x.gr) := fun ob => (World.cell?_alloc_lt _ _ _ (heap_lt Xw2.out)).trans Xc1w2
  have Xa2 : ∀ ob, (w2.alloc ob).cell? ⟨w.heap.size, 2, none⟩ = some (.slice A x.cs.length cap) := fun ob => (World.cell?_alloc_lt _ _ _ (heap_lt Xw2.out)).trans Xc2w2
  go_wp2_with fail
  obtain ⟨w3, hw3⟩ : ∃ w3, w3 = w2.alloc (.cells #[.int .i64 x.cy, .int .i64 x.gr, .slice CA x.cs.length ccap] 24) := ⟨_, rfl⟩
  have bw3 : Below w2.heap.size w2 w3 := by rw [hw3]; exact (Below.refl _ _).alloc (Nat.le_refl _) _
  have nw3 : w3.heap[w2.heap.size]? = some (.cells #[.int .i64 x.cy, .int .i64 x.gr, .slice CA x.cs.length ccap] 24 (0, 0)) := by rw [hw3]; exact heap_alloc_new _ _
  have Bw3 := Lib.hid (Bw2.out.trans ((bw3).mono mw2))
  have mw3 : w.heap.size ≤ w3.heap.size := Nat.le_trans mw2 (bw3).size
  have Ew3 := Lib.hid (Ew2.out.below ((bw3).mono (by omega)))
  have Iw3 := Lib.hid ((Iw2.out.below (bw3)).mono (bw3).size)
  have Xw3 := Lib.hid (((bw3).block _ (heap_lt Xw2.out)).trans Xw2.out)
  have Jw3 := Lib.hid ((Jw2.out.below (bw3)).mono (bw3).size)
  clear Bw2 mw2 Ew2 Iw2 Xw2 Jw2 Xc0w2 Xc1w2 Xc2w2
  have Xc0w3 : w3.cell? ⟨w.heap.size, 0, none⟩ = some (.int .i64 x.cy) := by simp [World.cell?, Xw3.out]
  have Xc1w3 : w3.cell? ⟨w.heap.size, 1, none⟩ = some (.int .i64 x.gr) := by simp [World.cell?, Xw3.out]
  have Xc2w3 : w3.cell? ⟨w.heap.size, 2, none⟩ = some (.slice A x.cs.length cap) := by simp [World.cell?, Xw3.out]
  rw [← hw3]
  clear hw3 bw3 Xa0 Xa1 Xa2
  have Ow3 := Lib.hid nw3
  clear nw3
  have Oc0w3 : w3.cell? ⟨w2.heap.size, 0, none⟩ = some (.int .i64 x.cy) := by simp [World.cell?, Ow3.out]
  have Oc1w3 : w3.cell? ⟨w2.heap.size, 1, none⟩ = some (.int .i64 x.gr) := by simp [World.cell?, Ow3.out]
  have Oc2w3 : w3.cell? ⟨w2.heap.size, 2, none⟩ = some (.slice CA x.cs.length ccap) := by simp [World.cell?, Ow3.out]
  refine (path21 x A cap i w3 Iw3.out hcap hcm).mono ?_
  rintro e w4 ⟨WA, wcap, rfl, hwc, hown, hw4⟩
  have Bw4 := Lib.hid (Bw3.out.trans ((hw4).mono mw3))
  have mw4 : w.heap.size ≤ w4.heap.size := Nat.le_trans mw3 (hw4).size
  have Ew4 := Lib.hid (Ew3.out.below ((hw4).mono (by omega)))
  have Iw4 := Lib.hid ((Iw3.out.below (hw4)).mono (hw4).size)
  have Xw4 := Lib.hid (((hw4).block _ (heap_lt Xw3.out)).trans Xw3.out)
  have Jw4 := Lib.hid ((Jw3.out.below (hw4)).mono (hw4).size)
  have Ow4 := Lib.hid (((hw4).block _ (heap_lt Ow3.out)).trans Ow3.out)
  clear Bw3 mw3 Ew3 Iw3 Xw3 Jw3 Ow3 Xc0w3 Xc1w3 Xc2w3 Oc0w3 Oc1w3 Oc2w3
  have Xc0w4 : w4.cell? ⟨w.heap.size, 0, none⟩ = some (.int .i64 x.cy) := by simp [World.cell?, Xw4.out]
  have Xc1w4 : w4.cell? ⟨w.heap.size, 1, none⟩ = some (.int .i64 x.gr) := by simp [World.cell?, Xw4.out]
  have Xc2w4 : w4.cell? ⟨w.heap.size, 2, none⟩ = some (.slice A x.cs.length cap) := by simp [World.cell?, Xw4.out]
  have Oc0w4 : w4.cell? ⟨w2.heap.size, 0, none⟩ = some (.int .i64 x.cy) := by simp [World.cell?, Ow4.out]
  have Oc1w4 : w4.cell? ⟨w2.heap.size, 1, none⟩ = some (.int .i64 x.gr) := by simp [World.cell?, Ow4.out]
  have Oc2w4 : w4.cell? ⟨w2.heap.size, 2, none⟩ = some (.slice CA x.cs.length ccap) := by simp [World.cell?, Ow4.out]
  clear hw4
  have Gw4 := Lib.hid (is_of hown)
  obtain ⟨L, hL⟩ : ∃ L, L = (pathR x i).1 := ⟨_, rfl⟩
  obtain ⟨ee, hee⟩ : ∃ ee, ee = (pathR x i).2 := ⟨_, rfl⟩
  rw [← hL] at hwc Gw4
  rw [← hL, ← hee]
  have HLe := Lib.hid hL
  have HEe := Lib.hid hee
  have hln : L.length ≤ 1000 := by rw [hL]; exact pathR_le x i
  clear hown hL hee
  go_wp2_with fail
  go_loopw [10] (fun i wr => ∃ t : Nat, t ≤ 2 ∧ i = .int .i64 t ∧ Below w4.heap.size w4 wr) (fun i _ => 2 - (intOf i).toNat)
  case atStart => exact ⟨0, Nat.zero_le _, rfl, Below.refl _ _⟩
  case round =>
    obtain ⟨t, ht, rfl, hb⟩ := hrel
    have HB4 := Lib.hid hb
    have s4 := hb.size
    have Bwr := Lib.hid (Bw4.out.trans ((hb).mono mw4))
    have mwr : w.heap.size ≤ wr.heap.size := Nat.le_trans mw4 (hb).size
    have Ewr := Lib.hid (Ew4.out.below ((hb).mono (by omega)))
    have Iwr := Lib.hid ((Iw4.out.below (hb)).mono (hb).size)
    have Xwr := Lib.hid (((hb).block _ (heap_lt Xw4.out)).trans Xw4.out)
    have Jwr := Lib.hid ((Jw4.out.below (hb)).mono (hb).size)
    have Owr := Lib.hid (((hb).block _ (heap_lt Ow4.out)).trans Ow4.out)
    have Gwr := Lib.hid ((Gw4.out.below (hb)).mono (hb).size)
    clear Bw4 mw4 Ew4 Iw4 Xw4 Jw4 Ow4 Gw4 Xc0w4 Xc1w4 Xc2w4 Oc0w4 Oc1w4 Oc2w4
    have Xc0wr : wr.cell? ⟨w.heap.size, 0, none⟩ = some (.int .i64 x.cy) := by simp [World.cell?, Xwr.out]
    have Xc1wr : wr.cell? ⟨w.heap.size, 1, none⟩ = some (.int .i64 x.gr) := by simp [World.cell?, Xwr.out]
    have Xc2wr : wr.cell? ⟨w.heap.size, 2, none⟩ = some (.slice A x.cs.length cap) := by simp [World.cell?, Xwr.out]
    have Oc0wr : wr.cell? ⟨w2.heap.size, 0, none⟩ = some (.int .i64 x.cy) := by simp [World.cell?, Owr.out]
    have Oc1wr : wr.cell? ⟨w2.heap.size, 1, none⟩ = some (.int .i64 x.gr) := by simp [World.cell?, Owr.out]
    have Oc2wr : wr.cell? ⟨w2.heap.size, 2, none⟩ = some (.slice CA x.cs.length ccap) := by simp [World.cell?, Owr.out]
    clear hb
    by_cases hlt : t < 2
    · have hltI : (t : Int) < 2 := by omega
      obtain ⟨wo, hwo⟩ : ∃ wo, wo = wr.heap.size := ⟨_, rfl⟩
      go_wp2_with fail
      refine (path22c x CA ccap i wr Jwr.out hcc).mono ?_
      rintro e u1 ⟨DA, dcap, rfl, hdc, hown, hu1⟩
      have Bu1 : Hid (Below wr.heap.size wr u1) := Lib.hid ((hu1))
      have mu1 : wr.heap.size ≤ u1.heap.size := (hu1).size
      have Eu1 := Lib.hid (Ewr.out.below ((hu1).mono (by omega)))
      have Iu1 := Lib.hid ((Iwr.out.below (hu1)).mono (hu1).size)
      have Xu1 := Lib.hid (((hu1).block _ (heap_lt Xwr.out)).trans Xwr.out)
      have Ju1 := Lib.hid ((Jwr.out.below (hu1)).mono (hu1).size)
      have Ou1 := Lib.hid (((hu1).block _ (heap_lt Owr.out)).trans Owr.out)
      have Gu1 := Lib.hid ((Gwr.out.below (hu1)).mono (hu1).size)
      clear Ewr Iwr Xwr Jwr Owr Gwr Xc0wr Xc1wr Xc2wr Oc0wr Oc1wr Oc2wr
      have Xc0u1 : u1.cell? ⟨w.heap.size, 0, none⟩ = some (.int .i64 x.cy) := by simp [World.cell?, Xu1.out]
      have Xc1u1 : u1.cell? ⟨w.heap.size, 1, none⟩ = some (.int .i64 x.gr) := by simp [World.cell?, Xu1.out]
      have Xc2u1 : u1.cell? ⟨w.heap.size, 2, none⟩ = some (.slice A x.cs.length cap) := by simp [World.cell?, Xu1.out]
      have Oc0u1 : u1.cell? ⟨w2.heap.size, 0, none⟩ = some (.int .i64 x.cy) := by simp [World.cell?, Ou1.out]
      have Oc1u1 : u1.cell? ⟨w2.heap.size, 1, none⟩ = some (.int .i64 x.gr) := by simp [World.cell?, Ou1.out]
      have Oc2u1 : u1.cell? ⟨w2.heap.size, 2, none⟩ = some (.slice CA x.cs.length ccap) := by simp [World.cell?, Ou1.out]
      clear hu1
      rw [← HLe.out] at hown hdc
      rw [← HLe.out, ← HEe.out]
      rw [← hwo] at hown
      have Ku1 := Lib.hid (is_of hown)
      have HROW := Lib.hid (hown.row rfl)
      clear hown
      go_wp2_with fail
      refine (planes23 DA WA dcap wcap L u1 Ku1.out Gu1.out (by omega)).mono ?_
      rintro e u2 ⟨rfl, hu2⟩
      have HbP := Lib.hid hu2
      have Bu2 := Lib.hid (Bu1.out.trans ((hu2).mono mu1))
      have mu2 : wr.heap.size ≤ u2.heap.size := Nat.le_trans mu1 (hu2).size
      have Eu2 := Lib.hid (Eu1.out.below ((hu2).mono (by omega)))
      have Iu2 := Lib.hid ((Iu1.out.below (hu2)).mono (hu2).size)
      have Xu2 := Lib.hid (((hu2).block _ (heap_lt Xu1.out)).trans Xu1.out)
      have Ju2 := Lib.hid ((Ju1.out.below (hu2)).mono (hu2).size)
      have Ou2 := Lib.hid (((hu2).block _ (heap_lt Ou1.out)).trans Ou1.out)
      have Gu2 := Lib.hid ((Gu1.out.below (hu2)).mono (hu2).size)
      have Ku2 := Lib.hid ((Ku1.out.below (hu2)).mono (hu2).size)
      clear Bu1 mu1 Eu1 Iu1 Xu1 Ju1 Ou1 Gu1 Ku1 Xc0u1 Xc1u1 Xc2u1 Oc0u1 Oc1u1 Oc2u1
      have Xc0u2 : u2.cell? ⟨w.heap.size, 0, none⟩ = some (.int .i64 x.cy) := by simp [World.cell?, Xu2.out]
      have Xc1u2 : u2.cell? ⟨w.heap.size, 1, none⟩ = some (.int .i64 x.gr) := by simp [World.cell?, Xu2.out]
      have Xc2u2 : u2.cell? ⟨w.heap.size, 2, none⟩ = some (.slice A x.cs.length cap) := by simp [World.cell?, Xu2.out]
      have Oc0u2 : u2.cell? ⟨w2.heap.size, 0, none⟩ = some (.int .i64 x.cy) := by simp [World.cell?, Ou2.out]
      have Oc1u2 : u2.cell? ⟨w2.heap.size, 1, none⟩ = some (.int .i64 x.gr) := by simp [World.cell?, Ou2.out]
      have Oc2u2 : u2.cell? ⟨w2.heap.size, 2, none⟩ = some (.slice CA x.cs.length ccap) := by simp [World.cell?, Ou2.out]
      clear hu2
      have HR2 := Lib.hid (HROW.out.below HbP.out)
      clear HROW
      go_wp2_with fail
      go_loopw [13] (fun i wx => ∃ n : Nat, n ≤ L.length ∧ i = .int .i64 n ∧ Row wx wo L.length DA ∧ Below wo wr wx) (fun i _ => L.length - (intOf i).toNat)
      case atStart => exact ⟨0, Nat.zero_le _, rfl, HR2.out, by rw [hwo]; exact Bu2.out⟩
      case round =>
        obtain ⟨n, hn, rfl, hrow, hb⟩ := hrel
        have HBX := Lib.hid hb
        have HRX := Lib.hid hrow
        clear hb hrow
        by_cases hltn : n < L.length
        · obtain ⟨g, cur, rfl, hg0, hg, hgs⟩ := HRX.out (by omega)
          obtain ⟨u0, hu0⟩ := cur_some (cur := cur) (i := n * 2) (by omega)
          obtain ⟨u1_, hu1⟩ := cur_some (cur := cur) (i := n * 2 + 1) (by omega)
          have l0 : wr.cell? ⟨g, n * 2, none⟩ = some u0 := by simp [World.cell?, hg, hu0]
          have l1 : wr.cell? ⟨g, n * 2 + 1, none⟩ = some u1_ := by simp [World.cell?, hg, hu1]
          have fj : ∀ i, wr.frozen? ⟨g, i, none⟩ = false := fun i => by simp [World.frozen?, hg]
          have hltnI : (n : Int) < (L.length : Int) := by omega
          have HG := Lib.hid hg
          clear hg hu0 hu1
          go_wp2_with fail
          exact ⟨⟨n + 1, by omega, by go_num, fun _ => ⟨g, _, rfl, hg0, setCell_heap _ _ _ _ _ _ _ (setCell_heap _ _ _ _ _ _ _ HG.out), by simpa using hgs⟩, (HBX.out.setCell (p := ⟨g, n * 2, none⟩) hg0 _).setCell (p := ⟨g, n * 2 + 1, none⟩) hg0 _⟩, by simp [intOf]; omega⟩
        · have hltnI : ¬ (n : Int) < (L.length : Int) := by omega
          go_wp2_with fail
          exact ⟨⟨t + 1, by omega, by go_num, HB4.out.trans (HBX.out.mono (by rw [hwo]; exact s4))⟩, by simp [intOf]; omega⟩
    · have hltI : ¬ (t : Int) < 2 := by omega
      clear HB4 s4
      go_wp2_with fail
      have T1 := aim24 x CA ccap i k wr Jwr.out hcc
      obtain ⟨a1, ha1⟩ : ∃ a, a = (aimR x i k).1 := ⟨_, rfl⟩
      obtain ⟨a2, ha2⟩ : ∃ a, a = (aimR x i k).2 := ⟨_, rfl⟩
      rw [← ha1, ← ha2] at T1
      have AM := Lib.hid (fun w' hc => aim25 x A cap i k w' hc hcap hcm)
      rw [← ha1, ← ha2] at AM
      clear ha1 ha2
      refine (T1).mono ?_
      rintro e x1 ⟨rfl, hx1⟩
      have Bx1 := Lib.hid (Bwr.out.trans ((hx1).mono mwr))
      have mx1 : w.heap.size ≤ x1.heap.size := Nat.le_trans mwr (hx1).size
      have Ex1 := Lib.hid (Ewr.out.below ((hx1).mono (by omega)))
      have Ix1 := Lib.hid ((Iwr.out.below (hx1)).mono (hx1).size)
      have Xx1 := Lib.hid (((hx1).block _ (heap_lt Xwr.out)).trans Xwr.out)
      have Jx1 := Lib.hid ((Jwr.out.below (hx1)).mono (hx1).size)
      have Ox1 := Lib.hid (((hx1).block _ (heap_lt Owr.out)).trans Owr.out)
      have Gx1 := Lib.hid ((Gwr.out.below (hx1)).mono (hx1).size)
      clear Bwr mwr Ewr Iwr Xwr Jwr Owr Gwr Xc0wr Xc1wr Xc2wr Oc0wr Oc1wr Oc2wr
      have Xc0x1 : x1.cell? ⟨w.heap.size, 0, none⟩ = some (.int .i64 x.cy) := by simp [World.cell?, Xx1.out]
      have Xc1x1 : x1.cell? ⟨w.heap.size, 1, none⟩ = some (.int .i64 x.gr) := by simp [World.cell?, Xx1.out]
      have Xc2x1 : x1.cell? ⟨w.heap.size, 2, none⟩ = some (.slice A x.cs.length cap) := by simp [World.cell?, Xx1.out]
      have Oc0x1 : x1.cell? ⟨w2.heap.size, 0, none⟩ = some (.int .i64 x.cy) := by simp [World.cell?, Ox1.out]
      have Oc1x1 : x1.cell? ⟨w2.heap.size, 1, none⟩ = some (.int .i64 x.gr) := by simp [World.cell?, Ox1.out]
      have Oc2x1 : x1.cell? ⟨w2.heap.size, 2, none⟩ = some (.slice CA x.cs.length ccap) := by simp [World.cell?, Ox1.out]
      clear hx1
      clear T1
      go_wp2_with fail
      refine (AM.out x1 Ix1.out).mono ?_
      rintro e x2 ⟨rfl, hx2⟩
      have Bx2 := Lib.hid (Bx1.out.trans ((hx2).mono mx1))
      have mx2 : w.heap.size ≤ x2.heap.size := Nat.le_trans mx1 (hx2).size
      have Ex2 := Lib.hid (Ex1.out.below ((hx2).mono (by omega)))
      have Ix2 := Lib.hid ((Ix1.out.below (hx2)).mono (hx2).size)
      have Xx2 := Lib.hid (((hx2).block _ (heap_lt Xx1.out)).trans Xx1.out)
      have Jx2 := Lib.hid ((Jx1.out.below (hx2)).mono (hx2).size)
      have Ox2 := Lib.hid (((hx2).block _ (heap_lt Ox1.out)).trans Ox1.out)
      have Gx2 := Lib.hid ((Gx1.out.below (hx2)).mono (hx2).size)
      clear Bx1 mx1 Ex1 Ix1 Xx1 Jx1 Ox1 Gx1 Xc0x1 Xc1x1 Xc2x1 Oc0x1 Oc1x1 Oc2x1
      have Xc0x2 : x2.cell? ⟨w.heap.size, 0, none⟩ = some (.int .i64 x.cy) := by simp [World.cell?, Xx2.out]
      have Xc1x2 : x2.cell? ⟨w.heap.size, 1, none⟩ = some (.int .i64 x.gr) := by simp [World.cell?, Xx2.out]
      have Xc2x2 : x2.cell? ⟨w.heap.size, 2, none⟩ = some (.slice A x.cs.length cap) := by simp [World.cell?, Xx2.out]
      have Oc0x2 : x2.cell? ⟨w2.heap.size, 0, none⟩ = some (.int .i64 x.cy) := by simp [World.cell?, Ox2.out]
      have Oc1x2 : x2.cell? ⟨w2.heap.size, 1, none⟩ = some (.int .i64 x.gr) := by simp [World.cell?, Ox2.out]
      have Oc2x2 : x2.cell? ⟨w2.heap.size, 2, none⟩ = some (.slice CA x.cs.length ccap) := by simp [World.cell?, Ox2.out]
      clear hx2
      clear AM
      go_wp2_with fail
      have T1 := where26 x CA ccap i k x2 Jx2.out hcc
      obtain ⟨p1, hp1⟩ : ∃ a, a = (wheR x i k).1.x := ⟨_, rfl⟩
      obtain ⟨p2, hp2⟩ : ∃ a, a = (wheR x i k).1.y := ⟨_, rfl⟩
      obtain ⟨p3, hp3⟩ : ∃ a, a = (wheR x i k).1.z := ⟨_, rfl⟩
      obtain ⟨pe, hpe⟩ : ∃ a, a = (wheR x i k).2 := ⟨_, rfl⟩
      rw [← hp1, ← hp2, ← hp3, ← hpe] at T1
      have WM := Lib.hid (fun w' hc => where27 x A cap i k w' hc hcap hcm)
      rw [← hp1, ← hp2, ← hp3, ← hpe] at WM
      clear hp1 hp2 hp3 hpe
      refine (T1).mono ?_
      rintro e x3 ⟨rfl, hx3⟩
      have Bx3 := Lib.hid (Bx2.out.trans ((hx3).mono mx2))
      have mx3 : w.heap.size ≤ x3.heap.size := Nat.le_trans mx2 (hx3).size
      have Ex3 := Lib.hid (Ex2.out.below ((hx3).mono (by omega)))
      have Ix3 := Lib.hid ((Ix2.out.below (hx3)).mono (hx3).size)
      have Xx3 := Lib.hid (((hx3).block _ (heap_lt Xx2.out)).trans Xx2.out)
      have Jx3 := Lib.hid ((Jx2.out.below (hx3)).mono (hx3).size)
      have Ox3 := Lib.hid (((hx3).block _ (heap_lt Ox2.out)).trans Ox2.out)
      have Gx3 := Lib.hid ((Gx2.out.below (hx3)).mono (hx3).size)
      clear Bx2 mx2 Ex2 Ix2 Xx2 Jx2 Ox2 Gx2 Xc0x2 Xc1x2 Xc2x2 Oc0x2 Oc1x2 Oc2x2
      have Xc0x3 : x3.cell? ⟨w.heap.size, 0, none⟩ = some (.int .i64 x.cy) := by simp [World.cell?, Xx3.out]
      have Xc1x3 : x3.cell? ⟨w.heap.size, 1, none⟩ = some (.int .i64 x.gr) := by simp [World.cell?, Xx3.out]
      have Xc2x3 : x3.cell? ⟨w.heap.size, 2, none⟩ = some (.slice A x.cs.length cap) := by simp [World.cell?, Xx3.out]
      have Oc0x3 : x3.cell? ⟨w2.heap.size, 0, none⟩ = some (.int .i64 x.cy) := by simp [World.cell?, Ox3.out]
      have Oc1x3 : x3.cell? ⟨w2.heap.size, 1, none⟩ = some (.int .i64 x.gr) := by simp [World.cell?, Ox3.out]
      have Oc2x3 : x3.cell? ⟨w2.heap.size, 2, none⟩ = some (.slice CA x.cs.length ccap) := by simp [World.cell?, Ox3.out]
      clear hx3
      clear T1
      have Xa0 : ∀ ob, (x3.alloc ob).cell? ⟨w.heap.size, 0, none⟩ = some (.int .i64 x.cy) := fun ob => (World.cell?_alloc_lt _ _ _ (heap_lt Xx3.out)).trans Xc0x3
      have Xa1 : ∀ ob, (x3.alloc ob).cell? ⟨w.heap.size, 1, none⟩ = some (.int .i64 x.gr) := fun ob => (World.cell?_alloc_lt _ _ _ (heap_lt Xx3.out)).trans Xc1x3
      have Xa2 : ∀ ob, (x3.alloc ob).cell? ⟨w.heap.size, 2, none⟩ = some (.slice A x.cs.length cap) := fun ob => (World.cell?_alloc_lt _ _ _ (heap_lt Xx3.out)).trans Xc2x3
      have Oa0 : ∀ ob, (x3.alloc ob).cell? ⟨w2.heap.size, 0, none⟩ = some (.int .i64 x.cy) := fun ob => (World.cell?_alloc_lt _ _ _ (heap_lt Ox3.out)).trans Oc0x3
      have Oa1 : ∀ ob, (x3.alloc ob).cell? ⟨w2.heap.size, 1, none⟩ = some (.int .i64 x.gr) := fun ob => (World.cell?_alloc_lt _ _ _ (heap_lt Ox3.out)).trans Oc1x3
      have Oa2 : ∀ ob, (x3.alloc ob).cell? ⟨w2.heap.size, 2, none⟩ = some (.slice CA x.cs.length ccap) := fun ob => (World.cell?_alloc_lt _ _ _ (heap_lt Ox3.out)).trans Oc2x3
      go_wp2_with fail
      obtain ⟨x4, hx4⟩ : ∃ x4, x4 = x3.alloc (.cells #[.int .i64 p1, .int .i64 p2, .int .i64 p3] 46) := ⟨_, rfl⟩
      have bx4 : Below x3.heap.size x3 x4 := by rw [hx4]; exact (Below.refl _ _).alloc (Nat.le_refl _) _
      have nx4 : x4.heap[x3.heap.size]? = some (.cells #[.int .i64 p1, .int .i64 p2, .int .i64 p3] 46 (0, 0)) := by rw [hx4]; exact heap_alloc_new _ _
      have Bx4 := Lib.hid (Bx3.out.trans ((bx4).mono mx3))
      have mx4 : w.heap.size ≤ x4.heap.size := Nat.le_trans mx3 (bx4).size
      have Ex4 := Lib.hid (Ex3.out.below ((bx4).mono (by omega)))
      have Ix4 := Lib.hid ((Ix3.out.below (bx4)).mono (bx4).size)
      have Xx4 := Lib.hid (((bx4).block _ (heap_lt Xx3.out)).trans Xx3.out)
      have Jx4 := Lib.hid ((Jx3.out.below (bx4)).mono (bx4).size)
      have Ox4 := Lib.hid (((bx4).block _ (heap_lt Ox3.out)).trans Ox3.out)
      have Gx4 := Lib.hid ((Gx3.out.below (bx4)).mono (bx4).size)
      clear Bx3 mx3 Ex3 Ix3 Xx3 Jx3 Ox3 Gx3 Xc0x3 Xc1x3 Xc2x3 Oc0x3 Oc1x3 Oc2x3
      have Xc0x4 : x4.cell? ⟨w.heap.size, 0, none⟩ = some (.int .i64 x.cy) := by simp [World.cell?, Xx4.out]
      have Xc1x4 : x4.cell? ⟨w.heap.size, 1, none⟩ = some (.int .i64 x.gr) := by simp [World.cell?, Xx4.out]
      have Xc2x4 : x4.cell? ⟨w.heap.size, 2, none⟩ = some (.slice A x.cs.length cap) := by simp [World.cell?, Xx4.out]
      have Oc0x4 : x4.cell? ⟨w2.heap.size, 0, none⟩ = some (.int .i64 x.cy) := by simp [World.cell?, Ox4.out]
      have Oc1x4 : x4.cell? ⟨w2.heap.size, 1, none⟩ = some (.int .i64 x.gr) := by simp [World.cell?, Ox4.out]
      have Oc2x4 : x4.cell? ⟨w2.heap.size, 2, none⟩ = some (.slice CA x.cs.length ccap) := by simp [World.cell?, Ox4.out]
      rw [← hx4]
      clear hx4 bx4 Xa0 Xa1 Xa2 Oa0 Oa1 Oa2
      have Px4 := Lib.hid nx4
      clear nx4
      have Pc0x4 : x4.cell? ⟨x3.heap.size, 0, none⟩ = some (.int .i64 p1) := by simp [World.cell?, Px4.out]
      have Pc1x4 : x4.cell? ⟨x3.heap.size, 1, none⟩ = some (.int .i64 p2) := by simp [World.cell?, Px4.out]
      have Pc2x4 : x4.cell? ⟨x3.heap.size, 2, none⟩ = some (.int .i64 p3) := by simp [World.cell?, Px4.out]
      refine (WM.out x4 Ix4.out).mono ?_
      rintro e x5 ⟨rfl, hx5⟩
      have Bx5 := Lib.hid (Bx4.out.trans ((hx5).mono mx4))
      have mx5 : w.heap.size ≤ x5.heap.size := Nat.le_trans mx4 (hx5).size
      have Ex5 := Lib.hid (Ex4.out.below ((hx5).mono (by omega)))
      have Ix5 := Lib.hid ((Ix4.out.below (hx5)).mono (hx5).size)
      have Xx5 := Lib.hid (((hx5).block _ (heap_lt Xx4.out)).trans Xx4.out)
      have Jx5 := Lib.hid ((Jx4.out.below (hx5)).mono (hx5).size)
      have Ox5 := Lib.hid (((hx5).block _ (heap_lt Ox4.out)).trans Ox4.out)
      have Gx5 := Lib.hid ((Gx4.out.below (hx5)).mono (hx5).size)
      have Px5 := Lib.hid (((hx5).block _ (heap_lt Px4.out)).trans Px4.out)
      clear Bx4 mx4 Ex4 Ix4 Xx4 Jx4 Ox4 Gx4 Px4 Xc0x4 Xc1x4 Xc2x4 Oc0x4 Oc1x4 Oc2x4 Pc0x4 Pc1x4 Pc2x4
      have Xc0x5 : x5.cell? ⟨w.heap.size, 0, none⟩ = some (.int .i64 x.cy) := by simp [World.cell?, Xx5.out]
      have Xc1x5 : x5.cell? ⟨w.heap.size, 1, none⟩ = some (.int .i64 x.gr) := by simp [World.cell?, Xx5.out]
      have Xc2x5 : x5.cell? ⟨w.heap.size, 2, none⟩ = some (.slice A x.cs.length cap) := by simp [World.cell?, Xx5.out]
      have Oc0x5 : x5.cell? ⟨w2.heap.size, 0, none⟩ = some (.int .i64 x.cy) := by simp [World.cell?, Ox5.out]
      have Oc1x5 : x5.cell? ⟨w2.heap.size, 1, none⟩ = some (.int .i64 x.gr) := by simp [World.cell?, Ox5.out]
      have Oc2x5 : x5.cell? ⟨w2.heap.size, 2, none⟩ = some (.slice CA x.cs.length ccap) := by simp [World.cell?, Ox5.out]
      have Pc0x5 : x5.cell? ⟨x3.heap.size, 0, none⟩ = some (.int .i64 p1) := by simp [World.cell?, Px5.out]
      have Pc1x5 : x5.cell? ⟨x3.heap.size, 1, none⟩ = some (.int .i64 p2) := by simp [World.cell?, Px5.out]
      have Pc2x5 : x5.cell? ⟨x3.heap.size, 2, none⟩ = some (.int .i64 p3) := by simp [World.cell?, Px5.out]
      clear hx5
      clear WM
      have Xa0 : ∀ ob, (x5.alloc ob).cell? ⟨w.heap.size, 0, none⟩ = some (.int .i64 x.cy) := fun ob => (World.cell?_alloc_lt _ _ _ (heap_lt Xx5.out)).trans Xc0x5
      have Xa1 : ∀ ob, (x5.alloc ob).cell? ⟨w.heap.size, 1, none⟩ = some (.int .i64 x.gr) := fun ob => (World.cell?_alloc_lt _ _ _ (heap_lt Xx5.out)).trans Xc1x5
      have Xa2 : ∀ ob, (x5.alloc ob).cell? ⟨w.heap.size, 2, none⟩ = some (.slice A x.cs.length cap) := fun ob => (World.cell?_alloc_lt _ _ _ (heap_lt Xx5.out)).trans Xc2x5
      have Oa0 : ∀ ob, (x5.alloc ob).cell? ⟨w2.heap.size, 0, none⟩ = some (.int .i64 x.cy) := fun ob => (World.cell?_alloc_lt _ _ _ (heap_lt Ox5.out)).trans Oc0x5
      have Oa1 : ∀ ob, (x5.alloc ob).cell? ⟨w2.heap.size, 1, none⟩ = some (.int .i64 x.gr) := fun ob => (World.cell?_alloc_lt _ _ _ (heap_lt Ox5.out)).trans Oc1x5
      have Oa2 : ∀ ob, (x5.alloc ob).cell? ⟨w2.heap.size, 2, none⟩ = some (.slice CA x.cs.length ccap) := fun ob => (World.cell?_alloc_lt _ _ _ (heap_lt Ox5.out)).trans Oc2x5
      have Pa0 : ∀ ob, (x5.alloc ob).cell? ⟨x3.heap.size, 0, none⟩ = some (.int .i64 p1) := fun ob => (World.cell?_alloc_lt _ _ _ (heap_lt Px5.out)).trans Pc0x5
      have Pa1 : ∀ ob, (x5.alloc ob).cell? ⟨x3.heap.size, 1, none⟩ = some (.int .i64 p2) := fun ob => (World.cell?_alloc_lt _ _ _ (heap_lt Px5.out)).trans Pc1x5
      have Pa2 : ∀ ob, (x5.alloc ob).cell? ⟨x3.heap.size, 2, none⟩ = some (.int .i64 p3) := fun ob => (World.cell?_alloc_lt _ _ _ (heap_lt Px5.out)).trans Pc2x5
      go_wp2_with fail
      obtain ⟨x6, hx6⟩ : ∃ x6, x6 = x5.alloc (.cells #[.int .i64 p1, .int .i64 p2, .int .i64 p3] 46) := ⟨_, rfl⟩
      have bx6 : Below x5.heap.size x5 x6 := by rw [hx6]; exact (Below.refl _ _).alloc (Nat.le_refl _) _
      have nx6 : x6.heap[x5.heap.size]? = some (.cells #[.int .i64 p1, .int .i64 p2, .int .i64 p3] 46 (0, 0)) := by rw [hx6]; exact heap_alloc_new _ _
      have Bx6 := Lib.hid (Bx5.out.trans ((bx6).mono mx5))
      have mx6 : w.heap.size ≤ x6.heap.size := Nat.le_trans mx5 (bx6).size
      have Ex6 := Lib.hid (Ex5.out.below ((bx6).mono (by omega)))
      have Ix6 := Lib.hid ((Ix5.out.below (bx6)).mono (bx6).size)
      have Xx6 := Lib.hid (((bx6).block _ (heap_lt Xx5.out)).trans Xx5.out)
      have Jx6 := Lib.hid ((Jx5.out.below (bx6)).mono (bx6).size)
      have Ox6 := Lib.hid (((bx6).block _ (heap_lt Ox5.out)).trans Ox5.out)
      have Gx6 := Lib.hid ((Gx5.out.below (bx6)).mono (bx6).size)
      have Px6 := Lib.hid (((bx6).block _ (heap_lt Px5.out)).trans Px5.out)
      clear Bx5 mx5 Ex5 Ix5 Xx5 Jx5 Ox5 Gx5 Px5 Xc0x5 Xc1x5 Xc2x5 Oc0x5 Oc1x5 Oc2x5 Pc0x5 Pc1x5 Pc2x5
      have Xc0x6 : x6.cell? ⟨w.heap.size, 0, none⟩ = some (.int .i64 x.cy) := by simp [World.cell?, Xx6.out]
      have Xc1x6 : x6.cell? ⟨w.heap.size, 1, none⟩ = some (.int .i64 x.gr) := by simp [World.cell?, Xx6.out]
      have Xc2x6 : x6.cell? ⟨w.heap.size, 2, none⟩ = some (.slice A x.cs.length cap) := by simp [World.cell?, Xx6.out]
      have Oc0x6 : x6.cell? ⟨w2.heap.size, 0, none⟩ = some (.int .i64 x.cy) := by simp [World.cell?, Ox6.out]
      have Oc1x6 : x6.cell? ⟨w2.heap.size, 1, none⟩ = some (.int .i64 x.gr) := by simp [World.cell?, Ox6.out]
      have Oc2x6 : x6.cell? ⟨w2.heap.size, 2, none⟩ = some (.slice CA x.cs.length ccap) := by simp [World.cell?, Ox6.out]
      have Pc0x6 : x6.cell? ⟨x3.heap.size, 0, none⟩ = some (.int .i64 p1) := by simp [World.cell?, Px6.out]
      have Pc1x6 : x6.cell? ⟨x3.heap.size, 1, none⟩ = some (.int .i64 p2) := by simp [World.cell?, Px6.out]
      have Pc2x6 : x6.cell? ⟨x3.heap.size, 2, none⟩ = some (.int .i64 p3) := by simp [World.cell?, Px6.out]
      rw [← hx6]
      clear hx6 bx6 Xa0 Xa1 Xa2 Oa0 Oa1 Oa2 Pa0 Pa1 Pa2
      have Qx6 := Lib.hid nx6
      clear nx6
      have Qc0x6 : x6.cell? ⟨x5.heap.size, 0, none⟩ = some (.int .i64 p1) := by simp [World.cell?, Qx6.out]
      have Qc1x6 : x6.cell? ⟨x5.heap.size, 1, none⟩ = some (.int .i64 p2) := by simp [World.cell?, Qx6.out]
      have Qc2x6 : x6.cell? ⟨x5.heap.size, 2, none⟩ = some (.int .i64 p3) := by simp [World.cell?, Qx6.out]
      have T1 := near28 x CA ccap i k x6 Jx6.out hcc
      obtain ⟨n1, hn1⟩ : ∃ a, a = (nearR x i k).1.1 := ⟨_, rfl⟩
      obtain ⟨n2, hn2⟩ : ∃ a, a = (nearR x i k).1.2 := ⟨_, rfl⟩
      obtain ⟨n3, hn3⟩ : ∃ a, a = (nearR x i k).2 := ⟨_, rfl⟩
      rw [← hn1, ← hn2, ← hn3] at T1
      have NM := Lib.hid (fun w' hc => near29 x A cap i k w' hc hcap hcm)
      rw [← hn1, ← hn2, ← hn3] at NM
      clear hn1 hn2 hn3
      refine (T1).mono ?_
      rintro e x7 ⟨rfl, hx7⟩
      have Bx7 := Lib.hid (Bx6.out.trans ((hx7).mono mx6))
      have mx7 : w.heap.size ≤ x7.heap.size := Nat.le_trans mx6 (hx7).size
      have Ex7 := Lib.hid (Ex6.out.below ((hx7).mono (by omega)))
      have Ix7 := Lib.hid ((Ix6.out.below (hx7)).mono (hx7).size)
      have Xx7 := Lib.hid (((hx7).block _ (heap_lt Xx6.out)).trans Xx6.out)
      have Jx7 := Lib.hid ((Jx6.out.below (hx7)).mono (hx7).size)
      have Ox7 := Lib.hid (((hx7).block _ (heap_lt Ox6.out)).trans Ox6.out)
      have Gx7 := Lib.hid ((Gx6.out.below (hx7)).mono (hx7).size)
      have Px7 := Lib.hid (((hx7).block _ (heap_lt Px6.out)).trans Px6.out)
      have Qx7 := Lib.hid (((hx7).block _ (heap_lt Qx6.out)).trans Qx6.out)
      clear Bx6 mx6 Ex6 Ix6 Xx6 Jx6 Ox6 Gx6 Px6 Qx6 Xc0x6 Xc1x6 Xc2x6 Oc0x6 Oc1x6 Oc2x6 Pc0x6 Pc1x6 Pc2x6 Qc0x6 Qc1x6 Qc2x6
      have Xc0x7 : x7.cell? ⟨w.heap.size, 0, none⟩ = some (.int .i64 x.cy) := by simp [World.cell?, Xx7.out]
      have Xc1x7 : x7.cell? ⟨w.heap.size, 1, none⟩ = some (.int .i64 x.gr) := by simp [World.cell?, Xx7.out]
      have Xc2x7 : x7.cell? ⟨w.heap.size, 2, none⟩ = some (.slice A x.cs.length cap) := by simp [World.cell?, Xx7.out]
      have Oc0x7 : x7.cell? ⟨w2.heap.size, 0, none⟩ = some (.int .i64 x.cy) := by simp [World.cell?, Ox7.out]
      have Oc1x7 : x7.cell? ⟨w2.heap.size, 1, none⟩ = some (.int .i64 x.gr) := by simp [World.cell?, Ox7.out]
      have Oc2x7 : x7.cell? ⟨w2.heap.size, 2, none⟩ = some (.slice CA x.cs.length ccap) := by simp [World.cell?, Ox7.out]
      have Pc0x7 : x7.cell? ⟨x3.heap.size, 0, none⟩ = some (.int .i64 p1) := by simp [World.cell?, Px7.out]
      have Pc1x7 : x7.cell? ⟨x3.heap.size, 1, none⟩ = some (.int .i64 p2) := by simp [World.cell?, Px7.out]
      have Pc2x7 : x7.cell? ⟨x3.heap.size, 2, none⟩ = some (.int .i64 p3) := by simp [World.cell?, Px7.out]
      have Qc0x7 : x7.cell? ⟨x5.heap.size, 0, none⟩ = some (.int .i64 p1) := by simp [World.cell?, Qx7.out]
      have Qc1x7 : x7.cell? ⟨x5.heap.size, 1, none⟩ = some (.int .i64 p2) := by simp [World.cell?, Qx7.out]
      have Qc2x7 : x7.cell? ⟨x5.heap.size, 2, none⟩ = some (.int .i64 p3) := by simp [World.cell?, Qx7.out]
      clear hx7
      clear T1
      go_wp2_with fail
      refine (NM.out x7 Ix7.out).mono ?_
      rintro e x8 ⟨rfl, hx8⟩
      have Bx8 := Lib.hid (Bx7.out.trans ((hx8).mono mx7))
      have mx8 : w.heap.size ≤ x8.heap.size := Nat.le_trans mx7 (hx8).size
      have Ex8 := Lib.hid (Ex7.out.below ((hx8).mono (by omega)))
      have Ix8 := Lib.hid ((Ix7.out.below (hx8)).mono (hx8).size)
      have Xx8 := Lib.hid (((hx8).block _ (heap_lt Xx7.out)).trans Xx7.out)
      have Jx8 := Lib.hid ((Jx7.out.below (hx8)).mono (hx8).size)
      have Ox8 := Lib.hid (((hx8).block _ (heap_lt Ox7.out)).trans Ox7.out)
      have Gx8 := Lib.hid ((Gx7.out.below (hx8)).mono (hx8).size)
      have Px8 := Lib.hid (((hx8).block _ (heap_lt Px7.out)).trans Px7.out)
      have Qx8 := Lib.hid (((hx8).block _ (heap_lt Qx7.out)).trans Qx7.out)
      clear Bx7 mx7 Ex7 Ix7 Xx7 Jx7 Ox7 Gx7 Px7 Qx7 Xc0x7 Xc1x7 Xc2x7 Oc0x7 Oc1x7 Oc2x7 Pc0x7 Pc1x7 Pc2x7 Qc0x7 Qc1x7 Qc2x7
      have Xc0x8 : x8.cell? ⟨w.heap.size, 0, none⟩ = some (.int .i64 x.cy) := by simp [World.cell?, Xx8.out]
      have Xc1x8 : x8.cell? ⟨w.heap.size, 1, none⟩ = some (.int .i64 x.gr) := by simp [World.cell?, Xx8.out]
      have Xc2x8 : x8.cell? ⟨w.heap.size, 2, none⟩ = some (.slice A x.cs.length cap) := by simp [World.cell?, Xx8.out]
      have Oc0x8 : x8.cell? ⟨w2.heap.size, 0, none⟩ = some (.int .i64 x.cy) := by simp [World.cell?, Ox8.out]
      have Oc1x8 : x8.cell? ⟨w2.heap.size, 1, none⟩ = some (.int .i64 x.gr) := by simp [World.cell?, Ox8.out]
      have Oc2x8 : x8.cell? ⟨w2.heap.size, 2, none⟩ = some (.slice CA x.cs.length ccap) := by simp [World.cell?, Ox8.out]
      have Pc0x8 : x8.cell? ⟨x3.heap.size, 0, none⟩ = some (.int .i64 p1) := by simp [World.cell?, Px8.out]
      have Pc1x8 : x8.cell? ⟨x3.heap.size, 1, none⟩ = some (.int .i64 p2) := by simp [World.cell?, Px8.out]
      have Pc2x8 : x8.cell? ⟨x3.heap.size, 2, none⟩ = some (.int .i64 p3) := by simp [World.cell?, Px8.out]
      have Qc0x8 : x8.cell? ⟨x5.heap.size, 0, none⟩ = some (.int .i64 p1) := by simp [World.cell?, Qx8.out]
      have Qc1x8 : x8.cell? ⟨x5.heap.size, 1, none⟩ = some (.int .i64 p2) := by simp [World.cell?, Qx8.out]
      have Qc2x8 : x8.cell? ⟨x5.heap.size, 2, none⟩ = some (.int .i64 p3) := by simp [World.cell?, Qx8.out]
      clear hx8
      clear NM
      go_wp2_with fail
      refine (same17 x CA A ccap cap x8 Jx8.out Ix8.out (by omega) HL1000.out).mono ?_
      rintro e x9 ⟨rfl, hx9⟩
      have Bx9 := Lib.hid (Bx8.out.trans ((hx9).mono mx8))
      have mx9 : w.heap.size ≤ x9.heap.size := Nat.le_trans mx8 (hx9).size
      have Ex9 := Lib.hid (Ex8.out.below ((hx9).mono (by omega)))
      have Ix9 := Lib.hid ((Ix8.out.below (hx9)).mono (hx9).size)
      have Xx9 := Lib.hid (((hx9).block _ (heap_lt Xx8.out)).trans Xx8.out)
      have Jx9 := Lib.hid ((Jx8.out.below (hx9)).mono (hx9).size)
      have Ox9 := Lib.hid (((hx9).block _ (heap_lt Ox8.out)).trans Ox8.out)
      have Gx9 := Lib.hid ((Gx8.out.below (hx9)).mono (hx9).size)
      have Px9 := Lib.hid (((hx9).block _ (heap_lt Px8.out)).trans Px8.out)
      have Qx9 := Lib.hid (((hx9).block _ (heap_lt Qx8.out)).trans Qx8.out)
      clear Bx8 mx8 Ex8 Ix8 Xx8 Jx8 Ox8 Gx8 Px8 Qx8 Xc0x8 Xc1x8 Xc2x8 Oc0x8 Oc1x8 Oc2x8 Pc0x8 Pc1x8 Pc2x8 Qc0x8 Qc1x8 Qc2x8
      have Xc0x9 : x9.cell? ⟨w.heap.size, 0, none⟩ = some (.int .i64 x.cy) := by simp [World.cell?, Xx9.out]
      have Xc1x9 : x9.cell? ⟨w.heap.size, 1, none⟩ = some (.int .i64 x.gr) := by simp [World.cell?, Xx9.out]
      have Xc2x9 : x9.cell? ⟨w.heap.size, 2, none⟩ = some (.slice A x.cs.length cap) := by simp [World.cell?, Xx9.out]
      have Oc0x9 : x9.cell? ⟨w2.heap.size, 0, none⟩ = some (.int .i64 x.cy) := by simp [World.cell?, Ox9.out]
      have Oc1x9 : x9.cell? ⟨w2.heap.size, 1, none⟩ = some (.int .i64 x.gr) := by simp [World.cell?, Ox9.out]
      have Oc2x9 : x9.cell? ⟨w2.heap.size, 2, none⟩ = some (.slice CA x.cs.length ccap) := by simp [World.cell?, Ox9.out]
      have Pc0x9 : x9.cell? ⟨x3.heap.size, 0, none⟩ = some (.int .i64 p1) := by simp [World.cell?, Px9.out]
      have Pc1x9 : x9.cell? ⟨x3.heap.size, 1, none⟩ = some (.int .i64 p2) := by simp [World.cell?, Px9.out]
      have Pc2x9 : x9.cell? ⟨x3.heap.size, 2, none⟩ = some (.int .i64 p3) := by simp [World.cell?, Px9.out]
      have Qc0x9 : x9.cell? ⟨x5.heap.size, 0, none⟩ = some (.int .i64 p1) := by simp [World.cell?, Qx9.out]
      have Qc1x9 : x9.cell? ⟨x5.heap.size, 1, none⟩ = some (.int .i64 p2) := by simp [World.cell?, Qx9.out]
      have Qc2x9 : x9.cell? ⟨x5.heap.size, 2, none⟩ = some (.int .i64 p3) := by simp [World.cell?, Qx9.out]
      clear hx9
      go_wp2_with fail
      refine (awake11 8 x9 Ex9.out (by omega)).mono ?_
      rintro e x10 ⟨rfl, hx10⟩
      have Bx10 := Lib.hid (Bx9.out.trans ((hx10).mono mx9))
      have mx10 : w.heap.size ≤ x10.heap.size := Nat.le_trans mx9 (hx10).size
      have Ex10 := Lib.hid (Ex9.out.below ((hx10).mono (by omega)))
      have Ix10 := Lib.hid ((Ix9.out.below (hx10)).mono (hx10).size)
      have Xx10 := Lib.hid (((hx10).block _ (heap_lt Xx9.out)).trans Xx9.out)
      have Jx10 := Lib.hid ((Jx9.out.below (hx10)).mono (hx10).size)
      have Ox10 := Lib.hid (((hx10).block _ (heap_lt Ox9.out)).trans Ox9.out)
      have Gx10 := Lib.hid ((Gx9.out.below (hx10)).mono (hx10).size)
      have Px10 := Lib.hid (((hx10).block _ (heap_lt Px9.out)).trans Px9.out)
      have Qx10 := Lib.hid (((hx10).block _ (heap_lt Qx9.out)).trans Qx9.out)
      clear Bx9 mx9 Ex9 Ix9 Xx9 Jx9 Ox9 Gx9 Px9 Qx9 Xc0x9 Xc1x9 Xc2x9 Oc0x9 Oc1x9 Oc2x9 Pc0x9 Pc1x9 Pc2x9 Qc0x9 Qc1x9 Qc2x9
      have Xc0x10 : x10.cell? ⟨w.heap.size, 0, none⟩ = some (.int .i64 x.cy) := by simp [World.cell?, Xx10.out]
      have Xc1x10 : x10.cell? ⟨w.heap.size, 1, none⟩ = some (.int .i64 x.gr) := by simp [World.cell?, Xx10.out]
      have Xc2x10 : x10.cell? ⟨w.heap.size, 2, none⟩ = some (.slice A x.cs.length cap) := by simp [World.cell?, Xx10.out]
      have Oc0x10 : x10.cell? ⟨w2.heap.size, 0, none⟩ = some (.int .i64 x.cy) := by simp [World.cell?, Ox10.out]
      have Oc1x10 : x10.cell? ⟨w2.heap.size, 1, none⟩ = some (.int .i64 x.gr) := by simp [World.cell?, Ox10.out]
      have Oc2x10 : x10.cell? ⟨w2.heap.size, 2, none⟩ = some (.slice CA x.cs.length ccap) := by simp [World.cell?, Ox10.out]
      have Pc0x10 : x10.cell? ⟨x3.heap.size, 0, none⟩ = some (.int .i64 p1) := by simp [World.cell?, Px10.out]
      have Pc1x10 : x10.cell? ⟨x3.heap.size, 1, none⟩ = some (.int .i64 p2) := by simp [World.cell?, Px10.out]
      have Pc2x10 : x10.cell? ⟨x3.heap.size, 2, none⟩ = some (.int .i64 p3) := by simp [World.cell?, Px10.out]
      have Qc0x10 : x10.cell? ⟨x5.heap.size, 0, none⟩ = some (.int .i64 p1) := by simp [World.cell?, Qx10.out]
      have Qc1x10 : x10.cell? ⟨x5.heap.size, 1, none⟩ = some (.int .i64 p2) := by simp [World.cell?, Qx10.out]
      have Qc2x10 : x10.cell? ⟨x5.heap.size, 2, none⟩ = some (.int .i64 p3) := by simp [World.cell?, Qx10.out]
      clear hx10
      go_wp2_with fail
      go_ret
      exact ⟨rfl, Bx10.out⟩
end Go.Proofs.YtnnnpliigdfipaaGreatDoor
