/- EncounterPulls: the walk. -/
import Derived.Test.YtnnnpliigdfipaaGreatDoorRows
import Derived.WalkKit
import Derived.WalkLawsBesides
import Derived.WalkSpells
import Derived.ProofKit
import Derived.Below
import Derived.Outline
import Derived.Lib.Hide
import Derived.Deep.RegionWith
import Derived.Deep.RegionHeld3
import Derived.Deep.DrawnRows
import Derived.StillTailTactics
import Derived.BigQuiet
import Derived.Deep.QuietTactic
import Derived.Deep.LoopGhost
import Derived.IntWalk
import Derived.Lib.MinMax
import Derived.Test.YtnnnpliigdfipaaGreatDoorEnDB
import Derived.Test.YtnnnpliigdfipaaGreatDoorEnE
import Derived.Test.YtnnnpliigdfipaaGreatDoorEnG7
import Derived.Test.YtnnnpliigdfipaaGreatDoorEnF1
namespace Go.Proofs.YtnnnpliigdfipaaGreatDoor
open Go.RowKit
attribute [local go_sem ↓] Go.wp_at_zero Go.wp_at_succ
attribute [local go_sem] wrap_lit
/-- a path in memory: heights and speeds -/
def PathV (w : World) (g : Nat) (c : Cr) (N : Nat) : Prop := ∀ j, j ≤ N → w.cell? ⟨g, j * 2, none⟩ = some (.int .i64 (flyN c j).1) ∧ w.cell? ⟨g, j * 2 + 1, none⟩ = some (.int .i64 (flyN c j).2)
theorem PathV.below {w w1 : World} {B g : Nat} {c : Cr} {N : Nat} (h : PathV w g c N) (hb : Below B w w1) (hg : g < B) : PathV w1 g c N := fun j hj => ⟨(hb.cell (p := ⟨g, j * 2, none⟩) hg).trans (h j hj).1, (hb.cell (p := ⟨g, j * 2 + 1, none⟩) hg).trans (h j hj).2⟩
/-- the block lies in the world, and the path in it -/
def PathG (w : World) (g : Nat) (c : Cr) (N : Nat) : Prop := g < w.heap.size ∧ PathV w g c N
theorem PathG.below {w w1 : World} {g : Nat} {c : Cr} {N : Nat} (h : PathG w g c N) (hb : Below w.heap.size w w1) : PathG w1 g c N := ⟨Nat.lt_of_lt_of_le h.1 hb.size, h.2.below hb h.1⟩
theorem Own.pathV {w : World} {B : Nat} {A : Option Addr} {T : TypeId} {c : Cr} {N : Nat} (h : Own .i64 w B A T (flat (pathL c N))) : ∃ g, A = some ⟨g, 0, none⟩ ∧ B ≤ g ∧ g < w.heap.size ∧ PathV w g c N := by
  obtain ⟨g, cs, e, hB, hh, hc⟩ := h (by simp [flat2_len, pathL_len])
  refine ⟨g, e, hB, heap_lt hh, fun j hj => ?_⟩
  have ep := hc (j * 2) (by rw [flat2_len, pathL_len]; omega)
  have eq := hc (j * 2 + 1) (by rw [flat2_len, pathL_len]; omega)
  rw [(nth_path hj).1] at ep
  rw [(nth_path hj).2] at eq
  exact ⟨by simp [World.cell?, hh, ep], by simp [World.cell?, hh, eq]⟩
theorem aimE_bd {c : Cr} {cy : Int} (g : Good c cy) (n : Nat) : -100 ≤ aimE c n ∧ aimE c n ≤ 100 := aimF_bd _ _ g.v (fun x hx => (g.lg x hx).2)
set_option maxRecDepth 100000 in
set_option maxHeartbeats 40000000 in
theorem pulls7 (x : En) (A : Option Addr) (cap : Nat) (i : Int) (w : World) (E : Env 8 w) (h8 : 8 ≤ w.heap.size) (hc : InCr w w.heap.size A x.cs) (hcap : x.cs.length ≤ cap) (hN : x.cs.length ≤ maxLen) :
    Calls Tryz.prog 7 #[.agg #[.int .i64 x.cy, .int .i64 x.gr, .slice A x.cs.length cap], .int .i64 i] w fun e w' => e = .returned (.bool true) ∧ Below w.heap.size w w' := by
  have Ew := Lib.hid E
  have Iw := Lib.hid hc
  clear E hc
  have LG := Lib.hid (fun w' hc => long10 x A cap w' hc hN)
  clear hN
  go_enter Tryz.func7, Tryz.ntmps7
  go_wp2_with fail
  obtain ⟨w0, hw0⟩ : ∃ w0, w0 = w.alloc (.cells #[.int .i64 x.cy, .int .i64 x.gr, .slice A x.cs.length cap] 24) := ⟨_, rfl⟩
  have bw0 : Below w.heap.size w w0 := by rw [hw0]; exact (Below.refl _ _).alloc (Nat.le_refl _) _
  have nw0 : w0.heap[w.heap.size]? = some (.cells #[.int .i64 x.cy, .int .i64 x.gr, .slice A x.cs.length cap] 24 (0, 0)) := by rw [hw0]; exact heap_alloc_new _ _
  have Bw0 : Hid (Below w.heap.size w w0) := Lib.hid ((bw0))
  have mw0 : w.heap.size ≤ w0.heap.size := (bw0).size
  have Ew0 := Lib.hid (Ew.out.below ((bw0).mono (by omega)))
  have Iw0 := Lib.hid ((Iw.out.below (bw0)).mono (bw0).size)
  clear Ew Iw
  rw [← hw0]
  clear hw0 bw0
  have Xw0 := Lib.hid nw0
  clear nw0
  have Xc0w0 : w0.cell? ⟨w.heap.size, 0, none⟩ = some (.int .i64 x.cy) := by simp [World.cell?, Xw0.out]
  have Xc1w0 : w0.cell? ⟨w.heap.size, 1, none⟩ = some (.int .i64 x.gr) := by simp [World.cell?, Xw0.out]
  have Xc2w0 : w0.cell? ⟨w.heap.size, 2, none⟩ = some (.slice A x.cs.length cap) := by simp [World.cell?, Xw0.out]
  refine (LG.out w0 Iw0.out).mono ?_
  rintro e w1 ⟨rfl, hw1⟩
  have Bw1 := Lib.hid (Bw0.out.trans ((hw1).mono mw0))
  have mw1 : w.heap.size ≤ w1.heap.size := Nat.le_trans mw0 (hw1).size
  have Ew1 := Lib.hid (Ew0.out.below ((hw1).mono (by omega)))
  have Iw1 := Lib.hid ((Iw0.out.below (hw1)).mono (hw1).size)
  have Xw1 := Lib.hid (((hw1).block _ (heap_lt Xw0.out)).trans Xw0.out)
  clear Bw0 mw0 Ew0 Iw0 Xw0 Xc0w0 Xc1w0 Xc2w0
  have Xc0w1 : w1.cell? ⟨w.heap.size, 0, none⟩ = some (.int .i64 x.cy) := by simp [World.cell?, Xw1.out]
  have Xc1w1 : w1.cell? ⟨w.heap.size, 1, none⟩ = some (.int .i64 x.gr) := by simp [World.cell?, Xw1.out]
  have Xc2w1 : w1.cell? ⟨w.heap.size, 2, none⟩ = some (.slice A x.cs.length cap) := by simp [World.cell?, Xw1.out]
  clear hw1
  by_cases hlg : lgB x = true
  · go_wp2_with fail
    refine (awake11 8 w1 Ew1.out (by omega)).mono ?_
    rintro e v1 ⟨rfl, hv1⟩
    have Bv1 := Lib.hid (Bw1.out.trans ((hv1).mono mw1))
    have mv1 : w.heap.size ≤ v1.heap.size := Nat.le_trans mw1 (hv1).size
    have Ev1 := Lib.hid (Ew1.out.below ((hv1).mono (by omega)))
    have Iv1 := Lib.hid ((Iw1.out.below (hv1)).mono (hv1).size)
    have Xv1 := Lib.hid (((hv1).block _ (heap_lt Xw1.out)).trans Xw1.out)
    clear Bw1 mw1 Ew1 Iw1 Xw1 Xc0w1 Xc1w1 Xc2w1
    have Xc0v1 : v1.cell? ⟨w.heap.size, 0, none⟩ = some (.int .i64 x.cy) := by simp [World.cell?, Xv1.out]
    have Xc1v1 : v1.cell? ⟨w.heap.size, 1, none⟩ = some (.int .i64 x.gr) := by simp [World.cell?, Xv1.out]
    have Xc2v1 : v1.cell? ⟨w.heap.size, 2, none⟩ = some (.slice A x.cs.length cap) := by simp [World.cell?, Xv1.out]
    clear hv1
    go_wp2_with fail
    go_ret
    exact ⟨rfl, Bv1.out⟩
  have hlg' : lgB x = false := by cases h : lgB x <;> simp_all
  clear hlg
  go_wp2_with fail
  refine (awake11 8 w1 Ew1.out (by omega)).mono ?_
  rintro e w2 ⟨rfl, hw2⟩
  have Bw2 := Lib.hid (Bw1.out.trans ((hw2).mono mw1))
  have mw2 : w.heap.size ≤ w2.heap.size := Nat.le_trans mw1 (hw2).size
  have Ew2 := Lib.hid (Ew1.out.below ((hw2).mono (by omega)))
  have Iw2 := Lib.hid ((Iw1.out.below (hw2)).mono (hw2).size)
  have Xw2 := Lib.hid (((hw2).block _ (heap_lt Xw1.out)).trans Xw1.out)
  clear Bw1 mw1 Ew1 Iw1 Xw1 Xc0w1 Xc1w1 Xc2w1
  have Xc0w2 : w2.cell? ⟨w.heap.size, 0, none⟩ = some (.int .i64 x.cy) := by simp [World.cell?, Xw2.out]
  have Xc1w2 : w2.cell? ⟨w.heap.size, 1, none⟩ = some (.int .i64 x.gr) := by simp [World.cell?, Xw2.out]
  have Xc2w2 : w2.cell? ⟨w.heap.size, 2, none⟩ = some (.slice A x.cs.length cap) := by simp [World.cell?, Xw2.out]
  clear hw2
  go_wp2_with fail
  by_cases hnum : numE x [i] = 0
  · obtain ⟨h0, hi⟩ := numE_0 hnum
    have hi0 := hi 0 (by simp)
    obtain ⟨n0, rfl⟩ : ∃ n0 : Nat, i = n0 := ⟨i.toNat, by have : nth [i] 0 = i := rfl; omega⟩
    have hn0 : n0 < x.cs.length := by have : nth [(n0 : Int)] 0 = n0 := rfl; omega
    obtain ⟨c, hcj⟩ : ∃ c, x.cs[n0]? = some c := ⟨_, List.getElem?_eq_getElem hn0⟩
    have OK := chE_ok h0
    obtain ⟨N, hN⟩ : ∃ N : Nat, x.cy = N := ⟨x.cy.toNat, by omega⟩
    have hN1 : 1 ≤ N ∧ N ≤ 120 := by omega
    have GD := Lib.hid (good_of OK.1.1 OK.1.2 (cr_ok hcj OK.2.2.2.2).2)
    have PC : pathR x n0 = (pathL c N, 0) := by rw [path_of h0 hcj, hN]; rfl
    have JC := Lib.hid hcj
    have HN := Lib.hid hN
    have HNUM := Lib.hid hnum
    clear hi hi0 hcj OK h0 hnum hN
    have PP := path22 x A cap n0 w2 Iw2.out hcap
    rw [PC] at PP
    clear PC
    refine (PP).mono ?_
    rintro e w3 ⟨PA, pcap, rfl, hown, hw3⟩
    have Bw3 := Lib.hid (Bw2.out.trans ((hw3).mono mw2))
    have mw3 : w.heap.size ≤ w3.heap.size := Nat.le_trans mw2 (hw3).size
    have Ew3 := Lib.hid (Ew2.out.below ((hw3).mono (by omega)))
    have Iw3 := Lib.hid ((Iw2.out.below (hw3)).mono (hw3).size)
    have Xw3 := Lib.hid (((hw3).block _ (heap_lt Xw2.out)).trans Xw2.out)
    clear Bw2 mw2 Ew2 Iw2 Xw2 Xc0w2 Xc1w2 Xc2w2
    have Xc0w3 : w3.cell? ⟨w.heap.size, 0, none⟩ = some (.int .i64 x.cy) := by simp [World.cell?, Xw3.out]
    have Xc1w3 : w3.cell? ⟨w.heap.size, 1, none⟩ = some (.int .i64 x.gr) := by simp [World.cell?, Xw3.out]
    have Xc2w3 : w3.cell? ⟨w.heap.size, 2, none⟩ = some (.slice A x.cs.length cap) := by simp [World.cell?, Xw3.out]
    clear hw3
    obtain ⟨g, rfl, hg, zg, hp⟩ := Own.pathV hown
    clear hown
    have Pw3 : Hid (PathG w3 g c N) := Lib.hid ⟨zg, hp⟩
    clear hp zg
    rw [show (pathL c N, (0 : Int)).1.length = N + 1 from pathL_len _ _]
    obtain ⟨cb, off, rfl, hcb, hcr⟩ := Iw3.out (by omega)
    obtain ⟨LA, lcap, hat, -⟩ := hcr n0 c JC.out
    clear hcr
    obtain ⟨c0, c1, c2, c3, c4, c5, c6, c7, c8, c9, c10, c11, c12⟩ := hat
    have hltI : (n0 : Int) < (x.cs.length : Int) := by omega
    clear PP
    go_wp2_with fail
    obtain ⟨w4, hw4⟩ : ∃ w4, w4 = w3.alloc (.cells #[.int .i64 c.ad, .int .i64 c.p.x, .int .i64 c.p.y, .int .i64 c.p.z, .int .i64 c.v.x, .int .i64 c.v.y, .int .i64 c.v.z, .int .i64 c.pu, .slice LA c.lg.length lcap, .int .u8 c.mo, .int .i64 c.de, .int .i64 c.pp, .int .i64 c.mi] 63) := ⟨_, rfl⟩
    have bw4 : Below w3.heap.size w3 w4 := by rw [hw4]; exact (Below.refl _ _).alloc (Nat.le_refl _) _
    have nw4 : w4.heap[w3.heap.size]? = some (.cells #[.int .i64 c.ad, .int .i64 c.p.x, .int .i64 c.p.y, .int .i64 c.p.z, .int .i64 c.v.x, .int .i64 c.v.y, .int .i64 c.v.z, .int .i64 c.pu, .slice LA c.lg.length lcap, .int .u8 c.mo, .int .i64 c.de, .int .i64 c.pp, .int .i64 c.mi] 63 (0, 0)) := by rw [hw4]; exact heap_alloc_new _ _
    have Bw4 := Lib.hid (Bw3.out.trans ((bw4).mono mw3))
    have mw4 : w.heap.size ≤ w4.heap.size := Nat.le_trans mw3 (bw4).size
    have Ew4 := Lib.hid (Ew3.out.below ((bw4).mono (by omega)))
    have Iw4 := Lib.hid ((Iw3.out.below (bw4)).mono (bw4).size)
    have Xw4 := Lib.hid (((bw4).block _ (heap_lt Xw3.out)).trans Xw3.out)
    have Pw4 := Lib.hid (Pw3.out.below (bw4))
    clear Bw3 mw3 Ew3 Iw3 Xw3 Pw3 Xc0w3 Xc1w3 Xc2w3
    have Xc0w4 : w4.cell? ⟨w.heap.size, 0, none⟩ = some (.int .i64 x.cy) := by simp [World.cell?, Xw4.out]
    have Xc1w4 : w4.cell? ⟨w.heap.size, 1, none⟩ = some (.int .i64 x.gr) := by simp [World.cell?, Xw4.out]
    have Xc2w4 : w4.cell? ⟨w.heap.size, 2, none⟩ = some (.slice (some ⟨cb, off, none⟩) x.cs.length cap) := by simp [World.cell?, Xw4.out]
    rw [← hw4]
    clear hw4 bw4
    have Cw4 := Lib.hid nw4
    clear nw4
    have Cc0w4 : w4.cell? ⟨w3.heap.size, 0, none⟩ = some (.int .i64 c.ad) := by simp [World.cell?, Cw4.out]
    have Cc1w4 : w4.cell? ⟨w3.heap.size, 1, none⟩ = some (.int .i64 c.p.x) := by simp [World.cell?, Cw4.out]
    have Cc2w4 : w4.cell? ⟨w3.heap.size, 2, none⟩ = some (.int .i64 c.p.y) := by simp [World.cell?, Cw4.out]
    have Cc3w4 : w4.cell? ⟨w3.heap.size, 3, none⟩ = some (.int .i64 c.p.z) := by simp [World.cell?, Cw4.out]
    have Cc4w4 : w4.cell? ⟨w3.heap.size, 4, none⟩ = some (.int .i64 c.v.x) := by simp [World.cell?, Cw4.out]
    have Cc5w4 : w4.cell? ⟨w3.heap.size, 5, none⟩ = some (.int .i64 c.v.y) := by simp [World.cell?, Cw4.out]
    have Cc6w4 : w4.cell? ⟨w3.heap.size, 6, none⟩ = some (.int .i64 c.v.z) := by simp [World.cell?, Cw4.out]
    have Cc7w4 : w4.cell? ⟨w3.heap.size, 7, none⟩ = some (.int .i64 c.pu) := by simp [World.cell?, Cw4.out]
    have Cc8w4 : w4.cell? ⟨w3.heap.size, 8, none⟩ = some (.slice LA c.lg.length lcap) := by simp [World.cell?, Cw4.out]
    have Cc9w4 : w4.cell? ⟨w3.heap.size, 9, none⟩ = some (.int .u8 c.mo) := by simp [World.cell?, Cw4.out]
    have Cc10w4 : w4.cell? ⟨w3.heap.size, 10, none⟩ = some (.int .i64 c.de) := by simp [World.cell?, Cw4.out]
    have Cc11w4 : w4.cell? ⟨w3.heap.size, 11, none⟩ = some (.int .i64 c.pp) := by simp [World.cell?, Cw4.out]
    have Cc12w4 : w4.cell? ⟨w3.heap.size, 12, none⟩ = some (.int .i64 c.mi) := by simp [World.cell?, Cw4.out]
    have p0 : w4.cell? ⟨g, 0, none⟩ = some (.int .i64 c.p.z) := by simpa [flyN] using (Pw4.out.2 0 (by omega)).1
    have p1 : w4.cell? ⟨g, 1, none⟩ = some (.int .i64 c.v.z) := by simpa [flyN] using (Pw4.out.2 0 (by omega)).2
    have hcyb : 1 ≤ x.cy ∧ x.cy ≤ 120 := by have := HN.out; omega
    have hq : (((N : Int) + 1) != (x.cy + 1)) = false := by rw [HN.out]; simp
    have hpu := GD.out.pu
    go_wp2_with fail
    go_quiet (fail)
    go_wp2_with fail
    obtain ⟨nd, hnd⟩ : ∃ nd, nd = (200 + c.pu - 1) / c.pu := ⟨_, rfl⟩
    rw [← hnd]
    have ND := Lib.hid hnd
    clear hnd p0 p1 hq c0 c1 c2 c3 c4 c5 c6 c7 c8 c9 c10 c11 c12
    have sX := heap_lt Xw4.out
    have sC := heap_lt Cw4.out
    go_loopw [9, 10, 11] (fun s v u wr => ∃ (n : Nat) (sm a0 : Int), n ≤ N ∧ s = .int .i64 sm ∧ v = .int .i64 a0 ∧ u = .int .i64 n ∧ (0 ≤ sm ∧ sm ≤ n) ∧ (0 < n → Nr (flyN c n).2 a0 sm c.pu) ∧ Below w4.heap.size w4 wr) (fun _ _ u _ => N - (intOf u).toNat)
    case atStart => exact ⟨0, 0, 0, Nat.zero_le _, rfl, rfl, rfl, by omega, fun h => by omega, (Below.refl _ _).trans ⟨rfl, rfl, rfl, Nat.le_refl _, fun _ _ => rfl⟩⟩
    case round =>
      obtain ⟨n, sm, a0, hn, rfl, rfl, rfl, hsm, hnr, hb⟩ := hrel
      have NR := Lib.hid hnr
      have Bwr := Lib.hid hb
      have mwr := hb.size
      have Iwr := Lib.hid ((Iw4.out.below hb).mono hb.size)
      have Xwr := Lib.hid ((hb.block _ sX).trans Xw4.out)
      have Cwr := Lib.hid ((hb.block _ sC).trans Cw4.out)
      have Pwr := Lib.hid (Pw4.out.below hb)
      clear hnr hb Xc0w4 Xc1w4 Xc2w4 Cc0w4 Cc1w4 Cc2w4 Cc3w4 Cc4w4 Cc5w4 Cc6w4 Cc7w4 Cc8w4 Cc9w4 Cc10w4 Cc11w4 Cc12w4
      have Xc0wr : wr.cell? ⟨w.heap.size, 0, none⟩ = some (.int .i64 x.cy) := by simp [World.cell?, Xwr.out]
      have Xc1wr : wr.cell? ⟨w.heap.size, 1, none⟩ = some (.int .i64 x.gr) := by simp [World.cell?, Xwr.out]
      have Xc2wr : wr.cell? ⟨w.heap.size, 2, none⟩ = some (.slice (some ⟨cb, off, none⟩) x.cs.length cap) := by simp [World.cell?, Xwr.out]
      have Cc0wr : wr.cell? ⟨w3.heap.size, 0, none⟩ = some (.int .i64 c.ad) := by simp [World.cell?, Cwr.out]
      have Cc1wr : wr.cell? ⟨w3.heap.size, 1, none⟩ = some (.int .i64 c.p.x) := by simp [World.cell?, Cwr.out]
      have Cc2wr : wr.cell? ⟨w3.heap.size, 2, none⟩ = some (.int .i64 c.p.y) := by simp [World.cell?, Cwr.out]
      have Cc3wr : wr.cell? ⟨w3.heap.size, 3, none⟩ = some (.int .i64 c.p.z) := by simp [World.cell?, Cwr.out]
      have Cc4wr : wr.cell? ⟨w3.heap.size, 4, none⟩ = some (.int .i64 c.v.x) := by simp [World.cell?, Cwr.out]
      have Cc5wr : wr.cell? ⟨w3.heap.size, 5, none⟩ = some (.int .i64 c.v.y) := by simp [World.cell?, Cwr.out]
      have Cc6wr : wr.cell? ⟨w3.heap.size, 6, none⟩ = some (.int .i64 c.v.z) := by simp [World.cell?, Cwr.out]
      have Cc7wr : wr.cell? ⟨w3.heap.size, 7, none⟩ = some (.int .i64 c.pu) := by simp [World.cell?, Cwr.out]
      have Cc8wr : wr.cell? ⟨w3.heap.size, 8, none⟩ = some (.slice LA c.lg.length lcap) := by simp [World.cell?, Cwr.out]
      have Cc9wr : wr.cell? ⟨w3.heap.size, 9, none⟩ = some (.int .u8 c.mo) := by simp [World.cell?, Cwr.out]
      have Cc10wr : wr.cell? ⟨w3.heap.size, 10, none⟩ = some (.int .i64 c.de) := by simp [World.cell?, Cwr.out]
      have Cc11wr : wr.cell? ⟨w3.heap.size, 11, none⟩ = some (.int .i64 c.pp) := by simp [World.cell?, Cwr.out]
      have Cc12wr : wr.cell? ⟨w3.heap.size, 12, none⟩ = some (.int .i64 c.mi) := by simp [World.cell?, Cwr.out]
      by_cases hlt : n < N
      · have hltI : (n : Int) < x.cy := by have := HN.out; omega
        have hAim : aimR x n0 n = (aimE c n, 0) := by unfold aimR; rw [if_neg (by simp [HNUM.out]), if_neg (by unfold inB; simp; omega), crAt_n JC.out]
        have AIM := aim24 x (some ⟨cb, off, none⟩) cap n0 n wr Iwr.out hcap
        rw [hAim] at AIM
        clear hAim
        have H := Lib.hid AIM
        clear AIM
        go_wp2_with fail
        refine (H.out).mono ?_
        rintro e w5 ⟨rfl, hw5⟩
        have Bw5 := Lib.hid (Bwr.out.trans ((hw5).mono mwr))
        have mw5 : w4.heap.size ≤ w5.heap.size := Nat.le_trans mwr (hw5).size
        have Iw5 := Lib.hid ((Iwr.out.below (hw5)).mono (hw5).size)
        have Xw5 := Lib.hid (((hw5).block _ (heap_lt Xwr.out)).trans Xwr.out)
        have Cw5 := Lib.hid (((hw5).block _ (heap_lt Cwr.out)).trans Cwr.out)
        have Pw5 := Lib.hid (Pwr.out.below (hw5))
        clear Bwr mwr Iwr Xwr Cwr Pwr Xc0wr Xc1wr Xc2wr Cc0wr Cc1wr Cc2wr Cc3wr Cc4wr Cc5wr Cc6wr Cc7wr Cc8wr Cc9wr Cc10wr Cc11wr Cc12wr
        have Xc0w5 : w5.cell? ⟨w.heap.size, 0, none⟩ = some (.int .i64 x.cy) := by simp [World.cell?, Xw5.out]
        have Xc1w5 : w5.cell? ⟨w.heap.size, 1, none⟩ = some (.int .i64 x.gr) := by simp [World.cell?, Xw5.out]
        have Xc2w5 : w5.cell? ⟨w.heap.size, 2, none⟩ = some (.slice (some ⟨cb, off, none⟩) x.cs.length cap) := by simp [World.cell?, Xw5.out]
        have Cc0w5 : w5.cell? ⟨w3.heap.size, 0, none⟩ = some (.int .i64 c.ad) := by simp [World.cell?, Cw5.out]
        have Cc1w5 : w5.cell? ⟨w3.heap.size, 1, none⟩ = some (.int .i64 c.p.x) := by simp [World.cell?, Cw5.out]
        have Cc2w5 : w5.cell? ⟨w3.heap.size, 2, none⟩ = some (.int .i64 c.p.y) := by simp [World.cell?, Cw5.out]
        have Cc3w5 : w5.cell? ⟨w3.heap.size, 3, none⟩ = some (.int .i64 c.p.z) := by simp [World.cell?, Cw5.out]
        have Cc4w5 : w5.cell? ⟨w3.heap.size, 4, none⟩ = some (.int .i64 c.v.x) := by simp [World.cell?, Cw5.out]
        have Cc5w5 : w5.cell? ⟨w3.heap.size, 5, none⟩ = some (.int .i64 c.v.y) := by simp [World.cell?, Cw5.out]
        have Cc6w5 : w5.cell? ⟨w3.heap.size, 6, none⟩ = some (.int .i64 c.v.z) := by simp [World.cell?, Cw5.out]
        have Cc7w5 : w5.cell? ⟨w3.heap.size, 7, none⟩ = some (.int .i64 c.pu) := by simp [World.cell?, Cw5.out]
        have Cc8w5 : w5.cell? ⟨w3.heap.size, 8, none⟩ = some (.slice LA c.lg.length lcap) := by simp [World.cell?, Cw5.out]
        have Cc9w5 : w5.cell? ⟨w3.heap.size, 9, none⟩ = some (.int .u8 c.mo) := by simp [World.cell?, Cw5.out]
        have Cc10w5 : w5.cell? ⟨w3.heap.size, 10, none⟩ = some (.int .i64 c.de) := by simp [World.cell?, Cw5.out]
        have Cc11w5 : w5.cell? ⟨w3.heap.size, 11, none⟩ = some (.int .i64 c.pp) := by simp [World.cell?, Cw5.out]
        have Cc12w5 : w5.cell? ⟨w3.heap.size, 12, none⟩ = some (.int .i64 c.mi) := by simp [World.cell?, Cw5.out]
        clear hw5
        obtain ⟨u1, u2⟩ := Pw5.out.2 (n + 1) (by omega)
        obtain ⟨u3, u4⟩ := Pw5.out.2 n (by omega)
        have zg5 := Pw5.out.1
        have hnI : (0 : Int) ≤ (n : Int) ∧ (n : Int) + 1 ≤ 120 ∧ (n : Int) + 1 < (N : Int) + 1 := by omega
        have hB1 := flyN_bd GD.out (n + 1)
        have hB0 := flyN_bd GD.out n
        have hA := aimE_bd GD.out n
        have hF : (flyN c (n + 1)).1 ≠ -1000 → (flyN c (n + 1)).1 ≠ 50000 → flyN c (n + 1) = ((flyN c n).1 + (flyN c n).2, flV (flyN c n).2 (aimE c n) (aimE c n) c.pu) := fun h1 h2 => fly_un h1 h2
        have hNR : 0 < n → Nr (flyN c n).2 a0 sm c.pu := NR.out
        obtain ⟨z1, v1, h1⟩ : ∃ z1 v1, flyN c (n + 1) = (z1, v1) := ⟨_, _, rfl⟩
        obtain ⟨z0, v0, h0⟩ : ∃ z0 v0, flyN c n = (z0, v0) := ⟨_, _, rfl⟩
        obtain ⟨ac, hac⟩ : ∃ ac, ac = aimE c n := ⟨_, rfl⟩
        have H1 := Lib.hid h1
        rw [h1] at u1 u2 hB1 hF
        rw [h0] at u3 u4 hB0 hF hNR
        rw [← hac] at hA hF ⊢
        clear h1 h0 hac NR
        simp only at u1 u2 u3 u4 hB1 hB0 hF hNR
        by_cases e1 : z1 = -1000
        · subst e1
          go_wp2_with fail
          go_ret
          exact ⟨rfl, Bw4.out.trans (Bw5.out.mono mw4)⟩
        by_cases e2 : z1 = 50000
        · subst e2
          go_wp2_with fail
          go_ret
          exact ⟨rfl, Bw4.out.trans (Bw5.out.mono mw4)⟩
        obtain ⟨rfl, rfl⟩ := Prod.mk.inj (hF e1 e2)
        clear hF
        obtain ⟨hp1, hp2⟩ := (flV_near (v := v0) (a := ac) hpu.1).1
        have HNR := Lib.hid hNR
        have HFS := Lib.hid (Nr.first (v := v0) (a := ac) hpu.1 hB0.2 hA)
        have HNX := Lib.hid (fun h => Nr.next (v := v0) (a := ac) (same := sm) hpu.1 h)
        clear hNR
        obtain ⟨v1, hv1⟩ : ∃ v1, v1 = flV v0 ac ac c.pu := ⟨_, rfl⟩
        rw [← hv1] at u2 hB1 hp1 hp2 HFS HNX
        have HV1 := Lib.hid hv1
        clear hv1
        have DONE := Lib.hid (fun (s : Int) (h : Nr v1 ac s c.pu) (hs : nd ≤ s) => Nr.done hpu.1 h (by rw [← ND.out]; exact hs))
        have hb5 := Bw5.out
        have i1 : (0 : Int) ≤ (n : Int) + 1 := by omega
        have i2 : (n : Int) + 1 < (N : Int) + 1 := by omega
        have i3 : (0 : Int) ≤ (n : Int) := by omega
        have i4 : (n : Int) < (N : Int) + 1 := by omega
        have i5 : (n : Int) + 1 ≤ 120 := by omega
        have q1 : (z0 + v0 == -1000) = false := by simpa using e1
        have q2 : (z0 + v0 == 50000) = false := by simpa using e2
        go_wp2_with fail
        have wq1 : IntKind.i64.wrap ((n : Int) + 1) = (n : Int) + 1 := IntWalk.i64_in _ (by omega)
        have wq2 : IntKind.i64.wrap (z0 + v0) = z0 + v0 := IntWalk.i64_in _ (by omega)
        have wq3 : IntKind.i64.wrap (v1 - v0) = v1 - v0 := IntWalk.i64_in _ (by omega)
        have wq4 : IntKind.i64.wrap (v0 - v1) = v0 - v1 := IntWalk.i64_in _ (by omega)
        have gg1 : decide (c.pu < v1 - v0) = false := by simp; omega
        have gg2 : decide (c.pu < v0 - v1) = false := by simp; omega
        have tn : ((n : Int) + 1).toNat = n + 1 := by omega
        have HD := Lib.hid hnI
        have LT := Lib.hid hlt
        clear hnI
        by_cases hz : n = 0
        · have bn : ((n : Int) == 0) = true := by simp [hz]
          clear hz
          have hNr : Hid (Nr v1 ac (1) c.pu) := Lib.hid (HFS.out)
          by_cases hs : nd ≤ 1
          · have hv : (v1 != ac) = false := by rw [DONE.out _ hNr.out hs]; simp
            go_quiet (fail)
            clear wq1 wq2 wq3 wq4 tn
            go_wp2_with fail
            go_roundw
            case rel => exact ⟨n + 1, 1, ac, by omega, by go_num, rfl, by go_num, by omega, fun _ => by rw [H1.out, ← HV1.out]; exact hNr.out, below_drewN hb5 _⟩
            case measure => simp [intOf]; omega
          · go_quiet (fail)
            clear wq1 wq2 wq3 wq4 tn
            go_wp2_with fail
            go_roundw
            case rel => exact ⟨n + 1, 1, ac, by omega, by go_num, rfl, by go_num, by omega, fun _ => by rw [H1.out, ← HV1.out]; exact hNr.out, below_drewN hb5 _⟩
            case measure => simp [intOf]; omega
        · have bn : ((n : Int) == 0) = false := by simp; omega
          by_cases ha : ac = a0
          · subst ha
            have hNr : Hid (Nr v1 ac (sm + 1) c.pu) := Lib.hid (HNX.out (HNR.out (by omega)))
            by_cases hs : nd ≤ sm + 1
            · have hv : (v1 != ac) = false := by rw [DONE.out _ hNr.out hs]; simp
              go_quiet (fail)
              clear wq1 wq2 wq3 wq4 tn
              go_wp2_with fail
              go_roundw
              case rel => exact ⟨n + 1, sm + 1, ac, by omega, by go_num, rfl, by go_num, by omega, fun _ => by rw [H1.out, ← HV1.out]; exact hNr.out, below_drewN hb5 _⟩
              case measure => simp [intOf]; omega
            · go_quiet (fail)
              clear wq1 wq2 wq3 wq4 tn
              go_wp2_with fail
              go_roundw
              case rel => exact ⟨n + 1, sm + 1, ac, by omega, by go_num, rfl, by go_num, by omega, fun _ => by rw [H1.out, ← HV1.out]; exact hNr.out, below_drewN hb5 _⟩
              case measure => simp [intOf]; omega
          · have ba : (ac != a0) = true := by simp [ha]
            clear ha
            have hNr : Hid (Nr v1 ac (1) c.pu) := Lib.hid (HFS.out)
            by_cases hs : nd ≤ 1
            · have hv : (v1 != ac) = false := by rw [DONE.out _ hNr.out hs]; simp
              go_quiet (fail)
              clear wq1 wq2 wq3 wq4 tn
              go_wp2_with fail
              go_roundw
              case rel => exact ⟨n + 1, 1, ac, by omega, by go_num, rfl, by go_num, by omega, fun _ => by rw [H1.out, ← HV1.out]; exact hNr.out, below_drewN hb5 _⟩
              case measure => simp [intOf]; omega
            · go_quiet (fail)
              clear wq1 wq2 wq3 wq4 tn
              go_wp2_with fail
              go_roundw
              case rel => exact ⟨n + 1, 1, ac, by omega, by go_num, rfl, by go_num, by omega, fun _ => by rw [H1.out, ← HV1.out]; exact hNr.out, below_drewN hb5 _⟩
              case measure => simp [intOf]; omega
      · have Bwr := Lib.hid (Bw4.out.trans (Bwr.out.mono mw4))
        obtain rfl : n = N := by omega
        have hge : ¬ (n : Int) < x.cy := by have := HN.out; omega
        go_wp2_with fail
        go_ret
        exact ⟨rfl, Bwr.out⟩
  · have PP := path22 x A cap i w2 Iw2.out hcap
    have hq : pathR x i = ([], numE x [i]) := by unfold pathR; rw [if_pos hnum]
    rw [hq] at PP
    clear hq
    obtain ⟨er, her⟩ : ∃ er, er = numE x [i] := ⟨_, rfl⟩
    rw [← her] at PP hnum
    clear her
    have hnb : (er != 0) = true := by simpa using hnum
    clear hnum
    refine (PP).mono ?_
    rintro e w3 ⟨PA, pcap, rfl, -, hw3⟩
    have Bw3 := Lib.hid (Bw2.out.trans ((hw3).mono mw2))
    have mw3 : w.heap.size ≤ w3.heap.size := Nat.le_trans mw2 (hw3).size
    have Ew3 := Lib.hid (Ew2.out.below ((hw3).mono (by omega)))
    have Iw3 := Lib.hid ((Iw2.out.below (hw3)).mono (hw3).size)
    have Xw3 := Lib.hid (((hw3).block _ (heap_lt Xw2.out)).trans Xw2.out)
    clear Bw2 mw2 Ew2 Iw2 Xw2 Xc0w2 Xc1w2 Xc2w2
    have Xc0w3 : w3.cell? ⟨w.heap.size, 0, none⟩ = some (.int .i64 x.cy) := by simp [World.cell?, Xw3.out]
    have Xc1w3 : w3.cell? ⟨w.heap.size, 1, none⟩ = some (.int .i64 x.gr) := by simp [World.cell?, Xw3.out]
    have Xc2w3 : w3.cell? ⟨w.heap.size, 2, none⟩ = some (.slice A x.cs.length cap) := by simp [World.cell?, Xw3.out]
    clear hw3
    go_wp2_with fail
    go_ret
    exact ⟨rfl, Bw3.out⟩
end Go.Proofs.YtnnnpliigdfipaaGreatDoor
