/- encounter: the reference's Check. -/
import Derived.Test.YtnnnpliigdfipaaGreatDoorRows
import Derived.WalkKit
import Derived.WalkLawsBesides
import Derived.WalkSpells
import Derived.ProofKit
import Derived.Below
import Derived.Outline
import Derived.Lib.Hide
import Derived.Deep.RegionWith
import Derived.Deep.RegionHeld3
import Derived.Deep.DrawnRows
import Derived.StillTailTactics
import Derived.BigQuiet
import Derived.Deep.QuietTactic
import Derived.Deep.LoopGhost
import Derived.IntWalk
import Derived.Lib.MinMax
import Derived.Deep.CutBlock
import Derived.Deep.DeepCutAuto
import Derived.Test.YtnnnpliigdfipaaGreatDoorEnHR
import Derived.Test.YtnnnpliigdfipaaGreatDoorEnJ
namespace Go.Proofs.YtnnnpliigdfipaaGreatDoor
open Go.RowKit
attribute [local go_sem ↓] Go.wp_at_zero Go.wp_at_succ
attribute [local go_sem] wrap_lit
/-- what the reference's craft returns -/
def crfE (x : En) (n : Nat) (c : Cr) : Int := if inB c.ad 0 16777215 = false then 1 else if c.ad ∈ (x.cs.take n).map Cr.ad then 16 else crE c x.cy
theorem crf_1 {x : En} {n : Nat} {c : Cr} (h : (!inB c.ad 0 16777215) = true) : crfE x n c = 1 := by unfold crfE; rw [if_pos (by simpa using h)]
theorem crf_2 {x : En} {n k : Nat} {c d : Cr} (g : (!inB c.ad 0 16777215) = false) (hk : k < n) (hd : x.cs[k]? = some d) (he : d.ad = c.ad) : crfE x n c = 16 := by
  unfold crfE
  rw [if_neg (by simpa using g), if_pos]
  rw [← he]
  refine List.mem_map.2 ⟨d, ?_, rfl⟩
  exact List.mem_of_getElem? (by rw [List.getElem?_take_of_lt hk]; exact hd)
theorem crf_3 {x : En} {n : Nat} {c : Cr} (g : (!inB c.ad 0 16777215) = false) (h : ∀ (j : Nat) (d : Cr), j < n → x.cs[j]? = some d → d.ad ≠ c.ad) : crfE x n c = crE c x.cy := by
  unfold crfE
  rw [if_neg (by simpa using g), if_neg]
  intro hm
  obtain ⟨d, hd, e⟩ := List.mem_map.1 hm
  obtain ⟨j, hj⟩ := List.mem_iff_getElem?.1 hd
  rw [List.getElem?_take] at hj
  split at hj
  · exact h j d (by assumption) hj e
  · cases hj
theorem InCr.at_ {w : World} {B b off : Nat} {cs : List Cr} {j : Nat} {c : Cr} (h : InCr w B (some ⟨b, off, none⟩) cs) (hj : cs[j]? = some c) : ∃ LA cap, CrAt w b (off + j * 13) c LA cap ∧ Is .i64 w B LA (flat c.lg) := by
  obtain ⟨b', off', e, -, hc⟩ := h (by have := (List.getElem?_eq_some_iff.1 hj).1; omega)
  injection e with e
  injection e with e1 e2
  subst e1 e2
  exact hc j c hj
set_option maxRecDepth 100000 in
set_option maxHeartbeats 8000000 in
theorem craft76 (x : En) (A : Option Addr) (cap n : Nat) (c : Cr) (w : World) (h0 : 1 ≤ x.cy) (h1 : x.cy ≤ 120) (hc : InCr w w.heap.size A x.cs) (hn6 : x.cs.length ≤ 6) (hcj : x.cs[n]? = some c) (hn : n < x.cs.length) :
    Calls Tryz.prog 76 #[.agg #[.int .i64 x.cy, .int .i64 x.gr, .slice A x.cs.length cap], .int .i64 n] w fun e w' => e = .returned (.int .i64 (crfE x n c)) ∧ Below w.heap.size w w' := by
  have Iw := Lib.hid hc
  have HJ := Lib.hid hcj
  obtain ⟨cb, off, rfl, hcb, hcr⟩ := hc (by omega)
  obtain ⟨LA, lcap, hat, hL⟩ := hcr n c hcj
  have Lw := Lib.hid hL
  obtain ⟨a0, a1, a2, a3, a4, a5, a6, a7, a8, a9, a10, a11, a12⟩ := hat
  clear hc hcj hcr hL
  have hnI : (n : Int) < (x.cs.length : Int) := by omega
  go_enter Tryz.func76, Tryz.ntmps76
  go_wp2_with fail
  obtain ⟨w0, hw0⟩ : ∃ w0, w0 = (w.alloc (.cells #[.int .i64 x.cy, .int .i64 x.gr, .slice (some ⟨cb, off, none⟩) x.cs.length cap] 24)).alloc (.cells #[.int .i64 c.ad, .int .i64 c.p.x, .int .i64 c.p.y, .int .i64 c.p.z, .int .i64 c.v.x, .int .i64 c.v.y, .int .i64 c.v.z, .int .i64 c.pu, .slice LA c.lg.length lcap, .int .u8 c.mo, .int .i64 c.de, .int .i64 c.pp, .int .i64 c.mi] 63) := ⟨_, rfl⟩
  have bw0 : Below w.heap.size w w0 := by rw [hw0]; exact ((Below.refl _ _).alloc (Nat.le_refl _) _).alloc (by simp) _
  have Xw0 := Lib.hid (show w0.heap[w.heap.size]? = some (.cells #[.int .i64 x.cy, .int .i64 x.gr, .slice (some ⟨cb, off, none⟩) x.cs.length cap] 24 (0, 0)) by rw [hw0]; exact (Below.heap_alloc _ _ _ (by simp)).trans (heap_alloc_new _ _))
  have Cw0 := Lib.hid (show w0.heap[w.heap.size + 1]? = some (.cells #[.int .i64 c.ad, .int .i64 c.p.x, .int .i64 c.p.y, .int .i64 c.p.z, .int .i64 c.v.x, .int .i64 c.v.y, .int .i64 c.v.z, .int .i64 c.pu, .slice LA c.lg.length lcap, .int .u8 c.mo, .int .i64 c.de, .int .i64 c.pp, .int .i64 c.mi] 63 (0, 0)) by rw [hw0]; exact heap_alloc_at _ _ _ (by simp))
  have Bw0 : Hid (Below w.heap.size w w0) := Lib.hid ((bw0))
  have mw0 : w.heap.size ≤ w0.heap.size := (bw0).size
  have Iw0 := Lib.hid ((Iw.out.below (bw0)).mono (bw0).size)
  have Lw0 := Lib.hid ((Lw.out.below (bw0)).mono (bw0).size)
  clear Iw Lw
  rw [← hw0]
  clear hw0 bw0 a0 a1 a2 a3 a4 a5 a6 a7 a8 a9 a10 a11 a12
  have Xc0w0 : w0.cell? ⟨w.heap.size, 0, none⟩ = some (.int .i64 x.cy) := by simp [World.cell?, Xw0.out]
  have Xc1w0 : w0.cell? ⟨w.heap.size, 1, none⟩ = some (.int .i64 x.gr) := by simp [World.cell?, Xw0.out]
  have Xc2w0 : w0.cell? ⟨w.heap.size, 2, none⟩ = some (.slice (some ⟨cb, off, none⟩) x.cs.length cap) := by simp [World.cell?, Xw0.out]
  have Cc0w0 : w0.cell? ⟨w.heap.size + 1, 0, none⟩ = some (.int .i64 c.ad) := by simp [World.cell?, Cw0.out]
  have Cc1w0 : w0.cell? ⟨w.heap.size + 1, 1, none⟩ = some (.int .i64 c.p.x) := by simp [World.cell?, Cw0.out]
  have Cc2w0 : w0.cell? ⟨w.heap.size + 1, 2, none⟩ = some (.int .i64 c.p.y) := by simp [World.cell?, Cw0.out]
  have Cc3w0 : w0.cell? ⟨w.heap.size + 1, 3, none⟩ = some (.int .i64 c.p.z) := by simp [World.cell?, Cw0.out]
  have Cc4w0 : w0.cell? ⟨w.heap.size + 1, 4, none⟩ = some (.int .i64 c.v.x) := by simp [World.cell?, Cw0.out]
  have Cc5w0 : w0.cell? ⟨w.heap.size + 1, 5, none⟩ = some (.int .i64 c.v.y) := by simp [World.cell?, Cw0.out]
  have Cc6w0 : w0.cell? ⟨w.heap.size + 1, 6, none⟩ = some (.int .i64 c.v.z) := by simp [World.cell?, Cw0.out]
  have Cc7w0 : w0.cell? ⟨w.heap.size + 1, 7, none⟩ = some (.int .i64 c.pu) := by simp [World.cell?, Cw0.out]
  have Cc8w0 : w0.cell? ⟨w.heap.size + 1, 8, none⟩ = some (.slice LA c.lg.length lcap) := by simp [World.cell?, Cw0.out]
  have Cc9w0 : w0.cell? ⟨w.heap.size + 1, 9, none⟩ = some (.int .u8 c.mo) := by simp [World.cell?, Cw0.out]
  have Cc10w0 : w0.cell? ⟨w.heap.size + 1, 10, none⟩ = some (.int .i64 c.de) := by simp [World.cell?, Cw0.out]
  have Cc11w0 : w0.cell? ⟨w.heap.size + 1, 11, none⟩ = some (.int .i64 c.pp) := by simp [World.cell?, Cw0.out]
  have Cc12w0 : w0.cell? ⟨w.heap.size + 1, 12, none⟩ = some (.int .i64 c.mi) := by simp [World.cell?, Cw0.out]
  refine (within75 c.ad 0 16777215 w0).mono ?_
  rintro e wS ⟨rfl, rfl⟩
  go_wp2_with fail
  · have HX := Lib.hid (crf_1 (x := x) (n := n) (show (!inB c.ad 0 16777215) = true by assumption))
    go_ret
    exact ⟨ret_int HX.out.symm, Bw0.out⟩
  have G0 := Lib.hid (show (!inB c.ad 0 16777215) = false by assumption)
  have sX := heap_lt Xw0.out
  have sC := heap_lt Cw0.out
  go_loopw [4, 6] (fun r i wr => r = .int .i64 0 ∧ ∃ k : Nat, k ≤ n ∧ i = .int .i64 k ∧ (∀ (j : Nat) (d : Cr), j < k → x.cs[j]? = some d → d.ad ≠ c.ad) ∧ Below w0.heap.size w0 wr) (fun _ i _ => n - (intOf i).toNat)
  case atStart => exact ⟨rfl, 0, Nat.zero_le _, rfl, fun j d h => absurd h (by omega), Below.refl _ _⟩
  case round =>
    obtain ⟨rfl, k, hk, rfl, hN, hb⟩ := hrel
    have HN := Lib.hid hN
    clear hN
    have HB := Lib.hid hb
    have Bwr := Lib.hid (Bw0.out.trans ((hb).mono mw0))
    have mwr : w.heap.size ≤ wr.heap.size := Nat.le_trans mw0 (hb).size
    have Iwr := Lib.hid ((Iw0.out.below (hb)).mono (hb).size)
    have Lwr := Lib.hid ((Lw0.out.below (hb)).mono (hb).size)
    have Xwr := Lib.hid (((hb).block _ (heap_lt Xw0.out)).trans Xw0.out)
    have Cwr := Lib.hid (((hb).block _ (heap_lt Cw0.out)).trans Cw0.out)
    clear Bw0 mw0 Iw0 Lw0 Xw0 Cw0 Xc0w0 Xc1w0 Xc2w0 Cc0w0 Cc1w0 Cc2w0 Cc3w0 Cc4w0 Cc5w0 Cc6w0 Cc7w0 Cc8w0 Cc9w0 Cc10w0 Cc11w0 Cc12w0
    have Xc0wr : wr.cell? ⟨w.heap.size, 0, none⟩ = some (.int .i64 x.cy) := by simp [World.cell?, Xwr.out]
    have Xc1wr : wr.cell? ⟨w.heap.size, 1, none⟩ = some (.int .i64 x.gr) := by simp [World.cell?, Xwr.out]
    have Xc2wr : wr.cell? ⟨w.heap.size, 2, none⟩ = some (.slice (some ⟨cb, off, none⟩) x.cs.length cap) := by simp [World.cell?, Xwr.out]
    have Cc0wr : wr.cell? ⟨w.heap.size + 1, 0, none⟩ = some (.int .i64 c.ad) := by simp [World.cell?, Cwr.out]
    have Cc1wr : wr.cell? ⟨w.heap.size + 1, 1, none⟩ = some (.int .i64 c.p.x) := by simp [World.cell?, Cwr.out]
    have Cc2wr : wr.cell? ⟨w.heap.size + 1, 2, none⟩ = some (.int .i64 c.p.y) := by simp [World.cell?, Cwr.out]
    have Cc3wr : wr.cell? ⟨w.heap.size + 1, 3, none⟩ = some (.int .i64 c.p.z) := by simp [World.cell?, Cwr.out]
    have Cc4wr : wr.cell? ⟨w.heap.size + 1, 4, none⟩ = some (.int .i64 c.v.x) := by simp [World.cell?, Cwr.out]
    have Cc5wr : wr.cell? ⟨w.heap.size + 1, 5, none⟩ = some (.int .i64 c.v.y) := by simp [World.cell?, Cwr.out]
    have Cc6wr : wr.cell? ⟨w.heap.size + 1, 6, none⟩ = some (.int .i64 c.v.z) := by simp [World.cell?, Cwr.out]
    have Cc7wr : wr.cell? ⟨w.heap.size + 1, 7, none⟩ = some (.int .i64 c.pu) := by simp [World.cell?, Cwr.out]
    have Cc8wr : wr.cell? ⟨w.heap.size + 1, 8, none⟩ = some (.slice LA c.lg.length lcap) := by simp [World.cell?, Cwr.out]
    have Cc9wr : wr.cell? ⟨w.heap.size + 1, 9, none⟩ = some (.int .u8 c.mo) := by simp [World.cell?, Cwr.out]
    have Cc10wr : wr.cell? ⟨w.heap.size + 1, 10, none⟩ = some (.int .i64 c.de) := by simp [World.cell?, Cwr.out]
    have Cc11wr : wr.cell? ⟨w.heap.size + 1, 11, none⟩ = some (.int .i64 c.pp) := by simp [World.cell?, Cwr.out]
    have Cc12wr : wr.cell? ⟨w.heap.size + 1, 12, none⟩ = some (.int .i64 c.mi) := by simp [World.cell?, Cwr.out]
    clear hb
    by_cases hlt : k < n
    · have hltI : (k : Int) < (n : Int) := by omega
      have hltL : (k : Int) < (x.cs.length : Int) := by omega
      obtain ⟨d, hd⟩ : ∃ d, x.cs[k]? = some d := ⟨_, List.getElem?_eq_getElem (by omega)⟩
      obtain ⟨DA, dcap, hat, -⟩ := Iwr.out.at_ hd
      obtain ⟨a0, -⟩ := hat
      have HD := Lib.hid hd
      clear hd
      by_cases he : d.ad = c.ad
      · have HX := Lib.hid (crf_2 G0.out hlt HD.out he)
        have bq : (d.ad == c.ad) = true := by simp [he]
        clear he
        go_wp2_with fail
        go_quiet (fail)
        go_wp2_with fail
        go_ret
        exact ⟨ret_int HX.out.symm, below_drewN Bwr.out _⟩
      · have bq : (d.ad == c.ad) = false := by simp [he]
        have HE := Lib.hid he
        clear he
        go_wp2_with fail
        go_quiet (fail)
        go_wp2_with fail
        refine ⟨⟨rfl, k + 1, by omega, by go_num, fun j e hj hd => ?_, below_drewN HB.out _⟩, by simp [intOf]; omega⟩
        by_cases hjk : j = k
        · subst hjk
          rw [← Option.some.inj (HD.out.symm.trans hd)]; exact HE.out
        · exact HN.out j e (by omega) hd
    · obtain rfl : k = n := by omega
      have hnn : ¬ (k : Int) < (k : Int) := by omega
      have HX := Lib.hid (crf_3 G0.out HN.out)
      clear HN hlt
      go_wp2_with fail
      refine (chkB32 c.p wr).mono ?_
      rintro e w1 ⟨rfl, hw1⟩
      have Bw1 := Lib.hid (Bwr.out.trans ((hw1).mono mwr))
      have mw1 : w.heap.size ≤ w1.heap.size := Nat.le_trans mwr (hw1).size
      have Iw1 := Lib.hid ((Iwr.out.below (hw1)).mono (hw1).size)
      have Lw1 := Lib.hid ((Lwr.out.below (hw1)).mono (hw1).size)
      have Xw1 := Lib.hid (((hw1).block _ (heap_lt Xwr.out)).trans Xwr.out)
      have Cw1 := Lib.hid (((hw1).block _ (heap_lt Cwr.out)).trans Cwr.out)
      clear Bwr mwr Iwr Lwr Xwr Cwr Xc0wr Xc1wr Xc2wr Cc0wr Cc1wr Cc2wr Cc3wr Cc4wr Cc5wr Cc6wr Cc7wr Cc8wr Cc9wr Cc10wr Cc11wr Cc12wr
      have Xc0w1 : w1.cell? ⟨w.heap.size, 0, none⟩ = some (.int .i64 x.cy) := by simp [World.cell?, Xw1.out]
      have Xc1w1 : w1.cell? ⟨w.heap.size, 1, none⟩ = some (.int .i64 x.gr) := by simp [World.cell?, Xw1.out]
      have Xc2w1 : w1.cell? ⟨w.heap.size, 2, none⟩ = some (.slice (some ⟨cb, off, none⟩) x.cs.length cap) := by simp [World.cell?, Xw1.out]
      have Cc0w1 : w1.cell? ⟨w.heap.size + 1, 0, none⟩ = some (.int .i64 c.ad) := by simp [World.cell?, Cw1.out]
      have Cc1w1 : w1.cell? ⟨w.heap.size + 1, 1, none⟩ = some (.int .i64 c.p.x) := by simp [World.cell?, Cw1.out]
      have Cc2w1 : w1.cell? ⟨w.heap.size + 1, 2, none⟩ = some (.int .i64 c.p.y) := by simp [World.cell?, Cw1.out]
      have Cc3w1 : w1.cell? ⟨w.heap.size + 1, 3, none⟩ = some (.int .i64 c.p.z) := by simp [World.cell?, Cw1.out]
      have Cc4w1 : w1.cell? ⟨w.heap.size + 1, 4, none⟩ = some (.int .i64 c.v.x) := by simp [World.cell?, Cw1.out]
      have Cc5w1 : w1.cell? ⟨w.heap.size + 1, 5, none⟩ = some (.int .i64 c.v.y) := by simp [World.cell?, Cw1.out]
      have Cc6w1 : w1.cell? ⟨w.heap.size + 1, 6, none⟩ = some (.int .i64 c.v.z) := by simp [World.cell?, Cw1.out]
      have Cc7w1 : w1.cell? ⟨w.heap.size + 1, 7, none⟩ = some (.int .i64 c.pu) := by simp [World.cell?, Cw1.out]
      have Cc8w1 : w1.cell? ⟨w.heap.size + 1, 8, none⟩ = some (.slice LA c.lg.length lcap) := by simp [World.cell?, Cw1.out]
      have Cc9w1 : w1.cell? ⟨w.heap.size + 1, 9, none⟩ = some (.int .u8 c.mo) := by simp [World.cell?, Cw1.out]
      have Cc10w1 : w1.cell? ⟨w.heap.size + 1, 10, none⟩ = some (.int .i64 c.de) := by simp [World.cell?, Cw1.out]
      have Cc11w1 : w1.cell? ⟨w.heap.size + 1, 11, none⟩ = some (.int .i64 c.pp) := by simp [World.cell?, Cw1.out]
      have Cc12w1 : w1.cell? ⟨w.heap.size + 1, 12, none⟩ = some (.int .i64 c.mi) := by simp [World.cell?, Cw1.out]
      clear hw1
      by_cases g1 : (ckP c.p != 0) = true
      · have HY := Lib.hid (crE_1 c x.cy g1)
        obtain ⟨e1, he1⟩ : ∃ e, e = ckP c.p := ⟨_, rfl⟩
        rw [← he1] at g1 HY ⊢
        clear he1
        have g1b : (e1 == 0) = false := by simpa using g1
        go_wp2_with fail
        go_ret
        exact ⟨ret_int (by rw [HX.out, HY.out]), Bw1.out⟩
      have G1 : Hid ((ckP c.p != 0) = false) := Lib.hid (by simpa using g1)
      have z1 : ckP c.p = 0 := by simpa using g1
      rw [z1]
      clear z1 g1
      go_wp2_with fail
      refine (chkB34 c.v w1).mono ?_
      rintro e w2 ⟨rfl, hw2⟩
      have Bw2 := Lib.hid (Bw1.out.trans ((hw2).mono mw1))
      have mw2 : w.heap.size ≤ w2.heap.size := Nat.le_trans mw1 (hw2).size
      have Iw2 := Lib.hid ((Iw1.out.below (hw2)).mono (hw2).size)
      have Lw2 := Lib.hid ((Lw1.out.below (hw2)).mono (hw2).size)
      have Xw2 := Lib.hid (((hw2).block _ (heap_lt Xw1.out)).trans Xw1.out)
      have Cw2 := Lib.hid (((hw2).block _ (heap_lt Cw1.out)).trans Cw1.out)
      clear Bw1 mw1 Iw1 Lw1 Xw1 Cw1 Xc0w1 Xc1w1 Xc2w1 Cc0w1 Cc1w1 Cc2w1 Cc3w1 Cc4w1 Cc5w1 Cc6w1 Cc7w1 Cc8w1 Cc9w1 Cc10w1 Cc11w1 Cc12w1
      have Xc0w2 : w2.cell? ⟨w.heap.size, 0, none⟩ = some (.int .i64 x.cy) := by simp [World.cell?, Xw2.out]
      have Xc1w2 : w2.cell? ⟨w.heap.size, 1, none⟩ = some (.int .i64 x.gr) := by simp [World.cell?, Xw2.out]
      have Xc2w2 : w2.cell? ⟨w.heap.size, 2, none⟩ = some (.slice (some ⟨cb, off, none⟩) x.cs.length cap) := by simp [World.cell?, Xw2.out]
      have Cc0w2 : w2.cell? ⟨w.heap.size + 1, 0, none⟩ = some (.int .i64 c.ad) := by simp [World.cell?, Cw2.out]
      have Cc1w2 : w2.cell? ⟨w.heap.size + 1, 1, none⟩ = some (.int .i64 c.p.x) := by simp [World.cell?, Cw2.out]
      have Cc2w2 : w2.cell? ⟨w.heap.size + 1, 2, none⟩ = some (.int .i64 c.p.y) := by simp [World.cell?, Cw2.out]
      have Cc3w2 : w2.cell? ⟨w.heap.size + 1, 3, none⟩ = some (.int .i64 c.p.z) := by simp [World.cell?, Cw2.out]
      have Cc4w2 : w2.cell? ⟨w.heap.size + 1, 4, none⟩ = some (.int .i64 c.v.x) := by simp [World.cell?, Cw2.out]
      have Cc5w2 : w2.cell? ⟨w.heap.size + 1, 5, none⟩ = some (.int .i64 c.v.y) := by simp [World.cell?, Cw2.out]
      have Cc6w2 : w2.cell? ⟨w.heap.size + 1, 6, none⟩ = some (.int .i64 c.v.z) := by simp [World.cell?, Cw2.out]
      have Cc7w2 : w2.cell? ⟨w.heap.size + 1, 7, none⟩ = some (.int .i64 c.pu) := by simp [World.cell?, Cw2.out]
      have Cc8w2 : w2.cell? ⟨w.heap.size + 1, 8, none⟩ = some (.slice LA c.lg.length lcap) := by simp [World.cell?, Cw2.out]
      have Cc9w2 : w2.cell? ⟨w.heap.size + 1, 9, none⟩ = some (.int .u8 c.mo) := by simp [World.cell?, Cw2.out]
      have Cc10w2 : w2.cell? ⟨w.heap.size + 1, 10, none⟩ = some (.int .i64 c.de) := by simp [World.cell?, Cw2.out]
      have Cc11w2 : w2.cell? ⟨w.heap.size + 1, 11, none⟩ = some (.int .i64 c.pp) := by simp [World.cell?, Cw2.out]
      have Cc12w2 : w2.cell? ⟨w.heap.size + 1, 12, none⟩ = some (.int .i64 c.mi) := by simp [World.cell?, Cw2.out]
      clear hw2
      by_cases g2 : (ckV c.v != 0) = true
      · have HY := Lib.hid (crE_2 c x.cy G1.out g2)
        obtain ⟨e1, he1⟩ : ∃ e, e = ckV c.v := ⟨_, rfl⟩
        rw [← he1] at g2 HY ⊢
        clear he1
        go_wp2_with fail
        go_ret
        exact ⟨ret_int (by rw [HX.out, HY.out]), Bw2.out⟩
      have G2 : Hid ((ckV c.v != 0) = false) := Lib.hid (by simpa using g2)
      have z2 : ckV c.v = 0 := by simpa using g2
      rw [z2]
      clear z2 g2
      have hp := ckP_ok G1.out
      have hv := ckV_ok G2.out
      unfold okP at hp
      unfold okV at hv
      obtain ⟨m1, m2⟩ := mv_bd (k := x.cy) (by omega) h1 hv.1 hv.2.1
      obtain ⟨m3, m4⟩ := mv_bd (k := x.cy) (by omega) h1 hv.2.2.1 hv.2.2.2.1
      have q1 : IntKind.i64.wrap (x.cy * c.v.x) = x.cy * c.v.x := IntWalk.i64_in _ (by omega)
      have q2 : IntKind.i64.wrap (x.cy * c.v.y) = x.cy * c.v.y := IntWalk.i64_in _ (by omega)
      have q3 : IntKind.i64.wrap (c.p.x + x.cy * c.v.x) = c.p.x + x.cy * c.v.x := IntWalk.i64_in _ (by omega)
      have q4 : IntKind.i64.wrap (c.p.y + x.cy * c.v.y) = c.p.y + x.cy * c.v.y := IntWalk.i64_in _ (by omega)
      clear hp hv m1 m2 m3 m4
      have Xa0 : ∀ ob, (w2.alloc ob).cell? ⟨w.heap.size, 0, none⟩ = some (.int .i64 x.cy) := fun ob => (World.cell?_alloc_lt _ _ _ (heap_lt Xw2.out)).trans Xc0w2
      have Xa1 : ∀ ob, (w2.alloc ob).cell? ⟨w.heap.size, 1, none⟩ = some (.int .i64 x.gr) := fun ob => (World.cell?_alloc_lt _ _ _ (heap_lt Xw2.out)).trans Xc1w2
      have Xa2 : ∀ ob, (w2.alloc ob).cell? ⟨w.heap.size, 2, none⟩ = some (.slice (some ⟨cb, off, none⟩) x.cs.length cap) := fun ob => (World.cell?_alloc_lt _ _ _ (heap_lt Xw2.out)).trans Xc2w2
      have Ca0 : ∀ ob, (w2.alloc ob).cell? ⟨w.heap.size + 1, 0, none⟩ = some (.int .i64 c.ad) := fun ob => (World.cell?_alloc_lt _ _ _ (heap_lt Cw2.out)).trans Cc0w2
      have Ca1 : ∀ ob, (w2.alloc ob).cell? ⟨w.heap.size + 1, 1, none⟩ = some (.int .i64 c.p.x) := fun ob => (World.cell?_alloc_lt _ _ _ (heap_lt Cw2.out)).trans Cc1w2
      have Ca2 : ∀ ob, (w2.alloc ob).cell? ⟨w.heap.size + 1, 2, none⟩ = some (.int .i64 c.p.y) := fun ob => (World.cell?_alloc_lt _ _ _ (heap_lt Cw2.out)).trans Cc2w2
      have Ca3 : ∀ ob, (w2.alloc ob).cell? ⟨w.heap.size + 1, 3, none⟩ = some (.int .i64 c.p.z) := fun ob => (World.cell?_alloc_lt _ _ _ (heap_lt Cw2.out)).trans Cc3w2
      have Ca4 : ∀ ob, (w2.alloc ob).cell? ⟨w.heap.size + 1, 4, none⟩ = some (.int .i64 c.v.x) := fun ob => (World.cell?_alloc_lt _ _ _ (heap_lt Cw2.out)).trans Cc4w2
      have Ca5 : ∀ ob, (w2.alloc ob).cell? ⟨w.heap.size + 1, 5, none⟩ = some (.int .i64 c.v.y) := fun ob => (World.cell?_alloc_lt _ _ _ (heap_lt Cw2.out)).trans Cc5w2
      have Ca6 : ∀ ob, (w2.alloc ob).cell? ⟨w.heap.size + 1, 6, none⟩ = some (.int .i64 c.v.z) := fun ob => (World.cell?_alloc_lt _ _ _ (heap_lt Cw2.out)).trans Cc6w2
      have Ca7 : ∀ ob, (w2.alloc ob).cell? ⟨w.heap.size + 1, 7, none⟩ = some (.int .i64 c.pu) := fun ob => (World.cell?_alloc_lt _ _ _ (heap_lt Cw2.out)).trans Cc7w2
      have Ca8 : ∀ ob, (w2.alloc ob).cell? ⟨w.heap.size + 1, 8, none⟩ = some (.slice LA c.lg.length lcap) := fun ob => (World.cell?_alloc_lt _ _ _ (heap_lt Cw2.out)).trans Cc8w2
      have Ca9 : ∀ ob, (w2.alloc ob).cell? ⟨w.heap.size + 1, 9, none⟩ = some (.int .u8 c.mo) := fun ob => (World.cell?_alloc_lt _ _ _ (heap_lt Cw2.out)).trans Cc9w2
      have Ca10 : ∀ ob, (w2.alloc ob).cell? ⟨w.heap.size + 1, 10, none⟩ = some (.int .i64 c.de) := fun ob => (World.cell?_alloc_lt _ _ _ (heap_lt Cw2.out)).trans Cc10w2
      have Ca11 : ∀ ob, (w2.alloc ob).cell? ⟨w.heap.size + 1, 11, none⟩ = some (.int .i64 c.pp) := fun ob => (World.cell?_alloc_lt _ _ _ (heap_lt Cw2.out)).trans Cc11w2
      have Ca12 : ∀ ob, (w2.alloc ob).cell? ⟨w.heap.size + 1, 12, none⟩ = some (.int .i64 c.mi) := fun ob => (World.cell?_alloc_lt _ _ _ (heap_lt Cw2.out)).trans Cc12w2
      go_wp2_with fail
      obtain ⟨w3, hw3⟩ : ∃ w3, w3 = w2.alloc (.cells #[.int .i64 (c.p.x + x.cy * c.v.x), .int .i64 (c.p.y + x.cy * c.v.y), .int .i64 c.p.z] 46) := ⟨_, rfl⟩
      have bw3 : Below w2.heap.size w2 w3 := by rw [hw3]; exact (Below.refl _ _).alloc (Nat.le_refl _) _
      have nw3 : w3.heap[w2.heap.size]? = some (.cells #[.int .i64 (c.p.x + x.cy * c.v.x), .int .i64 (c.p.y + x.cy * c.v.y), .int .i64 c.p.z] 46 (0, 0)) := by rw [hw3]; exact heap_alloc_new _ _
      have Bw3 := Lib.hid (Bw2.out.trans ((bw3).mono mw2))
      have mw3 : w.heap.size ≤ w3.heap.size := Nat.le_trans mw2 (bw3).size
      have Iw3 := Lib.hid ((Iw2.out.below (bw3)).mono (bw3).size)
      have Lw3 := Lib.hid ((Lw2.out.below (bw3)).mono (bw3).size)
      have Xw3 := Lib.hid (((bw3).block _ (heap_lt Xw2.out)).trans Xw2.out)
      have Cw3 := Lib.hid (((bw3).block _ (heap_lt Cw2.out)).trans Cw2.out)
      clear Bw2 mw2 Iw2 Lw2 Xw2 Cw2 Xc0w2 Xc1w2 Xc2w2 Cc0w2 Cc1w2 Cc2w2 Cc3w2 Cc4w2 Cc5w2 Cc6w2 Cc7w2 Cc8w2 Cc9w2 Cc10w2 Cc11w2 Cc12w2
      have Xc0w3 : w3.cell? ⟨w.heap.size, 0, none⟩ = some (.int .i64 x.cy) := by simp [World.cell?, Xw3.out]
      have Xc1w3 : w3.cell? ⟨w.heap.size, 1, none⟩ = some (.int .i64 x.gr) := by simp [World.cell?, Xw3.out]
      have Xc2w3 : w3.cell? ⟨w.heap.size, 2, none⟩ = some (.slice (some ⟨cb, off, none⟩) x.cs.length cap) := by simp [World.cell?, Xw3.out]
      have Cc0w3 : w3.cell? ⟨w.heap.size + 1, 0, none⟩ = some (.int .i64 c.ad) := by simp [World.cell?, Cw3.out]
      have Cc1w3 : w3.cell? ⟨w.heap.size + 1, 1, none⟩ = some (.int .i64 c.p.x) := by simp [World.cell?, Cw3.out]
      have Cc2w3 : w3.cell? ⟨w.heap.size + 1, 2, none⟩ = some (.int .i64 c.p.y) := by simp [World.cell?, Cw3.out]
      have Cc3w3 : w3.cell? ⟨w.heap.size + 1, 3, none⟩ = some (.int .i64 c.p.z) := by simp [World.cell?, Cw3.out]
      have Cc4w3 : w3.cell? ⟨w.heap.size + 1, 4, none⟩ = some (.int .i64 c.v.x) := by simp [World.cell?, Cw3.out]
      have Cc5w3 : w3.cell? ⟨w.heap.size + 1, 5, none⟩ = some (.int .i64 c.v.y) := by simp [World.cell?, Cw3.out]
      have Cc6w3 : w3.cell? ⟨w.heap.size + 1, 6, none⟩ = some (.int .i64 c.v.z) := by simp [World.cell?, Cw3.out]
      have Cc7w3 : w3.cell? ⟨w.heap.size + 1, 7, none⟩ = some (.int .i64 c.pu) := by simp [World.cell?, Cw3.out]
      have Cc8w3 : w3.cell? ⟨w.heap.size + 1, 8, none⟩ = some (.slice LA c.lg.length lcap) := by simp [World.cell?, Cw3.out]
      have Cc9w3 : w3.cell? ⟨w.heap.size + 1, 9, none⟩ = some (.int .u8 c.mo) := by simp [World.cell?, Cw3.out]
      have Cc10w3 : w3.cell? ⟨w.heap.size + 1, 10, none⟩ = some (.int .i64 c.de) := by simp [World.cell?, Cw3.out]
      have Cc11w3 : w3.cell? ⟨w.heap.size + 1, 11, none⟩ = some (.int .i64 c.pp) := by simp [World.cell?, Cw3.out]
      have Cc12w3 : w3.cell? ⟨w.heap.size + 1, 12, none⟩ = some (.int .i64 c.mi) := by simp [World.cell?, Cw3.out]
      rw [← hw3]
      clear hw3 bw3 Xa0 Xa1 Xa2 Ca0 Ca1 Ca2 Ca3 Ca4 Ca5 Ca6 Ca7 Ca8 Ca9 Ca10 Ca11 Ca12
      have Ew3 := Lib.hid nw3
      clear nw3
      have Ec0w3 : w3.cell? ⟨w2.heap.size, 0, none⟩ = some (.int .i64 (c.p.x + x.cy * c.v.x)) := by simp [World.cell?, Ew3.out]
      have Ec1w3 : w3.cell? ⟨w2.heap.size, 1, none⟩ = some (.int .i64 (c.p.y + x.cy * c.v.y)) := by simp [World.cell?, Ew3.out]
      have Ec2w3 : w3.cell? ⟨w2.heap.size, 2, none⟩ = some (.int .i64 c.p.z) := by simp [World.cell?, Ew3.out]
      clear q1 q2 q3 q4
      refine (chkB32 (c.at x.cy c.p.z) w3).mono ?_
      rintro e w4 ⟨rfl, hw4⟩
      have Bw4 := Lib.hid (Bw3.out.trans ((hw4).mono mw3))
      have mw4 : w.heap.size ≤ w4.heap.size := Nat.le_trans mw3 (hw4).size
      have Iw4 := Lib.hid ((Iw3.out.below (hw4)).mono (hw4).size)
      have Lw4 := Lib.hid ((Lw3.out.below (hw4)).mono (hw4).size)
      have Xw4 := Lib.hid (((hw4).block _ (heap_lt Xw3.out)).trans Xw3.out)
      have Cw4 := Lib.hid (((hw4).block _ (heap_lt Cw3.out)).trans Cw3.out)
      have Ew4 := Lib.hid (((hw4).block _ (heap_lt Ew3.out)).trans Ew3.out)
      clear Bw3 mw3 Iw3 Lw3 Xw3 Cw3 Ew3 Xc0w3 Xc1w3 Xc2w3 Cc0w3 Cc1w3 Cc2w3 Cc3w3 Cc4w3 Cc5w3 Cc6w3 Cc7w3 Cc8w3 Cc9w3 Cc10w3 Cc11w3 Cc12w3 Ec0w3 Ec1w3 Ec2w3
      have Xc0w4 : w4.cell? ⟨w.heap.size, 0, none⟩ = some (.int .i64 x.cy) := by simp [World.cell?, Xw4.out]
      have Xc1w4 : w4.cell? ⟨w.heap.size, 1, none⟩ = some (.int .i64 x.gr) := by simp [World.cell?, Xw4.out]
      have Xc2w4 : w4.cell? ⟨w.heap.size, 2, none⟩ = some (.slice (some ⟨cb, off, none⟩) x.cs.length cap) := by simp [World.cell?, Xw4.out]
      have Cc0w4 : w4.cell? ⟨w.heap.size + 1, 0, none⟩ = some (.int .i64 c.ad) := by simp [World.cell?, Cw4.out]
      have Cc1w4 : w4.cell? ⟨w.heap.size + 1, 1, none⟩ = some (.int .i64 c.p.x) := by simp [World.cell?, Cw4.out]
      have Cc2w4 : w4.cell? ⟨w.heap.size + 1, 2, none⟩ = some (.int .i64 c.p.y) := by simp [World.cell?, Cw4.out]
      have Cc3w4 : w4.cell? ⟨w.heap.size + 1, 3, none⟩ = some (.int .i64 c.p.z) := by simp [World.cell?, Cw4.out]
      have Cc4w4 : w4.cell? ⟨w.heap.size + 1, 4, none⟩ = some (.int .i64 c.v.x) := by simp [World.cell?, Cw4.out]
      have Cc5w4 : w4.cell? ⟨w.heap.size + 1, 5, none⟩ = some (.int .i64 c.v.y) := by simp [World.cell?, Cw4.out]
      have Cc6w4 : w4.cell? ⟨w.heap.size + 1, 6, none⟩ = some (.int .i64 c.v.z) := by simp [World.cell?, Cw4.out]
      have Cc7w4 : w4.cell? ⟨w.heap.size + 1, 7, none⟩ = some (.int .i64 c.pu) := by simp [World.cell?, Cw4.out]
      have Cc8w4 : w4.cell? ⟨w.heap.size + 1, 8, none⟩ = some (.slice LA c.lg.length lcap) := by simp [World.cell?, Cw4.out]
      have Cc9w4 : w4.cell? ⟨w.heap.size + 1, 9, none⟩ = some (.int .u8 c.mo) := by simp [World.cell?, Cw4.out]
      have Cc10w4 : w4.cell? ⟨w.heap.size + 1, 10, none⟩ = some (.int .i64 c.de) := by simp [World.cell?, Cw4.out]
      have Cc11w4 : w4.cell? ⟨w.heap.size + 1, 11, none⟩ = some (.int .i64 c.pp) := by simp [World.cell?, Cw4.out]
      have Cc12w4 : w4.cell? ⟨w.heap.size + 1, 12, none⟩ = some (.int .i64 c.mi) := by simp [World.cell?, Cw4.out]
      have Ec0w4 : w4.cell? ⟨w2.heap.size, 0, none⟩ = some (.int .i64 (c.p.x + x.cy * c.v.x)) := by simp [World.cell?, Ew4.out]
      have Ec1w4 : w4.cell? ⟨w2.heap.size, 1, none⟩ = some (.int .i64 (c.p.y + x.cy * c.v.y)) := by simp [World.cell?, Ew4.out]
      have Ec2w4 : w4.cell? ⟨w2.heap.size, 2, none⟩ = some (.int .i64 c.p.z) := by simp [World.cell?, Ew4.out]
      clear hw4
      by_cases g3 : (ckP (c.at x.cy c.p.z) != 0) = true
      · have HY := Lib.hid (crE_3 c x.cy G1.out G2.out g3)
        obtain ⟨e1, he1⟩ : ∃ e, e = ckP (c.at x.cy c.p.z) := ⟨_, rfl⟩
        rw [← he1] at g3 ⊢
        clear he1
        go_wp2_with fail
        go_ret
        exact ⟨ret_int (by rw [HX.out, HY.out]), Bw4.out⟩
      have G3 : Hid ((ckP (c.at x.cy c.p.z) != 0) = false) := Lib.hid (by simpa using g3)
      have z3 : ckP (c.at x.cy c.p.z) = 0 := by simpa using g3
      rw [z3]
      clear z3 g3
      go_wp2_with fail
      refine (within75 c.pu 1 32 w4).mono ?_
      rintro e wS ⟨rfl, rfl⟩
      go_wp2_with fail
      · have HY := Lib.hid (crE_4 c x.cy G1.out G2.out G3.out (show (!inB c.pu 1 32) = true by assumption))
        go_ret
        exact ⟨ret_int (by rw [HX.out, HY.out]), Bw4.out⟩
      · have HY := Lib.hid (crE_5 c x.cy G1.out G2.out G3.out (by assumption) (show 2 < c.mo by assumption))
        go_ret
        exact ⟨ret_int (by rw [HX.out, HY.out]), Bw4.out⟩
      have G4 := Lib.hid (show (!inB c.pu 1 32) = false by assumption)
      have G5 := Lib.hid (show c.mo ≤ 2 by assumption)
      refine (pil110 c.de c.pp c.mi w4).mono ?_
      rintro e w5 ⟨rfl, hw5⟩
      have Bw5 := Lib.hid (Bw4.out.trans ((hw5).mono mw4))
      have mw5 : w.heap.size ≤ w5.heap.size := Nat.le_trans mw4 (hw5).size
      have Iw5 := Lib.hid ((Iw4.out.below (hw5)).mono (hw5).size)
      have Lw5 := Lib.hid ((Lw4.out.below (hw5)).mono (hw5).size)
      have Xw5 := Lib.hid (((hw5).block _ (heap_lt Xw4.out)).trans Xw4.out)
      have Cw5 := Lib.hid (((hw5).block _ (heap_lt Cw4.out)).trans Cw4.out)
      have Ew5 := Lib.hid (((hw5).block _ (heap_lt Ew4.out)).trans Ew4.out)
      clear Bw4 mw4 Iw4 Lw4 Xw4 Cw4 Ew4 Xc0w4 Xc1w4 Xc2w4 Cc0w4 Cc1w4 Cc2w4 Cc3w4 Cc4w4 Cc5w4 Cc6w4 Cc7w4 Cc8w4 Cc9w4 Cc10w4 Cc11w4 Cc12w4 Ec0w4 Ec1w4 Ec2w4
      have Xc0w5 : w5.cell? ⟨w.heap.size, 0, none⟩ = some (.int .i64 x.cy) := by simp [World.cell?, Xw5.out]
      have Xc1w5 : w5.cell? ⟨w.heap.size, 1, none⟩ = some (.int .i64 x.gr) := by simp [World.cell?, Xw5.out]
      have Xc2w5 : w5.cell? ⟨w.heap.size, 2, none⟩ = some (.slice (some ⟨cb, off, none⟩) x.cs.length cap) := by simp [World.cell?, Xw5.out]
      have Cc0w5 : w5.cell? ⟨w.heap.size + 1, 0, none⟩ = some (.int .i64 c.ad) := by simp [World.cell?, Cw5.out]
      have Cc1w5 : w5.cell? ⟨w.heap.size + 1, 1, none⟩ = some (.int .i64 c.p.x) := by simp [World.cell?, Cw5.out]
      have Cc2w5 : w5.cell? ⟨w.heap.size + 1, 2, none⟩ = some (.int .i64 c.p.y) := by simp [World.cell?, Cw5.out]
      have Cc3w5 : w5.cell? ⟨w.heap.size + 1, 3, none⟩ = some (.int .i64 c.p.z) := by simp [World.cell?, Cw5.out]
      have Cc4w5 : w5.cell? ⟨w.heap.size + 1, 4, none⟩ = some (.int .i64 c.v.x) := by simp [World.cell?, Cw5.out]
      have Cc5w5 : w5.cell? ⟨w.heap.size + 1, 5, none⟩ = some (.int .i64 c.v.y) := by simp [World.cell?, Cw5.out]
      have Cc6w5 : w5.cell? ⟨w.heap.size + 1, 6, none⟩ = some (.int .i64 c.v.z) := by simp [World.cell?, Cw5.out]
      have Cc7w5 : w5.cell? ⟨w.heap.size + 1, 7, none⟩ = some (.int .i64 c.pu) := by simp [World.cell?, Cw5.out]
      have Cc8w5 : w5.cell? ⟨w.heap.size + 1, 8, none⟩ = some (.slice LA c.lg.length lcap) := by simp [World.cell?, Cw5.out]
      have Cc9w5 : w5.cell? ⟨w.heap.size + 1, 9, none⟩ = some (.int .u8 c.mo) := by simp [World.cell?, Cw5.out]
      have Cc10w5 : w5.cell? ⟨w.heap.size + 1, 10, none⟩ = some (.int .i64 c.de) := by simp [World.cell?, Cw5.out]
      have Cc11w5 : w5.cell? ⟨w.heap.size + 1, 11, none⟩ = some (.int .i64 c.pp) := by simp [World.cell?, Cw5.out]
      have Cc12w5 : w5.cell? ⟨w.heap.size + 1, 12, none⟩ = some (.int .i64 c.mi) := by simp [World.cell?, Cw5.out]
      have Ec0w5 : w5.cell? ⟨w2.heap.size, 0, none⟩ = some (.int .i64 (c.p.x + x.cy * c.v.x)) := by simp [World.cell?, Ew5.out]
      have Ec1w5 : w5.cell? ⟨w2.heap.size, 1, none⟩ = some (.int .i64 (c.p.y + x.cy * c.v.y)) := by simp [World.cell?, Ew5.out]
      have Ec2w5 : w5.cell? ⟨w2.heap.size, 2, none⟩ = some (.int .i64 c.p.z) := by simp [World.cell?, Ew5.out]
      clear hw5
      by_cases g6 : (pilE c.de c.pp c.mi != 0) = true
      · have HY := Lib.hid (crE_6 c x.cy G1.out G2.out G3.out G4.out G5.out g6)
        obtain ⟨e1, he1⟩ : ∃ e, e = pilE c.de c.pp c.mi := ⟨_, rfl⟩
        rw [← he1] at g6 HY ⊢
        clear he1
        go_wp2_with fail
        go_ret
        exact ⟨ret_int (by rw [HX.out, HY.out]), Bw5.out⟩
      have G6 : Hid ((pilE c.de c.pp c.mi != 0) = false) := Lib.hid (by simpa using g6)
      have z6 : pilE c.de c.pp c.mi = 0 := by simpa using g6
      rw [z6]
      clear z6 g6
      by_cases g7 : 16 < (c.lg.length : Int)
      · have HY := Lib.hid (crE_7 c x.cy G1.out G2.out G3.out G4.out G5.out G6.out g7)
        go_wp2_with fail
        go_ret
        exact ⟨ret_int (by rw [HX.out, HY.out]), Bw5.out⟩
      have G7 : (c.lg.length : Int) ≤ 16 := by omega
      have HF : Hid (legE x.cy 0 c.lg = crfE x k c) := Lib.hid (by rw [HX.out, crE_8 c x.cy G1.out G2.out G3.out G4.out G5.out G6.out G7])
      have q5 : decide (2 < c.mo) = false := by simpa using G5.out
      have q7 : decide (16 < (c.lg.length : Int)) = false := by simpa using G7
      go_wp2_with fail
      have sX5 := heap_lt Xw5.out
      have sC5 := heap_lt Cw5.out
      go_loopw [4, 9] (fun r i wx => r = .int .i64 0 ∧ ∃ (m : Nat) (l : Int), m ≤ c.lg.length ∧ i = .int .i64 m ∧ 0 ≤ l ∧ l ≤ 120 ∧ Hid (legE x.cy l (c.lg.drop m) = crfE x k c) ∧ Hid (m = 0 → l = 0) ∧ Hid (∀ (j : Nat) (y : Int × Int), m = j + 1 → c.lg[j]? = some y → l = y.1 + 1) ∧ Below w5.heap.size w5 wx) (fun _ i _ => c.lg.length - (intOf i).toNat)
      case atStart => exact ⟨rfl, 0, 0, Nat.zero_le _, rfl, by omega, by omega, HF, Lib.hid (fun _ => rfl), Lib.hid (fun j y h => by omega), Below.refl _ _⟩
      case round =>
        obtain ⟨rfl, m, l, hm, rfl, l0, l1, HE, HL0, HL1, hb⟩ := hrel
        have HB5 := Lib.hid hb
        have Bwr := Lib.hid (Bw5.out.trans ((hb).mono mw5))
        have mwr : w.heap.size ≤ wr.heap.size := Nat.le_trans mw5 (hb).size
        have Iwr := Lib.hid ((Iw5.out.below (hb)).mono (hb).size)
        have Lwr := Lib.hid ((Lw5.out.below (hb)).mono (hb).size)
        have Xwr := Lib.hid (((hb).block _ (heap_lt Xw5.out)).trans Xw5.out)
        have Cwr := Lib.hid (((hb).block _ (heap_lt Cw5.out)).trans Cw5.out)
        have Ewr := Lib.hid (((hb).block _ (heap_lt Ew5.out)).trans Ew5.out)
        clear Bw5 mw5 Iw5 Lw5 Xw5 Cw5 Ew5 Xc0w5 Xc1w5 Xc2w5 Cc0w5 Cc1w5 Cc2w5 Cc3w5 Cc4w5 Cc5w5 Cc6w5 Cc7w5 Cc8w5 Cc9w5 Cc10w5 Cc11w5 Cc12w5 Ec0w5 Ec1w5 Ec2w5
        have Xc0wr : wr.cell? ⟨w.heap.size, 0, none⟩ = some (.int .i64 x.cy) := by simp [World.cell?, Xwr.out]
        have Xc1wr : wr.cell? ⟨w.heap.size, 1, none⟩ = some (.int .i64 x.gr) := by simp [World.cell?, Xwr.out]
        have Xc2wr : wr.cell? ⟨w.heap.size, 2, none⟩ = some (.slice (some ⟨cb, off, none⟩) x.cs.length cap) := by simp [World.cell?, Xwr.out]
        have Cc0wr : wr.cell? ⟨w.heap.size + 1, 0, none⟩ = some (.int .i64 c.ad) := by simp [World.cell?, Cwr.out]
        have Cc1wr : wr.cell? ⟨w.heap.size + 1, 1, none⟩ = some (.int .i64 c.p.x) := by simp [World.cell?, Cwr.out]
        have Cc2wr : wr.cell? ⟨w.heap.size + 1, 2, none⟩ = some (.int .i64 c.p.y) := by simp [World.cell?, Cwr.out]
        have Cc3wr : wr.cell? ⟨w.heap.size + 1, 3, none⟩ = some (.int .i64 c.p.z) := by simp [World.cell?, Cwr.out]
        have Cc4wr : wr.cell? ⟨w.heap.size + 1, 4, none⟩ = some (.int .i64 c.v.x) := by simp [World.cell?, Cwr.out]
        have Cc5wr : wr.cell? ⟨w.heap.size + 1, 5, none⟩ = some (.int .i64 c.v.y) := by simp [World.cell?, Cwr.out]
        have Cc6wr : wr.cell? ⟨w.heap.size + 1, 6, none⟩ = some (.int .i64 c.v.z) := by simp [World.cell?, Cwr.out]
        have Cc7wr : wr.cell? ⟨w.heap.size + 1, 7, none⟩ = some (.int .i64 c.pu) := by simp [World.cell?, Cwr.out]
        have Cc8wr : wr.cell? ⟨w.heap.size + 1, 8, none⟩ = some (.slice LA c.lg.length lcap) := by simp [World.cell?, Cwr.out]
        have Cc9wr : wr.cell? ⟨w.heap.size + 1, 9, none⟩ = some (.int .u8 c.mo) := by simp [World.cell?, Cwr.out]
        have Cc10wr : wr.cell? ⟨w.heap.size + 1, 10, none⟩ = some (.int .i64 c.de) := by simp [World.cell?, Cwr.out]
        have Cc11wr : wr.cell? ⟨w.heap.size + 1, 11, none⟩ = some (.int .i64 c.pp) := by simp [World.cell?, Cwr.out]
        have Cc12wr : wr.cell? ⟨w.heap.size + 1, 12, none⟩ = some (.int .i64 c.mi) := by simp [World.cell?, Cwr.out]
        have Ec0wr : wr.cell? ⟨w2.heap.size, 0, none⟩ = some (.int .i64 (c.p.x + x.cy * c.v.x)) := by simp [World.cell?, Ewr.out]
        have Ec1wr : wr.cell? ⟨w2.heap.size, 1, none⟩ = some (.int .i64 (c.p.y + x.cy * c.v.y)) := by simp [World.cell?, Ewr.out]
        have Ec2wr : wr.cell? ⟨w2.heap.size, 2, none⟩ = some (.int .i64 c.p.z) := by simp [World.cell?, Ewr.out]
        clear hb
        by_cases hltm : m < c.lg.length
        · obtain ⟨y, hy⟩ : ∃ y, c.lg[m]? = some y := ⟨_, List.getElem?_eq_getElem hltm⟩
          have HD : Hid (c.lg.drop m = y :: c.lg.drop (m + 1)) := Lib.hid (by rw [List.drop_eq_getElem_cons hltm]; congr 1; rw [List.getElem?_eq_getElem hltm] at hy; exact Option.some.inj hy)
          have HY := Lib.hid hy
          obtain ⟨lb, loff, rfl, hlb, hlc⟩ := Lwr.out (by rw [flat2_len]; omega)
          have eA : ∀ (j : Nat) (z : Int × Int), c.lg[j]? = some z → wr.cell? ⟨lb, loff + j * 2, none⟩ = some (.int .i64 z.1) ∧ wr.cell? ⟨lb, loff + j * 2 + 1, none⟩ = some (.int .i64 z.2) := fun j z hz => by
            have hj := (List.getElem?_eq_some_iff.1 hz).1
            have hz2 := (List.getElem?_eq_some_iff.1 hz).2
            obtain ⟨f1, f2⟩ := nth_flat c.lg j hj
            have g1 := hlc (j * 2) (by rw [flat2_len]; omega)
            have g2 := hlc (j * 2 + 1) (by rw [flat2_len]; omega)
            rw [f1, hz2] at g1
            rw [f2, hz2] at g2
            exact ⟨g1, by rw [Nat.add_assoc]; exact g2⟩
          obtain ⟨y0, y1⟩ := eA m y hy
          have EA := Lib.hid eA
          have hltI : (m : Int) < (c.lg.length : Int) := by omega
          have qc : IntKind.i64.wrap (x.cy - 1) = x.cy - 1 := IntWalk.i64_in _ (by omega)
          clear eA hlc hy
          by_cases ga : inB y.1 0 (x.cy - 1) = true
          · obtain ⟨ya, yb⟩ := inB_iff ga
            by_cases hm0 : m = 0
            · have G8 : Hid (inB y.1 l (x.cy - 1) = true) := Lib.hid (inB_t (by rw [HL0.out hm0]; exact ya) yb)
              have bz : decide (0 < (m : Int)) = false := decide_eq_false (by omega)
              have bz2 : decide (0 < m) = false := decide_eq_false (by omega)
              have bz3 : ¬ 0 < m := by omega
              clear hm0
              go_wp2_with fail
              go_quiet (((go_at_call 75; with_reducible exact Calls.quiet_of_same (flipc (within75 _ _ _ _)))))
              go_wp2_with fail
              refine (within75 y.2 (-100) 100 _).mono ?_
              rintro e wS ⟨rfl, rfl⟩
              go_wp2_with fail
              · have HV : Hid (crfE x k c = 1) := Lib.hid (by rw [← HE.out, HD.out]; exact legE_2 G8.out (show (!inB y.2 (-100) 100) = true by assumption))
                go_ret
                exact ⟨ret_int HV.out.symm, below_drewN Bwr.out _⟩
              · have G9 : Hid (inB y.2 (-100) 100 = true) := Lib.hid (bnot (by assumption))
                refine ⟨⟨rfl, m + 1, y.1 + 1, by omega, by go_num, by omega, by omega, Lib.hid (by rw [← HE.out, HD.out, legE_3 G8.out G9.out]), Lib.hid (fun h => by omega), Lib.hid (fun j2 z2 hj2 hz2 => ?_), below_drewN HB5.out _⟩, by simp [intOf]; omega⟩
                obtain rfl : j2 = m := by omega
                rw [Option.some.inj (HY.out.symm.trans hz2)]
            · obtain ⟨j, rfl⟩ : ∃ j, m = j + 1 := ⟨m - 1, by omega⟩
              obtain ⟨z, hz⟩ : ∃ z, c.lg[j]? = some z := ⟨_, List.getElem?_eq_getElem (by omega)⟩
              have hlz := HL1.out j z rfl hz
              obtain ⟨z0, -⟩ := EA.out j z hz
              have HLZ := Lib.hid hlz
              have bz : decide (0 < ((j + 1 : Nat) : Int)) = true := decide_eq_true (by omega)
              have bz2 : decide (0 < (j : Int) + 1) = true := decide_eq_true (by omega)
              have wj : IntKind.i64.wrap (((j + 1 : Nat) : Int) - 1) = (j : Int) := by rw [IntWalk.i64_in _ (by omega)]; omega
              have wj2 : IntKind.i64.wrap ((j : Int) + 1 - 1) = (j : Int) := by rw [IntWalk.i64_in _ (by omega)]; omega
              have wj3 : IntKind.i64.wrap (j : Int) = (j : Int) := IntWalk.i64_in _ (by omega)
              have hjI : (j : Int) < (c.lg.length : Int) := by omega
              have tj : ((j : Int) + 1).toNat = j + 1 := by omega
              by_cases gp : y.1 ≤ z.1
              · have HV : Hid (crfE x k c = 2) := Lib.hid (by rw [← HE.out, HD.out]; exact legE_1 (by rw [inB_f (.inl (by omega))]; rfl))
                have bp : decide (y.1 ≤ z.1) = true := decide_eq_true gp
                clear gp hz hlz hm0
                go_wp2_with fail
                go_quiet (((go_at_call 75; with_reducible exact Calls.quiet_of_same (flipc (within75 _ _ _ _)))))
                go_wp2_with fail
                go_ret
                exact ⟨ret_int HV.out.symm, below_drewN Bwr.out _⟩
              · have G8 : Hid (inB y.1 l (x.cy - 1) = true) := Lib.hid (inB_t (by omega) yb)
                have bp : decide (y.1 ≤ z.1) = false := decide_eq_false gp
                clear gp hz hlz hm0
                go_wp2_with fail
                go_quiet (((go_at_call 75; with_reducible exact Calls.quiet_of_same (flipc (within75 _ _ _ _)))))
                go_wp2_with fail
                refine (within75 y.2 (-100) 100 _).mono ?_
                rintro e wS ⟨rfl, rfl⟩
                go_wp2_with fail
                · have HV : Hid (crfE x k c = 1) := Lib.hid (by rw [← HE.out, HD.out]; exact legE_2 G8.out (show (!inB y.2 (-100) 100) = true by assumption))
                  go_ret
                  exact ⟨ret_int HV.out.symm, below_drewN Bwr.out _⟩
                · have G9 : Hid (inB y.2 (-100) 100 = true) := Lib.hid (bnot (by assumption))
                  refine ⟨⟨rfl, (j + 1) + 1, y.1 + 1, by omega, by go_num, by omega, by omega, Lib.hid (by rw [← HE.out, HD.out, legE_3 G8.out G9.out]), Lib.hid (fun h => by omega), Lib.hid (fun j2 z2 hj2 hz2 => ?_), below_drewN HB5.out _⟩, by simp [intOf]; omega⟩
                  obtain rfl : j2 = (j + 1) := by omega
                  rw [Option.some.inj (HY.out.symm.trans hz2)]
          · have ga2 : inB y.1 0 (x.cy - 1) = false := by simpa using ga
            have HV : Hid (crfE x k c = 2) := Lib.hid (by
              rw [← HE.out, HD.out]
              refine legE_1 ?_
              have := inB_not ga2
              rw [inB_f (by omega)]; rfl)
            clear ga
            go_wp2_with fail
            go_quiet (((go_at_call 75; with_reducible exact Calls.quiet_of_same (flipc (within75 _ _ _ _)))))
            go_wp2_with fail
            go_ret
            exact ⟨ret_int HV.out.symm, below_drewN Bwr.out _⟩
        · have HV : Hid (crfE x k c = 0) := Lib.hid (by rw [← HE.out, List.drop_eq_nil_of_le (by omega)]; rfl)
          have hltI : ¬ (m : Int) < (c.lg.length : Int) := by omega
          go_wp2_with fail
          go_ret
          exact ⟨ret_int HV.out.symm, Bwr.out⟩
theorem allE_crf (x : En) (n : Nat) (c : Cr) (l : List Cr) : allE x.cy ((x.cs.take n).map Cr.ad) (c :: l) = if crfE x n c ≠ 0 then crfE x n c else allE x.cy ((x.cs.take n).map Cr.ad ++ [c.ad]) l := by
  conv => lhs; unfold allE
  unfold crfE
  split
  · simp
  · split
    · simp
    · rfl
set_option maxRecDepth 100000 in
set_option maxHeartbeats 8000000 in
theorem check20 (x : En) (A : Option Addr) (cap : Nat) (w : World) (hc : InCr w w.heap.size A x.cs) :
    Calls Tryz.prog 20 #[.agg #[.int .i64 x.cy, .int .i64 x.gr, .slice A x.cs.length cap]] w fun e w' => e = .returned (.int .i64 (chE x)) ∧ Below w.heap.size w w' := by
  have Iw := Lib.hid hc
  clear hc
  by_cases hcy : inB x.cy 1 120 = false
  · have HX : Hid (chE x = 1) := Lib.hid (by unfold chE; rw [if_pos (.inl hcy)])
    go_enter Tryz.func20, Tryz.ntmps20
    go_wp2_with fail
    refine (within75 x.cy 1 120 _).mono ?_
    rintro e wS ⟨rfl, rfl⟩
    rw [hcy]
    clear hcy
    go_wp2_with fail
    go_ret
    exact ⟨ret_int HX.out.symm, (Below.refl _ _).alloc (Nat.le_refl _) _⟩
  have hcy := of_nf hcy
  by_cases hgr : inB x.gr 0 10000 = false
  · have HX : Hid (chE x = 1) := Lib.hid (by unfold chE; rw [if_pos (.inr hgr)])
    go_enter Tryz.func20, Tryz.ntmps20
    go_wp2_with fail
    refine (within75 x.cy 1 120 _).mono ?_
    rintro e wS ⟨rfl, rfl⟩
    rw [hcy]
    clear hcy
    go_wp2_with fail
    refine (within75 x.gr 0 10000 _).mono ?_
    rintro e wS ⟨rfl, rfl⟩
    rw [hgr]
    clear hgr
    go_wp2_with fail
    go_ret
    exact ⟨ret_int HX.out.symm, (Below.refl _ _).alloc (Nat.le_refl _) _⟩
  have hgr := of_nf hgr
  obtain ⟨cy0, cy1⟩ := inB_iff hcy
  have HE0 : Hid (chE x = if x.cs.length = 0 then 3 else if 6 < x.cs.length then 4 else allE x.cy [] x.cs) := Lib.hid (by unfold chE; rw [if_neg (by rw [hcy, hgr]; decide)])
  go_enter Tryz.func20, Tryz.ntmps20
  go_wp2_with fail
  refine (within75 x.cy 1 120 _).mono ?_
  rintro e wS ⟨rfl, rfl⟩
  rw [hcy]
  clear hcy
  go_wp2_with fail
  refine (within75 x.gr 0 10000 _).mono ?_
  rintro e wS ⟨rfl, rfl⟩
  rw [hgr]
  clear hgr
  obtain ⟨w0, hw0⟩ : ∃ w0, w0 = w.alloc (.cells #[.int .i64 x.cy, .int .i64 x.gr, .slice A x.cs.length cap] 24) := ⟨_, rfl⟩
  have bw0 : Below w.heap.size w w0 := by rw [hw0]; exact (Below.refl _ _).alloc (Nat.le_refl _) _
  have nw0 : w0.heap[w.heap.size]? = some (.cells #[.int .i64 x.cy, .int .i64 x.gr, .slice A x.cs.length cap] 24 (0, 0)) := by rw [hw0]; exact heap_alloc_new _ _
  have Bw0 : Hid (Below w.heap.size w w0) := Lib.hid ((bw0))
  have mw0 : w.heap.size ≤ w0.heap.size := (bw0).size
  have Iw0 := Lib.hid ((Iw.out.below (bw0)).mono (bw0).size)
  clear Iw
  rw [← hw0]
  clear hw0 bw0
  have Xw0 := Lib.hid nw0
  clear nw0
  have Xc0w0 : w0.cell? ⟨w.heap.size, 0, none⟩ = some (.int .i64 x.cy) := by simp [World.cell?, Xw0.out]
  have Xc1w0 : w0.cell? ⟨w.heap.size, 1, none⟩ = some (.int .i64 x.gr) := by simp [World.cell?, Xw0.out]
  have Xc2w0 : w0.cell? ⟨w.heap.size, 2, none⟩ = some (.slice A x.cs.length cap) := by simp [World.cell?, Xw0.out]
  by_cases hl0 : x.cs.length = 0
  · have HX : Hid (chE x = 3) := Lib.hid (by rw [HE0.out, if_pos hl0])
    have l0I : ((x.cs.length : Int) == 0) = true := by simp [hl0]
    have l0J : (x.cs.length : Int) = 0 := by omega
    clear hl0
    go_wp2_with fail
    go_ret
    exact ⟨ret_int HX.out.symm, Bw0.out⟩
  have l0I : ((x.cs.length : Int) == 0) = false := by rw [beq_eq_false_iff_ne]; omega
  by_cases hl6 : 6 < x.cs.length
  · have HX : Hid (chE x = 4) := Lib.hid (by rw [HE0.out, if_neg hl0, if_pos hl6])
    have l6I : 6 < (x.cs.length : Int) := by omega
    clear hl0
    go_wp2_with fail
    go_ret
    exact ⟨ret_int HX.out.symm, Bw0.out⟩
  have HX : Hid (chE x = allE x.cy [] x.cs) := Lib.hid (by rw [HE0.out, if_neg hl0, if_neg hl6])
  have l6I : decide (6 < (x.cs.length : Int)) = false := decide_eq_false (by omega)
  have hn6 : x.cs.length ≤ 6 := by omega
  clear HE0
  go_wp2_with fail
  have sX := heap_lt Xw0.out
  go_loopw [2, 3] (fun r i wr => r = .int .i64 0 ∧ ∃ n : Nat, n ≤ x.cs.length ∧ i = .int .i64 n ∧ Hid (allE x.cy ((x.cs.take n).map Cr.ad) (x.cs.drop n) = chE x) ∧ Below w0.heap.size w0 wr) (fun _ i _ => x.cs.length - (intOf i).toNat)
  case atStart => exact ⟨rfl, 0, Nat.zero_le _, rfl, Lib.hid HX.out.symm, Below.refl _ _⟩
  case round =>
    obtain ⟨rfl, n, hn, rfl, HE, hb⟩ := hrel
    have HB := Lib.hid hb
    have Bwr := Lib.hid (Bw0.out.trans ((hb).mono mw0))
    have mwr : w.heap.size ≤ wr.heap.size := Nat.le_trans mw0 (hb).size
    have Iwr := Lib.hid ((Iw0.out.below (hb)).mono (hb).size)
    have Xwr := Lib.hid (((hb).block _ (heap_lt Xw0.out)).trans Xw0.out)
    clear Bw0 mw0 Iw0 Xw0 Xc0w0 Xc1w0 Xc2w0
    have Xc0wr : wr.cell? ⟨w.heap.size, 0, none⟩ = some (.int .i64 x.cy) := by simp [World.cell?, Xwr.out]
    have Xc1wr : wr.cell? ⟨w.heap.size, 1, none⟩ = some (.int .i64 x.gr) := by simp [World.cell?, Xwr.out]
    have Xc2wr : wr.cell? ⟨w.heap.size, 2, none⟩ = some (.slice A x.cs.length cap) := by simp [World.cell?, Xwr.out]
    clear hb
    by_cases hlt : n < x.cs.length
    · have hltI : (n : Int) < (x.cs.length : Int) := by omega
      obtain ⟨c, hcj⟩ : ∃ c, x.cs[n]? = some c := ⟨_, List.getElem?_eq_getElem hlt⟩
      have HD : Hid (x.cs.drop n = c :: x.cs.drop (n + 1)) := Lib.hid (by rw [List.drop_eq_getElem_cons hlt]; congr 1; rw [List.getElem?_eq_getElem hlt] at hcj; exact Option.some.inj hcj)
      have HT : Hid ((x.cs.take (n + 1)).map Cr.ad = (x.cs.take n).map Cr.ad ++ [c.ad]) := Lib.hid (by rw [List.take_succ_eq_append_getElem hlt, List.map_append]; rw [List.getElem?_eq_getElem hlt] at hcj; rw [Option.some.inj hcj]; rfl)
      have HC := Lib.hid (craft76 x A cap n c wr cy0 cy1 Iwr.out hn6 hcj hlt)
      clear hcj
      go_wp2_with fail
      refine (HC.out).mono ?_
      rintro e w1 ⟨rfl, hw1⟩
      have HbW := hw1
      have Bw1 := Lib.hid (Bwr.out.trans ((hw1).mono mwr))
      have mw1 : w.heap.size ≤ w1.heap.size := Nat.le_trans mwr (hw1).size
      have Iw1 := Lib.hid ((Iwr.out.below (hw1)).mono (hw1).size)
      have Xw1 := Lib.hid (((hw1).block _ (heap_lt Xwr.out)).trans Xwr.out)
      clear Bwr mwr Iwr Xwr Xc0wr Xc1wr Xc2wr
      have Xc0w1 : w1.cell? ⟨w.heap.size, 0, none⟩ = some (.int .i64 x.cy) := by simp [World.cell?, Xw1.out]
      have Xc1w1 : w1.cell? ⟨w.heap.size, 1, none⟩ = some (.int .i64 x.gr) := by simp [World.cell?, Xw1.out]
      have Xc2w1 : w1.cell? ⟨w.heap.size, 2, none⟩ = some (.slice A x.cs.length cap) := by simp [World.cell?, Xw1.out]
      clear hw1
      obtain ⟨e1, he1⟩ : ∃ e, e = crfE x n c := ⟨_, rfl⟩
      have HE1 := Lib.hid he1
      rw [← he1]
      clear he1 HC
      by_cases g : (e1 != 0) = true
      · have HZ : Hid (chE x = e1) := Lib.hid (by rw [← HE.out, HD.out, allE_crf, ← HE1.out, if_pos (by simpa using g)])
        go_wp2_with fail
        go_ret
        exact ⟨ret_int HZ.out.symm, Bw1.out⟩
      · have g2 : e1 = 0 := by simpa using g
        have HZ : Hid (allE x.cy ((x.cs.take (n + 1)).map Cr.ad) (x.cs.drop (n + 1)) = chE x) := Lib.hid (by rw [← HE.out, HD.out, allE_crf, ← HE1.out, if_neg (by simpa using g2), HT.out])
        subst g2
        clear g
        go_wp2_with fail
        exact ⟨⟨rfl, n + 1, by omega, by go_num, HZ, HB.out.trans (HbW.mono HB.out.size)⟩, by simp [intOf]; omega⟩
    · have HZ : Hid (chE x = 0) := Lib.hid (by rw [← HE.out, List.drop_eq_nil_of_le (by omega)]; rfl)
      have hltI : ¬ (n : Int) < (x.cs.length : Int) := by omega
      go_wp2_with fail
      go_ret
      exact ⟨ret_int HZ.out.symm, Bwr.out⟩
end Go.Proofs.YtnnnpliigdfipaaGreatDoor
