/- encounter.Check. -/
import Derived.Test.YtnnnpliigdfipaaGreatDoorRows
import Derived.WalkKit
import Derived.WalkLawsBesides
import Derived.WalkSpells
import Derived.ProofKit
import Derived.Below
import Derived.Outline
import Derived.Lib.Hide
import Derived.Deep.RegionWith
import Derived.Deep.RegionHeld3
import Derived.Deep.DrawnRows
import Derived.StillTailTactics
import Derived.BigQuiet
import Derived.Deep.QuietTactic
import Derived.Deep.LoopGhost
import Derived.IntWalk
import Derived.Lib.MinMax
import Derived.Test.YtnnnpliigdfipaaGreatDoorEnI
namespace Go.Proofs.YtnnnpliigdfipaaGreatDoor
open Go.RowKit
attribute [local go_sem ↓] Go.wp_at_zero Go.wp_at_succ
attribute [local go_sem] wrap_lit
theorem memC_t {ad : Int} {cs : List Cr} (h : memC ad cs = true) : ad ∈ cs.map Cr.ad := of_decide_eq_true h
theorem memC_f {ad : Int} {cs : List Cr} (h : memC ad cs = false) : ¬ ad ∈ cs.map Cr.ad := of_decide_eq_false h
theorem allE_1 {cy : Int} {pv : List Int} {c : Cr} {l : List Cr} (h : (!inB c.ad 0 16777215) = true) : allE cy pv (c :: l) = 1 := by
  unfold allE; rw [if_pos (by simpa using h)]
theorem allE_2 {cy : Int} {pv : List Int} {c : Cr} {l : List Cr} (g : (!inB c.ad 0 16777215) = false) (h : c.ad ∈ pv) : allE cy pv (c :: l) = 16 := by
  unfold allE; rw [if_neg (by simpa using g), if_pos h]
theorem allE_3 {cy : Int} {pv : List Int} {c : Cr} {l : List Cr} (g : (!inB c.ad 0 16777215) = false) (g2 : ¬ c.ad ∈ pv) (h : (crE c cy != 0) = true) : allE cy pv (c :: l) = crE c cy := by
  unfold allE; rw [if_neg (by simpa using g), if_neg g2, if_pos (by simpa using h)]
theorem allE_4 {cy : Int} {pv : List Int} {c : Cr} {l : List Cr} (g : (!inB c.ad 0 16777215) = false) (g2 : ¬ c.ad ∈ pv) (h : (crE c cy != 0) = false) : allE cy pv (c :: l) = allE cy (pv ++ [c.ad]) l := by
  conv => lhs; unfold allE
  rw [if_neg (by simpa using g), if_neg g2, if_neg (by simpa using h)]
set_option maxHeartbeats 4000000 in
theorem check19 (x : En) (A : Option Addr) (cap : Nat) (w : World) (hc : InCr w w.heap.size A x.cs) (hcap : x.cs.length ≤ cap) : Calls Tryz.prog 19 #[.agg #[.int .i64 x.cy, .int .i64 x.gr, .slice A x.cs.length cap]] w fun e w' => e = .returned (.int .i64 (chE x)) ∧ Below w.heap.size w w' := by
  have HI := Lib.hid hc
  clear hc
  by_cases hcy : inB x.cy 1 120 = false
  · have hcy' := hcy
    have HX : Hid (chE x = 1) := Lib.hid (by unfold chE; rw [if_pos (.inl hcy')])
    have q : (!inB x.cy 1 120) = true := by simp [hcy']
    clear hcy hcy'
    go_enter Tryz.func19, Tryz.ntmps19
    go_wp2_with fail
    refine (outside71 x.cy 1 120 _).mono ?_
    rintro e wS ⟨rfl, rfl⟩
    go_wp2_with fail
    go_ret
    exact ⟨ret_int HX.out.symm, (Below.refl _ _).alloc (Nat.le_refl _) _⟩
  have hcy := of_nf hcy
  have q0 : (!inB x.cy 1 120) = false := by simp [hcy]
  by_cases hgr : inB x.gr 0 10000 = false
  · have hgr' := hgr
    have HX : Hid (chE x = 1) := Lib.hid (by unfold chE; rw [if_pos (.inr hgr')])
    have q : (!inB x.gr 0 10000) = true := by simp [hgr']
    clear hcy hgr hgr'
    go_enter Tryz.func19, Tryz.ntmps19
    go_wp2_with fail
    refine (outside71 x.cy 1 120 _).mono ?_
    rintro e wS ⟨rfl, rfl⟩
    go_wp2_with fail
    refine (outside71 x.gr 0 10000 _).mono ?_
    rintro e wS ⟨rfl, rfl⟩
    go_wp2_with fail
    go_ret
    exact ⟨ret_int HX.out.symm, (Below.refl _ _).alloc (Nat.le_refl _) _⟩
  have hgr := of_nf hgr
  have q1 : (!inB x.gr 0 10000) = false := by simp [hgr]
  have HC := Lib.hid hcy
  have HG := Lib.hid hgr
  obtain ⟨cy0, cy1⟩ := inB_iff hcy
  clear hcy hgr
  by_cases hl0 : x.cs.length = 0
  · have HX : Hid (chE x = 3) := Lib.hid (by unfold chE; rw [if_neg (by rw [HC.out, HG.out]; decide), if_pos hl0])
    have hl0I : (x.cs.length : Int) = 0 := by omega
    go_enter Tryz.func19, Tryz.ntmps19
    go_wp2_with fail
    refine (outside71 x.cy 1 120 _).mono ?_
    rintro e wS ⟨rfl, rfl⟩
    go_wp2_with fail
    refine (outside71 x.gr 0 10000 _).mono ?_
    rintro e wS ⟨rfl, rfl⟩
    go_wp2_with fail
    go_ret
    exact ⟨ret_int HX.out.symm, (Below.refl _ _).alloc (Nat.le_refl _) _⟩
  by_cases hl6 : 6 < x.cs.length
  · have HX : Hid (chE x = 4) := Lib.hid (by unfold chE; rw [if_neg (by rw [HC.out, HG.out]; decide), if_neg hl0, if_pos hl6])
    have e1 : ¬ (x.cs.length : Int) = 0 := by omega
    have e2 : 6 < (x.cs.length : Int) := by omega
    go_enter Tryz.func19, Tryz.ntmps19
    go_wp2_with fail
    refine (outside71 x.cy 1 120 _).mono ?_
    rintro e wS ⟨rfl, rfl⟩
    go_wp2_with fail
    refine (outside71 x.gr 0 10000 _).mono ?_
    rintro e wS ⟨rfl, rfl⟩
    go_wp2_with fail
    go_ret
    exact ⟨ret_int HX.out.symm, (Below.refl _ _).alloc (Nat.le_refl _) _⟩
  have HX : Hid (chE x = allE x.cy [] x.cs) := Lib.hid (by unfold chE; rw [if_neg (by rw [HC.out, HG.out]; decide), if_neg hl0, if_neg hl6])
  have hl0' : ((x.cs.length : Int) == 0) = false := by rw [beq_eq_false_iff_ne]; omega
  have e1 : decide (6 < (x.cs.length : Int)) = false := by simp; omega
  go_enter Tryz.func19, Tryz.ntmps19
  go_wp2_with fail
  refine (outside71 x.cy 1 120 _).mono ?_
  rintro e wS ⟨rfl, rfl⟩
  go_wp2_with fail
  refine (outside71 x.gr 0 10000 _).mono ?_
  rintro e wS ⟨rfl, rfl⟩
  go_wp2_with fail
  obtain ⟨W0, hW0⟩ : ∃ W0, W0 = w.alloc (.cells #[.int .i64 x.cy, .int .i64 x.gr, .slice A x.cs.length cap] 24) := ⟨_, rfl⟩
  have BW0 : Hid (Below w.heap.size w W0) := Lib.hid (by rw [hW0]; exact (Below.refl _ _).alloc (Nat.le_refl _) _)
  have zxW0 : w.heap.size < W0.heap.size := by rw [hW0]; simp <;> omega
  have xW0_0 : W0.cell? ⟨w.heap.size, 0, none⟩ = some (.int .i64 x.cy) := by rw [hW0]; go_simp
  have xW0_1 : W0.cell? ⟨w.heap.size, 1, none⟩ = some (.int .i64 x.gr) := by rw [hW0]; go_simp
  have xW0_2 : W0.cell? ⟨w.heap.size, 2, none⟩ = some (.slice A x.cs.length cap) := by rw [hW0]; go_simp
  have mW0 : w.heap.size ≤ W0.heap.size := by rw [hW0]; simp <;> omega
  rw [← hW0]
  clear hW0
  go_loopw [2, 28] (fun r y wr => r = .int .i64 0 ∧ ∃ n : Nat, n ≤ x.cs.length ∧ y = .int .i64 n ∧ allE x.cy ((x.cs.take n).map Cr.ad) (x.cs.drop n) = chE x ∧ Below W0.heap.size W0 wr) (fun _ y _ => x.cs.length - (intOf y).toNat)
  case atStart => exact ⟨rfl, 0, Nat.zero_le _, rfl, HX.out.symm, Below.refl _ _⟩
  case round =>
    obtain ⟨rfl, n, hn, rfl, hE, hb⟩ := hrel
    have HE := Lib.hid hE
    have HB := Lib.hid hb
    clear hE hb
    have zxwr : w.heap.size < wr.heap.size := Nat.lt_of_lt_of_le zxW0 HB.out.size
    have xwr_0 := (HB.out.cell (p := ⟨w.heap.size, 0, none⟩) zxW0).trans xW0_0
    have xwr_1 := (HB.out.cell (p := ⟨w.heap.size, 1, none⟩) zxW0).trans xW0_1
    have xwr_2 := (HB.out.cell (p := ⟨w.heap.size, 2, none⟩) zxW0).trans xW0_2
    clear xW0_0 xW0_1 xW0_2
    have mwr : w.heap.size ≤ wr.heap.size := by omega
    have Bwr : Hid (Below w.heap.size w wr) := Lib.hid (BW0.out.trans (HB.out.mono mW0))
    by_cases hlt : n < x.cs.length
    · obtain ⟨b, off, rfl, hbb, hc⟩ := HI.out (by omega)
      obtain ⟨c, hcj⟩ : ∃ c, x.cs[n]? = some c := ⟨_, List.getElem?_eq_getElem hlt⟩
      have HD : Hid (x.cs.drop n = c :: x.cs.drop (n + 1)) := Lib.hid (by rw [List.drop_eq_getElem_cons hlt]; congr 1; rw [List.getElem?_eq_getElem hlt] at hcj; exact Option.some.inj hcj)
      have HT : Hid ((x.cs.take (n + 1)).map Cr.ad = (x.cs.take n).map Cr.ad ++ [c.ad]) := Lib.hid (by rw [List.take_succ_eq_append_getElem hlt, List.map_append]; rw [List.getElem?_eq_getElem hlt] at hcj; rw [Option.some.inj hcj]; rfl)
      obtain ⟨LA, cap', hA, hL⟩ := hc n c hcj
      have Lwr := Lib.hid (hL.below Bwr.out)
      have Zwr := HB
      have Iwr := Lib.hid ((HI.out.take n).below Bwr.out)
      clear hc hcj hL
      have hA2 := hA.below Bwr.out hbb
      clear hA
      obtain ⟨a0, a1, a2, a3, a4, a5, a6, a7, a8, a9, a10, a11, a12⟩ := hA2
      have hlI : (n : Int) < (x.cs.length : Int) := by omega
      go_wp2_with fail
      obtain ⟨X1, hX1⟩ : ∃ X1, X1 = wr.alloc (.cells #[.int .i64 c.ad, .int .i64 c.p.x, .int .i64 c.p.y, .int .i64 c.p.z, .int .i64 c.v.x, .int .i64 c.v.y, .int .i64 c.v.z, .int .i64 c.pu, .slice LA c.lg.length cap', .int .u8 c.mo, .int .i64 c.de, .int .i64 c.pp, .int .i64 c.mi] 63) := ⟨_, rfl⟩
      have bX1 : Below wr.heap.size wr X1 := by rw [hX1]; exact (Below.refl _ _).alloc (Nat.le_refl _) _
      have BX1 : Hid (Below w.heap.size w X1) := Lib.hid (Bwr.out.trans ((bX1).mono mwr))
      have mX1 : w.heap.size ≤ X1.heap.size := Nat.le_trans mwr (bX1).size
      have zxX1 : w.heap.size < X1.heap.size := Nat.lt_of_lt_of_le zxwr (bX1).size
      have xX1_0 := ((bX1).cell (p := ⟨w.heap.size, 0, none⟩) zxwr).trans xwr_0
      have xX1_1 := ((bX1).cell (p := ⟨w.heap.size, 1, none⟩) zxwr).trans xwr_1
      have xX1_2 := ((bX1).cell (p := ⟨w.heap.size, 2, none⟩) zxwr).trans xwr_2
      have LX1 := Lib.hid (Lwr.out.below ((bX1).mono mwr))
      have IX1 := Lib.hid (Iwr.out.below ((bX1).mono mwr))
      have ZX1 := Lib.hid (Zwr.out.trans ((bX1).mono Zwr.out.size))
      clear Bwr mwr xwr_0 xwr_1 xwr_2 zxwr Lwr Iwr Zwr
      have zcX1 : wr.heap.size < X1.heap.size := by rw [hX1]; simp
      have cX1_0 : X1.cell? ⟨wr.heap.size, 0, none⟩ = some (.int .i64 c.ad) := by rw [hX1]; simp
      have cX1_1 : X1.cell? ⟨wr.heap.size, 1, none⟩ = some (.int .i64 c.p.x) := by rw [hX1]; simp
      have cX1_2 : X1.cell? ⟨wr.heap.size, 2, none⟩ = some (.int .i64 c.p.y) := by rw [hX1]; simp
      have cX1_3 : X1.cell? ⟨wr.heap.size, 3, none⟩ = some (.int .i64 c.p.z) := by rw [hX1]; simp
      have cX1_4 : X1.cell? ⟨wr.heap.size, 4, none⟩ = some (.int .i64 c.v.x) := by rw [hX1]; simp
      have cX1_5 : X1.cell? ⟨wr.heap.size, 5, none⟩ = some (.int .i64 c.v.y) := by rw [hX1]; simp
      have cX1_6 : X1.cell? ⟨wr.heap.size, 6, none⟩ = some (.int .i64 c.v.z) := by rw [hX1]; simp
      have cX1_7 : X1.cell? ⟨wr.heap.size, 7, none⟩ = some (.int .i64 c.pu) := by rw [hX1]; simp
      have cX1_8 : X1.cell? ⟨wr.heap.size, 8, none⟩ = some (.slice LA c.lg.length cap') := by rw [hX1]; simp
      have cX1_9 : X1.cell? ⟨wr.heap.size, 9, none⟩ = some (.int .u8 c.mo) := by rw [hX1]; simp
      have cX1_10 : X1.cell? ⟨wr.heap.size, 10, none⟩ = some (.int .i64 c.de) := by rw [hX1]; simp
      have cX1_11 : X1.cell? ⟨wr.heap.size, 11, none⟩ = some (.int .i64 c.pp) := by rw [hX1]; simp
      have cX1_12 : X1.cell? ⟨wr.heap.size, 12, none⟩ = some (.int .i64 c.mi) := by rw [hX1]; simp
      rw [← hX1]
      clear hX1 bX1
      refine (outside71 c.ad 0 16777215 _).mono ?_
      rintro e wS ⟨rfl, rfl⟩
      go_wp2_with fail
      · have HZ : Hid (chE x = 1) := Lib.hid (by rw [← HE.out, HD.out]; exact allE_1 (by assumption))
        go_ret
        exact ⟨ret_int HZ.out.symm, BX1.out⟩
      have G1 : Hid ((!inB c.ad 0 16777215) = false) := Lib.hid (by assumption)
      have T := cont72 (some ⟨b, off, none⟩) cap (x.cs.take n) wr.heap.size c.ad X1 cX1_0 zcX1 (IX1.out.mono mX1) (by simp; omega)
      rw [show (x.cs.take n).length = n by simp; omega] at T
      refine (T).mono ?_
      rintro e X2 ⟨rfl, hX2⟩
      have BX2 : Hid (Below w.heap.size w X2) := Lib.hid (BX1.out.trans ((hX2).mono mX1))
      have mX2 : w.heap.size ≤ X2.heap.size := Nat.le_trans mX1 (hX2).size
      have zxX2 : w.heap.size < X2.heap.size := Nat.lt_of_lt_of_le zxX1 (hX2).size
      have xX2_0 := ((hX2).cell (p := ⟨w.heap.size, 0, none⟩) zxX1).trans xX1_0
      have xX2_1 := ((hX2).cell (p := ⟨w.heap.size, 1, none⟩) zxX1).trans xX1_1
      have xX2_2 := ((hX2).cell (p := ⟨w.heap.size, 2, none⟩) zxX1).trans xX1_2
      have zcX2 : wr.heap.size < X2.heap.size := Nat.lt_of_lt_of_le zcX1 (hX2).size
      have cX2_0 := ((hX2).cell (p := ⟨wr.heap.size, 0, none⟩) zcX1).trans cX1_0
      have cX2_1 := ((hX2).cell (p := ⟨wr.heap.size, 1, none⟩) zcX1).trans cX1_1
      have cX2_2 := ((hX2).cell (p := ⟨wr.heap.size, 2, none⟩) zcX1).trans cX1_2
      have cX2_3 := ((hX2).cell (p := ⟨wr.heap.size, 3, none⟩) zcX1).trans cX1_3
      have cX2_4 := ((hX2).cell (p := ⟨wr.heap.size, 4, none⟩) zcX1).trans cX1_4
      have cX2_5 := ((hX2).cell (p := ⟨wr.heap.size, 5, none⟩) zcX1).trans cX1_5
      have cX2_6 := ((hX2).cell (p := ⟨wr.heap.size, 6, none⟩) zcX1).trans cX1_6
      have cX2_7 := ((hX2).cell (p := ⟨wr.heap.size, 7, none⟩) zcX1).trans cX1_7
      have cX2_8 := ((hX2).cell (p := ⟨wr.heap.size, 8, none⟩) zcX1).trans cX1_8
      have cX2_9 := ((hX2).cell (p := ⟨wr.heap.size, 9, none⟩) zcX1).trans cX1_9
      have cX2_10 := ((hX2).cell (p := ⟨wr.heap.size, 10, none⟩) zcX1).trans cX1_10
      have cX2_11 := ((hX2).cell (p := ⟨wr.heap.size, 11, none⟩) zcX1).trans cX1_11
      have cX2_12 := ((hX2).cell (p := ⟨wr.heap.size, 12, none⟩) zcX1).trans cX1_12
      have LX2 := Lib.hid (LX1.out.below ((hX2).mono mX1))
      have IX2 := Lib.hid (IX1.out.below ((hX2).mono mX1))
      have ZX2 := Lib.hid (ZX1.out.trans ((hX2).mono ZX1.out.size))
      clear BX1 mX1 xX1_0 xX1_1 xX1_2 zxX1 cX1_0 cX1_1 cX1_2 cX1_3 cX1_4 cX1_5 cX1_6 cX1_7 cX1_8 cX1_9 cX1_10 cX1_11 cX1_12 zcX1 LX1 IX1 ZX1
      clear hX2
      go_wp2_with fail
      · have HZ : Hid (chE x = 16) := Lib.hid (by rw [← HE.out, HD.out]; exact allE_2 G1.out (memC_t (by assumption)))
        go_ret
        exact ⟨ret_int HZ.out.symm, BX2.out⟩
      have G2 : Hid (memC c.ad (x.cs.take n) = false) := Lib.hid (by assumption)
      refine (craft74 c LA cap' x.cy w.heap.size _ cy0 cy1 LX2.out mX2).mono ?_
      rintro e X3 ⟨rfl, hX3⟩
      have BX3 : Hid (Below w.heap.size w X3) := Lib.hid (BX2.out.trans ((hX3).mono mX2))
      have mX3 : w.heap.size ≤ X3.heap.size := Nat.le_trans mX2 (hX3).size
      have zxX3 : w.heap.size < X3.heap.size := Nat.lt_of_lt_of_le zxX2 (hX3).size
      have xX3_0 := ((hX3).cell (p := ⟨w.heap.size, 0, none⟩) zxX2).trans xX2_0
      have xX3_1 := ((hX3).cell (p := ⟨w.heap.size, 1, none⟩) zxX2).trans xX2_1
      have xX3_2 := ((hX3).cell (p := ⟨w.heap.size, 2, none⟩) zxX2).trans xX2_2
      have zcX3 : wr.heap.size < X3.heap.size := Nat.lt_of_lt_of_le zcX2 (hX3).size
      have cX3_0 := ((hX3).cell (p := ⟨wr.heap.size, 0, none⟩) zcX2).trans cX2_0
      have cX3_1 := ((hX3).cell (p := ⟨wr.heap.size, 1, none⟩) zcX2).trans cX2_1
      have cX3_2 := ((hX3).cell (p := ⟨wr.heap.size, 2, none⟩) zcX2).trans cX2_2
      have cX3_3 := ((hX3).cell (p := ⟨wr.heap.size, 3, none⟩) zcX2).trans cX2_3
      have cX3_4 := ((hX3).cell (p := ⟨wr.heap.size, 4, none⟩) zcX2).trans cX2_4
      have cX3_5 := ((hX3).cell (p := ⟨wr.heap.size, 5, none⟩) zcX2).trans cX2_5
      have cX3_6 := ((hX3).cell (p := ⟨wr.heap.size, 6, none⟩) zcX2).trans cX2_6
      have cX3_7 := ((hX3).cell (p := ⟨wr.heap.size, 7, none⟩) zcX2).trans cX2_7
      have cX3_8 := ((hX3).cell (p := ⟨wr.heap.size, 8, none⟩) zcX2).trans cX2_8
      have cX3_9 := ((hX3).cell (p := ⟨wr.heap.size, 9, none⟩) zcX2).trans cX2_9
      have cX3_10 := ((hX3).cell (p := ⟨wr.heap.size, 10, none⟩) zcX2).trans cX2_10
      have cX3_11 := ((hX3).cell (p := ⟨wr.heap.size, 11, none⟩) zcX2).trans cX2_11
      have cX3_12 := ((hX3).cell (p := ⟨wr.heap.size, 12, none⟩) zcX2).trans cX2_12
      have LX3 := Lib.hid (LX2.out.below ((hX3).mono mX2))
      have IX3 := Lib.hid (IX2.out.below ((hX3).mono mX2))
      have ZX3 := Lib.hid (ZX2.out.trans ((hX3).mono ZX2.out.size))
      clear BX2 mX2 xX2_0 xX2_1 xX2_2 zxX2 cX2_0 cX2_1 cX2_2 cX2_3 cX2_4 cX2_5 cX2_6 cX2_7 cX2_8 cX2_9 cX2_10 cX2_11 cX2_12 zcX2 LX2 IX2 ZX2
      clear hX3
      go_wp2_with fail
      · have HZ : Hid (chE x = crE c x.cy) := Lib.hid (by rw [← HE.out, HD.out]; exact allE_3 G1.out (memC_f G2.out) (by assumption))
        go_ret
        exact ⟨ret_int HZ.out.symm, BX3.out⟩
      have G3 : Hid ((crE c x.cy != 0) = false) := Lib.hid (by assumption)
      exact ⟨⟨rfl, n + 1, by omega, by go_num, by rw [← HE.out, HD.out, HT.out, allE_4 G1.out (memC_f G2.out) G3.out], ZX3.out⟩, by simp [intOf]; omega⟩
    · have HZ : Hid (chE x = 0) := Lib.hid (by rw [← HE.out, List.drop_eq_nil_of_le (by omega)]; rfl)
      have hlI : ¬ (n : Int) < (x.cs.length : Int) := by omega
      go_wp2_with fail
      go_ret
      exact ⟨ret_int HZ.out.symm, Bwr.out⟩
end Go.Proofs.YtnnnpliigdfipaaGreatDoor
