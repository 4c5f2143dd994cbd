/- GeometryExact returns true for every input. -/
import Derived.Test.YtdflamblbhpngaaRows
import Derived.WalkKit
import Derived.WalkLawsBesides
import Derived.WalkSpells
import Derived.ProofKit
import Derived.Below
import Derived.Outline
import Derived.Lib.Hide
import Derived.Deep.RegionWith
import Derived.Deep.RegionHeld3
import Derived.Deep.DrawnRows
import Derived.StillTailTactics
import Derived.BigQuiet
import Derived.Deep.QuietTactic
import Derived.Deep.LoopGhost
import Derived.IntWalk
import Derived.Test.YtdflamblbhpngaaGeM
import Derived.Test.YtdflamblbhpngaaRC
import Derived.Test.YtdflamblbhpngaaKO
import Derived.WalkKit
import Derived.ProofKit
import Derived.OpenShut
import Derived.ShutString
import Derived.ChangeOld
import Derived.Below
import Derived.Lib.SmallJoins
import Derived.Deep.DeepCutAuto
namespace Go.Proofs.Ytdflamblbhpngaa
open Go.RowKit
attribute [local go_sem ↓] Go.wp_at_zero Go.wp_at_succ
attribute [local go_sem] wrap_lit

set_option maxRecDepth 100000 in
set_option maxHeartbeats 100000000 in
theorem exactG (p q v u P Q V U : V3) (d t b l N D : Int) (r : Bool) (w : World) (e0 : p.x.tmod 8 = P.x) (e1 : p.y.tmod 8 = P.y) (e2 : p.z.tmod 300 = P.z) (e3 : q.x.tmod 8 = Q.x) (e4 : q.y.tmod 8 = Q.y) (e5 : q.z.tmod 300 = Q.z) (e6 : v.x.tmod 3 = V.x) (e7 : v.y.tmod 3 = V.y) (e8 : v.z.tmod 10 = V.z) (e9 : u.x.tmod 3 = U.x) (e10 : u.y.tmod 3 = U.y) (e11 : u.z.tmod 10 = U.z)
    (hd : 0 ≤ d ∧ d ≤ 255) (ht : 0 ≤ t ∧ t ≤ 255) (hb : d % 20 = b) (hl : t % 20 = l) (hD : 1 ≤ D ∧ D ≤ 300000) (hN : 0 ≤ N ∧ N ≤ 10000000000000)
    (T1 : Hid (∀ w, Calls Try.prog 16 #[.agg #[.int .i64 P.x, .int .i64 P.y, .int .i64 P.z], .agg #[.int .i64 Q.x, .int .i64 Q.y, .int .i64 Q.z], .agg #[.int .i64 V.x, .int .i64 V.y, .int .i64 V.z], .agg #[.int .i64 U.x, .int .i64 U.y, .int .i64 U.z], .int .i64 b, .int .i64 l] w fun e w' => e = .returned (.tuple #[.bool r, .int .i64 0]) ∧ Below w.heap.size w w'))
    (T2 : Hid (∀ w, Calls Try.prog 12 #[.agg #[.int .i64 P.x, .int .i64 P.y, .int .i64 P.z], .agg #[.int .i64 Q.x, .int .i64 Q.y, .int .i64 Q.z], .agg #[.int .i64 V.x, .int .i64 V.y, .int .i64 V.z], .agg #[.int .i64 U.x, .int .i64 U.y, .int .i64 U.z]] w fun e w' => e = .returned (.tuple #[.int .i64 N, .int .i64 D, .int .i64 0]) ∧ Below w.heap.size w w'))
    (T3a : N ≤ l * D → Hid (∀ w, Calls Try.prog 24 #[.agg #[.int .i64 P.x, .int .i64 P.y, .int .i64 P.z, .int .i64 Q.x, .int .i64 Q.y, .int .i64 Q.z, .int .i64 V.x, .int .i64 V.y, .int .i64 V.z, .int .i64 U.x, .int .i64 U.y, .int .i64 U.z], .int .i64 N, .int .i64 D, .int .i64 b] w fun e w' => e = .returned (.bool r) ∧ Below w.heap.size w w')) (T3b : ¬ N ≤ l * D → Hid (∀ w, Calls Try.prog 24 #[.agg #[.int .i64 P.x, .int .i64 P.y, .int .i64 P.z, .int .i64 Q.x, .int .i64 Q.y, .int .i64 Q.z, .int .i64 V.x, .int .i64 V.y, .int .i64 V.z, .int .i64 U.x, .int .i64 U.y, .int .i64 U.z], .int .i64 l, .int .i64 1, .int .i64 b] w fun e w' => e = .returned (.bool r) ∧ Below w.heap.size w w'))
    (T4 : r = false → ∀ n m : Int, 0 ≤ n → n ≤ l * m → 1 ≤ m → m ≤ 12 → Hid (∀ w, Calls Try.prog 24 #[.agg #[.int .i64 P.x, .int .i64 P.y, .int .i64 P.z, .int .i64 Q.x, .int .i64 Q.y, .int .i64 Q.z, .int .i64 V.x, .int .i64 V.y, .int .i64 V.z, .int .i64 U.x, .int .i64 U.y, .int .i64 U.z], .int .i64 n, .int .i64 m, .int .i64 b] w fun e w' => e = .returned (.bool false) ∧ Below w.heap.size w w')) : Calls Try.prog 6 #[.agg #[.int .i64 p.x, .int .i64 p.y, .int .i64 p.z, .int .i64 q.x, .int .i64 q.y, .int .i64 q.z, .int .i64 v.x, .int .i64 v.y, .int .i64 v.z, .int .i64 u.x, .int .i64 u.y, .int .i64 u.z], .int .u8 d, .int .u8 t] w fun e w' => e = .returned (.bool true) ∧ Below w.heap.size w w' := by
  obtain ⟨d0, d1⟩ := hd
  obtain ⟨t0, t1⟩ := ht
  obtain ⟨D0, D1⟩ := hD
  obtain ⟨N0, N1⟩ := hN
  have l0 : 0 ≤ l := by omega
  have l1 : l ≤ 19 := by omega
  obtain ⟨p0, p1⟩ := mul_bd (a := l) (b := D) (A := 19) (B := 300000) (by omega) (by omega) (by omega) (by omega)
  have E0 := Lib.hid e0
  have E1 := Lib.hid e1
  have E2 := Lib.hid e2
  have E3 := Lib.hid e3
  have E4 := Lib.hid e4
  have E5 := Lib.hid e5
  have E6 := Lib.hid e6
  have E7 := Lib.hid e7
  have E8 := Lib.hid e8
  have E9 := Lib.hid e9
  have E10 := Lib.hid e10
  have E11 := Lib.hid e11
  have HT4 := Lib.hid T4
  have HT3a := Lib.hid T3a
  have HT3b := Lib.hid T3b
  clear T4 T3a T3b
  have HB := Lib.hid hb
  have HL := Lib.hid hl
  clear e0 e1 e2 e3 e4 e5 e6 e7 e8 e9 e10 e11 hb hl
  go_enter Try.func6, Try.ntmps6
  go_wp2_with fail
  refine (awake18 _).mono ?_
  rintro e w1 ⟨rfl, hb1⟩
  have hc1 := (bcell hb1).1
  have hf1 := (bcell hb1).2
  have hs1 := hb1.size
  try simp at hs1
  have hz1_0 : w.heap.size < w1.heap.size := by omega
  have B1 : Below w.heap.size w w1 := ((Below.refl _ _).alloc (Nat.le_refl _) _).trans (hb1.mono (by first | omega | (simp; omega) | simp))
  go_upto_region 5 with fail
  obtain ⟨X, hX⟩ : ∃ X, X = w1 := ⟨_, rfl⟩
  have k_0 : X.cell? ⟨w.heap.size, 0, none⟩ = some (.int .i64 p.x) := by rw [hX]; go_simp
  have k_1 : X.cell? ⟨w.heap.size, 1, none⟩ = some (.int .i64 p.y) := by rw [hX]; go_simp
  have k_2 : X.cell? ⟨w.heap.size, 2, none⟩ = some (.int .i64 p.z) := by rw [hX]; go_simp
  have k_3 : X.cell? ⟨w.heap.size, 3, none⟩ = some (.int .i64 q.x) := by rw [hX]; go_simp
  have k_4 : X.cell? ⟨w.heap.size, 4, none⟩ = some (.int .i64 q.y) := by rw [hX]; go_simp
  have k_5 : X.cell? ⟨w.heap.size, 5, none⟩ = some (.int .i64 q.z) := by rw [hX]; go_simp
  have k_6 : X.cell? ⟨w.heap.size, 6, none⟩ = some (.int .i64 v.x) := by rw [hX]; go_simp
  have k_7 : X.cell? ⟨w.heap.size, 7, none⟩ = some (.int .i64 v.y) := by rw [hX]; go_simp
  have k_8 : X.cell? ⟨w.heap.size, 8, none⟩ = some (.int .i64 v.z) := by rw [hX]; go_simp
  have k_9 : X.cell? ⟨w.heap.size, 9, none⟩ = some (.int .i64 u.x) := by rw [hX]; go_simp
  have k_10 : X.cell? ⟨w.heap.size, 10, none⟩ = some (.int .i64 u.y) := by rw [hX]; go_simp
  have k_11 : X.cell? ⟨w.heap.size, 11, none⟩ = some (.int .i64 u.z) := by rw [hX]; go_simp
  have zX_0 : w.heap.size < X.heap.size := by rw [hX]; omega
  have BX : Below w.heap.size w X := by rw [hX]; exact B1
  rw [← hX]
  clear hX
  clear hc1 hf1 hs1 hz1_0 B1 hb1
  have hne : w.heap.size ≠ X.heap.size := by omega
  go_cut [9] (fun s9 wx => s9 = .pointer (some ⟨X.heap.size, 0, none⟩) ∧ Below X.heap.size X wx ∧ X.heap.size < wx.heap.size ∧ wx.cell? ⟨X.heap.size, 0, none⟩ = some (.int .i64 (p.x.tmod 8)) ∧ wx.cell? ⟨X.heap.size, 1, none⟩ = some (.int .i64 (p.y.tmod 8)) ∧ wx.cell? ⟨X.heap.size, 2, none⟩ = some (.int .i64 (p.z.tmod 300)) ∧ wx.cell? ⟨X.heap.size, 3, none⟩ = some (.int .i64 (q.x.tmod 8)) ∧ wx.cell? ⟨X.heap.size, 4, none⟩ = some (.int .i64 (q.y.tmod 8)) ∧ wx.cell? ⟨X.heap.size, 5, none⟩ = some (.int .i64 (q.z.tmod 300)) ∧ wx.cell? ⟨X.heap.size, 6, none⟩ = some (.int .i64 (v.x.tmod 3)) ∧ wx.cell? ⟨X.heap.size, 7, none⟩ = some (.int .i64 (v.y.tmod 3)) ∧ wx.cell? ⟨X.heap.size, 8, none⟩ = some (.int .i64 (v.z.tmod 10)) ∧ wx.cell? ⟨X.heap.size, 9, none⟩ = some (.int .i64 (u.x.tmod 3)) ∧ wx.cell? ⟨X.heap.size, 10, none⟩ = some (.int .i64 (u.y.tmod 3)) ∧ wx.cell? ⟨X.heap.size, 11, none⟩ = some (.int .i64 (u.z.tmod 10)))
  case rest =>
    obtain ⟨rfl, BC, zC, y_0, y_1, y_2, y_3, y_4, y_5, y_6, y_7, y_8, y_9, y_10, y_11⟩ := hcut
    rw [E0.out] at y_0
    rw [E1.out] at y_1
    rw [E2.out] at y_2
    rw [E3.out] at y_3
    rw [E4.out] at y_4
    rw [E5.out] at y_5
    rw [E6.out] at y_6
    rw [E7.out] at y_7
    rw [E8.out] at y_8
    rw [E9.out] at y_9
    rw [E10.out] at y_10
    rw [E11.out] at y_11
    clear E0 k_0 E1 k_1 E2 k_2 E3 k_3 E4 k_4 E5 k_5 E6 k_6 E7 k_7 E8 k_8 E9 k_9 E10 k_10 E11 k_11
    have hb := HB.out
    have hl := HL.out
    have BW : Below w.heap.size w wc := BX.trans (BC.mono (by omega))
    clear BC BX
    obtain ⟨g, hg⟩ : ∃ g, g = X.heap.size := ⟨_, rfl⟩
    rw [← hg] at zC y_0 y_1 y_2 y_3 y_4 y_5 y_6 y_7 y_8 y_9 y_10 y_11 ⊢
    clear hg
    go_wp2_with fail
    refine (T1.out _).mono ?_
    rintro e w2 ⟨rfl, hb2⟩
    have hs2 := hb2.size
    replace y_0 := (hb2.cell (p := ⟨g, 0, none⟩) zC).trans y_0
    replace y_1 := (hb2.cell (p := ⟨g, 1, none⟩) zC).trans y_1
    replace y_2 := (hb2.cell (p := ⟨g, 2, none⟩) zC).trans y_2
    replace y_3 := (hb2.cell (p := ⟨g, 3, none⟩) zC).trans y_3
    replace y_4 := (hb2.cell (p := ⟨g, 4, none⟩) zC).trans y_4
    replace y_5 := (hb2.cell (p := ⟨g, 5, none⟩) zC).trans y_5
    replace y_6 := (hb2.cell (p := ⟨g, 6, none⟩) zC).trans y_6
    replace y_7 := (hb2.cell (p := ⟨g, 7, none⟩) zC).trans y_7
    replace y_8 := (hb2.cell (p := ⟨g, 8, none⟩) zC).trans y_8
    replace y_9 := (hb2.cell (p := ⟨g, 9, none⟩) zC).trans y_9
    replace y_10 := (hb2.cell (p := ⟨g, 10, none⟩) zC).trans y_10
    replace y_11 := (hb2.cell (p := ⟨g, 11, none⟩) zC).trans y_11
    have zC2 : g < w2.heap.size := by omega
    have B2 : Below w.heap.size w w2 := BW.trans (hb2.mono BW.size)
    clear BW hb2
    go_wp2_with fail
    refine (T2.out _).mono ?_
    rintro e w3 ⟨rfl, hb3⟩
    have hs3 := hb3.size
    replace y_0 := (hb3.cell (p := ⟨g, 0, none⟩) zC2).trans y_0
    replace y_1 := (hb3.cell (p := ⟨g, 1, none⟩) zC2).trans y_1
    replace y_2 := (hb3.cell (p := ⟨g, 2, none⟩) zC2).trans y_2
    replace y_3 := (hb3.cell (p := ⟨g, 3, none⟩) zC2).trans y_3
    replace y_4 := (hb3.cell (p := ⟨g, 4, none⟩) zC2).trans y_4
    replace y_5 := (hb3.cell (p := ⟨g, 5, none⟩) zC2).trans y_5
    replace y_6 := (hb3.cell (p := ⟨g, 6, none⟩) zC2).trans y_6
    replace y_7 := (hb3.cell (p := ⟨g, 7, none⟩) zC2).trans y_7
    replace y_8 := (hb3.cell (p := ⟨g, 8, none⟩) zC2).trans y_8
    replace y_9 := (hb3.cell (p := ⟨g, 9, none⟩) zC2).trans y_9
    replace y_10 := (hb3.cell (p := ⟨g, 10, none⟩) zC2).trans y_10
    replace y_11 := (hb3.cell (p := ⟨g, 11, none⟩) zC2).trans y_11
    have zC3 : g < w3.heap.size := by omega
    have B3 : Below w.heap.size w w3 := B2.trans (hb3.mono B2.size)
    clear B2 hb3 hs2 zC zC2 hs3
    have hD1 : decide (D < 1) = false := by simp; omega
    have hN1 : decide (N < 0) = false := by simp; omega
    have hD4 : decide (400000 < D) = false := by simp; omega
    by_cases hN : N ≤ l * D
    · have U := HT3a.out hN
      clear HT3a HT3b
      have hNl : decide (l * D < N) = false := by simp; omega
      cases r
      · go_wp2_with fail
        refine (U.out _).mono ?_
        rintro e w4 ⟨rfl, hb4⟩
        have hs4 := hb4.size
        replace y_0 := (hb4.cell (p := ⟨g, 0, none⟩) zC3).trans y_0
        replace y_1 := (hb4.cell (p := ⟨g, 1, none⟩) zC3).trans y_1
        replace y_2 := (hb4.cell (p := ⟨g, 2, none⟩) zC3).trans y_2
        replace y_3 := (hb4.cell (p := ⟨g, 3, none⟩) zC3).trans y_3
        replace y_4 := (hb4.cell (p := ⟨g, 4, none⟩) zC3).trans y_4
        replace y_5 := (hb4.cell (p := ⟨g, 5, none⟩) zC3).trans y_5
        replace y_6 := (hb4.cell (p := ⟨g, 6, none⟩) zC3).trans y_6
        replace y_7 := (hb4.cell (p := ⟨g, 7, none⟩) zC3).trans y_7
        replace y_8 := (hb4.cell (p := ⟨g, 8, none⟩) zC3).trans y_8
        replace y_9 := (hb4.cell (p := ⟨g, 9, none⟩) zC3).trans y_9
        replace y_10 := (hb4.cell (p := ⟨g, 10, none⟩) zC3).trans y_10
        replace y_11 := (hb4.cell (p := ⟨g, 11, none⟩) zC3).trans y_11
        have zC4 : g < w4.heap.size := by omega
        have B4 : Below w.heap.size w w4 := B3.trans (hb4.mono B3.size)
        clear B3 hb4 hs4 U zC3
        go_wp2_with fail
        go_loopw [6, 17, 18] (fun r i j wr => ∃ m : Int, 1 ≤ m ∧ m ≤ 13 ∧ r = .bool false ∧ i = .int .i64 m ∧ Below w4.heap.size w4 wr) (fun _ i _ _ => (13 - intOf i).toNat)
        case atStart => exact ⟨1, by omega, by omega, rfl, rfl, Below.refl _ _⟩
        case round =>
          obtain ⟨m, m0, m1, rfl, rfl, hB⟩ := hrel
          by_cases hm : m ≤ 12
          · obtain ⟨lm0', lm1⟩ := mul_bd (a := l) (b := m) (A := 19) (B := 12) (by omega) (by omega) (by omega) (by omega)
            have lm0 : 0 ≤ l * m := Int.mul_nonneg l0 (by omega)
            have HBo := Lib.hid hB
            clear lm0' hB
            go_wp2_with fail
            obtain ⟨wo, rfl⟩ : ∃ wo : World, wo = wr := ⟨_, rfl⟩
            go_loopw [6, 18] (fun r j wr => ∃ n : Int, 0 ≤ n ∧ n ≤ l * m + 1 ∧ r = .bool false ∧ j = .int .i64 n ∧ Below w4.heap.size w4 wr) (fun _ j _ => (l * m + 1 - intOf j).toNat)
            case atStart => exact ⟨0, by omega, by omega, rfl, rfl, HBo.out⟩
            case round =>
              obtain ⟨n, n0, n1, rfl, rfl, hB⟩ := hrel
              by_cases hn : n ≤ l * m
              · have U := HT4.out (by simp) n m n0 hn m0 hm
                have x_0 := (hB.cell (p := ⟨g, 0, none⟩) zC4).trans y_0
                have x_1 := (hB.cell (p := ⟨g, 1, none⟩) zC4).trans y_1
                have x_2 := (hB.cell (p := ⟨g, 2, none⟩) zC4).trans y_2
                have x_3 := (hB.cell (p := ⟨g, 3, none⟩) zC4).trans y_3
                have x_4 := (hB.cell (p := ⟨g, 4, none⟩) zC4).trans y_4
                have x_5 := (hB.cell (p := ⟨g, 5, none⟩) zC4).trans y_5
                have x_6 := (hB.cell (p := ⟨g, 6, none⟩) zC4).trans y_6
                have x_7 := (hB.cell (p := ⟨g, 7, none⟩) zC4).trans y_7
                have x_8 := (hB.cell (p := ⟨g, 8, none⟩) zC4).trans y_8
                have x_9 := (hB.cell (p := ⟨g, 9, none⟩) zC4).trans y_9
                have x_10 := (hB.cell (p := ⟨g, 10, none⟩) zC4).trans y_10
                have x_11 := (hB.cell (p := ⟨g, 11, none⟩) zC4).trans y_11
                have HB' := Lib.hid hB
                clear hB y_0 y_1 y_2 y_3 y_4 y_5 y_6 y_7 y_8 y_9 y_10 y_11
                go_wp2_with fail
                refine (U.out _).mono ?_
                rintro e w5 ⟨rfl, hb5⟩
                go_wp2_with fail
                first
                  | exact ⟨⟨n + 1, by omega, by omega, rfl, rfl, HB'.out.trans (hb5.mono HB'.out.size)⟩, by simp [intOf]; omega⟩
                  | (refine ⟨?_, by simp [intOf]; omega⟩; (repeat apply Exists.intro); exact ⟨⟨n + 1, by omega, by omega, rfl, rfl, HB'.out.trans (hb5.mono HB'.out.size)⟩, rfl⟩)
              · have HB' := Lib.hid hB
                clear hB
                go_wp2_with fail
                first
                  | exact ⟨⟨m + 1, by omega, by omega, rfl, rfl, HB'.out⟩, by simp [intOf]; omega⟩
                  | (refine ⟨?_, by simp [intOf]; omega⟩; (repeat apply Exists.intro); exact ⟨⟨m + 1, by omega, by omega, rfl, rfl, HB'.out⟩, rfl⟩)
          · have HB' := Lib.hid hB
            clear hB
            go_wp2_with fail
            go_ret
            exact ⟨rfl, B4.trans (HB'.out.mono B4.size)⟩
      · go_wp2_with fail
        refine (U.out _).mono ?_
        rintro e w4 ⟨rfl, hb4⟩
        have hs4 := hb4.size
        replace y_0 := (hb4.cell (p := ⟨g, 0, none⟩) zC3).trans y_0
        replace y_1 := (hb4.cell (p := ⟨g, 1, none⟩) zC3).trans y_1
        replace y_2 := (hb4.cell (p := ⟨g, 2, none⟩) zC3).trans y_2
        replace y_3 := (hb4.cell (p := ⟨g, 3, none⟩) zC3).trans y_3
        replace y_4 := (hb4.cell (p := ⟨g, 4, none⟩) zC3).trans y_4
        replace y_5 := (hb4.cell (p := ⟨g, 5, none⟩) zC3).trans y_5
        replace y_6 := (hb4.cell (p := ⟨g, 6, none⟩) zC3).trans y_6
        replace y_7 := (hb4.cell (p := ⟨g, 7, none⟩) zC3).trans y_7
        replace y_8 := (hb4.cell (p := ⟨g, 8, none⟩) zC3).trans y_8
        replace y_9 := (hb4.cell (p := ⟨g, 9, none⟩) zC3).trans y_9
        replace y_10 := (hb4.cell (p := ⟨g, 10, none⟩) zC3).trans y_10
        replace y_11 := (hb4.cell (p := ⟨g, 11, none⟩) zC3).trans y_11
        have zC4 : g < w4.heap.size := by omega
        have B4 : Below w.heap.size w w4 := B3.trans (hb4.mono B3.size)
        clear B3 hb4 hs4 U zC3
        go_wp2_with fail
        go_loopw [6, 17, 18] (fun r i j wr => ∃ m : Int, 1 ≤ m ∧ m ≤ 13 ∧ r = .bool false ∧ i = .int .i64 m ∧ Below w4.heap.size w4 wr) (fun _ i _ _ => (13 - intOf i).toNat)
        case atStart => exact ⟨1, by omega, by omega, rfl, rfl, Below.refl _ _⟩
        case round =>
          obtain ⟨m, m0, m1, rfl, rfl, hB⟩ := hrel
          by_cases hm : m ≤ 12
          · obtain ⟨lm0', lm1⟩ := mul_bd (a := l) (b := m) (A := 19) (B := 12) (by omega) (by omega) (by omega) (by omega)
            have lm0 : 0 ≤ l * m := Int.mul_nonneg l0 (by omega)
            have HBo := Lib.hid hB
            clear lm0' hB
            go_wp2_with fail
            obtain ⟨wo, rfl⟩ : ∃ wo : World, wo = wr := ⟨_, rfl⟩
            go_loopw [6, 18] (fun r j wr => ∃ n : Int, 0 ≤ n ∧ n ≤ l * m + 1 ∧ r = .bool false ∧ j = .int .i64 n ∧ Below w4.heap.size w4 wr) (fun _ j _ => (l * m + 1 - intOf j).toNat)
            case atStart => exact ⟨0, by omega, by omega, rfl, rfl, HBo.out⟩
            case round =>
              obtain ⟨n, n0, n1, rfl, rfl, hB⟩ := hrel
              by_cases hn : n ≤ l * m
              · have HB' := Lib.hid hB
                clear hB
                go_wp2_with fail
                first
                  | exact ⟨⟨n + 1, by omega, by omega, rfl, rfl, HB'.out⟩, by simp [intOf]; omega⟩
                  | (refine ⟨?_, by simp [intOf]; omega⟩; (repeat apply Exists.intro); exact ⟨⟨n + 1, by omega, by omega, rfl, rfl, HB'.out⟩, rfl⟩)
              · have HB' := Lib.hid hB
                clear hB
                go_wp2_with fail
                first
                  | exact ⟨⟨m + 1, by omega, by omega, rfl, rfl, HB'.out⟩, by simp [intOf]; omega⟩
                  | (refine ⟨?_, by simp [intOf]; omega⟩; (repeat apply Exists.intro); exact ⟨⟨m + 1, by omega, by omega, rfl, rfl, HB'.out⟩, rfl⟩)
          · have HB' := Lib.hid hB
            clear hB
            go_wp2_with fail
            go_ret
            exact ⟨rfl, B4.trans (HB'.out.mono B4.size)⟩
    · have U := HT3b.out (by omega)
      clear HT3a HT3b
      have hNl : decide (l * D < N) = true := by simp; omega
      cases r
      · go_wp2_with fail
        refine (U.out _).mono ?_
        rintro e w4 ⟨rfl, hb4⟩
        have hs4 := hb4.size
        replace y_0 := (hb4.cell (p := ⟨g, 0, none⟩) zC3).trans y_0
        replace y_1 := (hb4.cell (p := ⟨g, 1, none⟩) zC3).trans y_1
        replace y_2 := (hb4.cell (p := ⟨g, 2, none⟩) zC3).trans y_2
        replace y_3 := (hb4.cell (p := ⟨g, 3, none⟩) zC3).trans y_3
        replace y_4 := (hb4.cell (p := ⟨g, 4, none⟩) zC3).trans y_4
        replace y_5 := (hb4.cell (p := ⟨g, 5, none⟩) zC3).trans y_5
        replace y_6 := (hb4.cell (p := ⟨g, 6, none⟩) zC3).trans y_6
        replace y_7 := (hb4.cell (p := ⟨g, 7, none⟩) zC3).trans y_7
        replace y_8 := (hb4.cell (p := ⟨g, 8, none⟩) zC3).trans y_8
        replace y_9 := (hb4.cell (p := ⟨g, 9, none⟩) zC3).trans y_9
        replace y_10 := (hb4.cell (p := ⟨g, 10, none⟩) zC3).trans y_10
        replace y_11 := (hb4.cell (p := ⟨g, 11, none⟩) zC3).trans y_11
        have zC4 : g < w4.heap.size := by omega
        have B4 : Below w.heap.size w w4 := B3.trans (hb4.mono B3.size)
        clear B3 hb4 hs4 U zC3
        go_wp2_with fail
        go_loopw [6, 17, 18] (fun r i j wr => ∃ m : Int, 1 ≤ m ∧ m ≤ 13 ∧ r = .bool false ∧ i = .int .i64 m ∧ Below w4.heap.size w4 wr) (fun _ i _ _ => (13 - intOf i).toNat)
        case atStart => exact ⟨1, by omega, by omega, rfl, rfl, Below.refl _ _⟩
        case round =>
          obtain ⟨m, m0, m1, rfl, rfl, hB⟩ := hrel
          by_cases hm : m ≤ 12
          · obtain ⟨lm0', lm1⟩ := mul_bd (a := l) (b := m) (A := 19) (B := 12) (by omega) (by omega) (by omega) (by omega)
            have lm0 : 0 ≤ l * m := Int.mul_nonneg l0 (by omega)
            have HBo := Lib.hid hB
            clear lm0' hB
            go_wp2_with fail
            obtain ⟨wo, rfl⟩ : ∃ wo : World, wo = wr := ⟨_, rfl⟩
            go_loopw [6, 18] (fun r j wr => ∃ n : Int, 0 ≤ n ∧ n ≤ l * m + 1 ∧ r = .bool false ∧ j = .int .i64 n ∧ Below w4.heap.size w4 wr) (fun _ j _ => (l * m + 1 - intOf j).toNat)
            case atStart => exact ⟨0, by omega, by omega, rfl, rfl, HBo.out⟩
            case round =>
              obtain ⟨n, n0, n1, rfl, rfl, hB⟩ := hrel
              by_cases hn : n ≤ l * m
              · have U := HT4.out (by simp) n m n0 hn m0 hm
                have x_0 := (hB.cell (p := ⟨g, 0, none⟩) zC4).trans y_0
                have x_1 := (hB.cell (p := ⟨g, 1, none⟩) zC4).trans y_1
                have x_2 := (hB.cell (p := ⟨g, 2, none⟩) zC4).trans y_2
                have x_3 := (hB.cell (p := ⟨g, 3, none⟩) zC4).trans y_3
                have x_4 := (hB.cell (p := ⟨g, 4, none⟩) zC4).trans y_4
                have x_5 := (hB.cell (p := ⟨g, 5, none⟩) zC4).trans y_5
                have x_6 := (hB.cell (p := ⟨g, 6, none⟩) zC4).trans y_6
                have x_7 := (hB.cell (p := ⟨g, 7, none⟩) zC4).trans y_7
                have x_8 := (hB.cell (p := ⟨g, 8, none⟩) zC4).trans y_8
                have x_9 := (hB.cell (p := ⟨g, 9, none⟩) zC4).trans y_9
                have x_10 := (hB.cell (p := ⟨g, 10, none⟩) zC4).trans y_10
                have x_11 := (hB.cell (p := ⟨g, 11, none⟩) zC4).trans y_11
                have HB' := Lib.hid hB
                clear hB y_0 y_1 y_2 y_3 y_4 y_5 y_6 y_7 y_8 y_9 y_10 y_11
                go_wp2_with fail
                refine (U.out _).mono ?_
                rintro e w5 ⟨rfl, hb5⟩
                go_wp2_with fail
                first
                  | exact ⟨⟨n + 1, by omega, by omega, rfl, rfl, HB'.out.trans (hb5.mono HB'.out.size)⟩, by simp [intOf]; omega⟩
                  | (refine ⟨?_, by simp [intOf]; omega⟩; (repeat apply Exists.intro); exact ⟨⟨n + 1, by omega, by omega, rfl, rfl, HB'.out.trans (hb5.mono HB'.out.size)⟩, rfl⟩)
              · have HB' := Lib.hid hB
                clear hB
                go_wp2_with fail
                first
                  | exact ⟨⟨m + 1, by omega, by omega, rfl, rfl, HB'.out⟩, by simp [intOf]; omega⟩
                  | (refine ⟨?_, by simp [intOf]; omega⟩; (repeat apply Exists.intro); exact ⟨⟨m + 1, by omega, by omega, rfl, rfl, HB'.out⟩, rfl⟩)
          · have HB' := Lib.hid hB
            clear hB
            go_wp2_with fail
            go_ret
            exact ⟨rfl, B4.trans (HB'.out.mono B4.size)⟩
      · go_wp2_with fail
        refine (U.out _).mono ?_
        rintro e w4 ⟨rfl, hb4⟩
        have hs4 := hb4.size
        replace y_0 := (hb4.cell (p := ⟨g, 0, none⟩) zC3).trans y_0
        replace y_1 := (hb4.cell (p := ⟨g, 1, none⟩) zC3).trans y_1
        replace y_2 := (hb4.cell (p := ⟨g, 2, none⟩) zC3).trans y_2
        replace y_3 := (hb4.cell (p := ⟨g, 3, none⟩) zC3).trans y_3
        replace y_4 := (hb4.cell (p := ⟨g, 4, none⟩) zC3).trans y_4
        replace y_5 := (hb4.cell (p := ⟨g, 5, none⟩) zC3).trans y_5
        replace y_6 := (hb4.cell (p := ⟨g, 6, none⟩) zC3).trans y_6
        replace y_7 := (hb4.cell (p := ⟨g, 7, none⟩) zC3).trans y_7
        replace y_8 := (hb4.cell (p := ⟨g, 8, none⟩) zC3).trans y_8
        replace y_9 := (hb4.cell (p := ⟨g, 9, none⟩) zC3).trans y_9
        replace y_10 := (hb4.cell (p := ⟨g, 10, none⟩) zC3).trans y_10
        replace y_11 := (hb4.cell (p := ⟨g, 11, none⟩) zC3).trans y_11
        have zC4 : g < w4.heap.size := by omega
        have B4 : Below w.heap.size w w4 := B3.trans (hb4.mono B3.size)
        clear B3 hb4 hs4 U zC3
        go_wp2_with fail
        go_loopw [6, 17, 18] (fun r i j wr => ∃ m : Int, 1 ≤ m ∧ m ≤ 13 ∧ r = .bool false ∧ i = .int .i64 m ∧ Below w4.heap.size w4 wr) (fun _ i _ _ => (13 - intOf i).toNat)
        case atStart => exact ⟨1, by omega, by omega, rfl, rfl, Below.refl _ _⟩
        case round =>
          obtain ⟨m, m0, m1, rfl, rfl, hB⟩ := hrel
          by_cases hm : m ≤ 12
          · obtain ⟨lm0', lm1⟩ := mul_bd (a := l) (b := m) (A := 19) (B := 12) (by omega) (by omega) (by omega) (by omega)
            have lm0 : 0 ≤ l * m := Int.mul_nonneg l0 (by omega)
            have HBo := Lib.hid hB
            clear lm0' hB
            go_wp2_with fail
            obtain ⟨wo, rfl⟩ : ∃ wo : World, wo = wr := ⟨_, rfl⟩
            go_loopw [6, 18] (fun r j wr => ∃ n : Int, 0 ≤ n ∧ n ≤ l * m + 1 ∧ r = .bool false ∧ j = .int .i64 n ∧ Below w4.heap.size w4 wr) (fun _ j _ => (l * m + 1 - intOf j).toNat)
            case atStart => exact ⟨0, by omega, by omega, rfl, rfl, HBo.out⟩
            case round =>
              obtain ⟨n, n0, n1, rfl, rfl, hB⟩ := hrel
              by_cases hn : n ≤ l * m
              · have HB' := Lib.hid hB
                clear hB
                go_wp2_with fail
                first
                  | exact ⟨⟨n + 1, by omega, by omega, rfl, rfl, HB'.out⟩, by simp [intOf]; omega⟩
                  | (refine ⟨?_, by simp [intOf]; omega⟩; (repeat apply Exists.intro); exact ⟨⟨n + 1, by omega, by omega, rfl, rfl, HB'.out⟩, rfl⟩)
              · have HB' := Lib.hid hB
                clear hB
                go_wp2_with fail
                first
                  | exact ⟨⟨m + 1, by omega, by omega, rfl, rfl, HB'.out⟩, by simp [intOf]; omega⟩
                  | (refine ⟨?_, by simp [intOf]; omega⟩; (repeat apply Exists.intro); exact ⟨⟨m + 1, by omega, by omega, rfl, rfl, HB'.out⟩, rfl⟩)
          · have HB' := Lib.hid hB
            clear hB
            go_wp2_with fail
            go_ret
            exact ⟨rfl, B4.trans (HB'.out.mono B4.size)⟩

  case first =>
    refine wp_region_held_drew (S := fun w' => w'.cell? ⟨w.heap.size, 0, none⟩ = some (.int .i64 p.x) ∧ w'.cell? ⟨w.heap.size, 1, none⟩ = some (.int .i64 p.y) ∧ w'.cell? ⟨w.heap.size, 2, none⟩ = some (.int .i64 p.z) ∧ w'.cell? ⟨w.heap.size, 3, none⟩ = some (.int .i64 q.x) ∧ w'.cell? ⟨w.heap.size, 4, none⟩ = some (.int .i64 q.y) ∧ w'.cell? ⟨w.heap.size, 5, none⟩ = some (.int .i64 q.z) ∧ w'.cell? ⟨w.heap.size, 6, none⟩ = some (.int .i64 v.x) ∧ w'.cell? ⟨w.heap.size, 7, none⟩ = some (.int .i64 v.y) ∧ w'.cell? ⟨w.heap.size, 8, none⟩ = some (.int .i64 v.z) ∧ w'.cell? ⟨w.heap.size, 9, none⟩ = some (.int .i64 u.x) ∧ w'.cell? ⟨w.heap.size, 10, none⟩ = some (.int .i64 u.y) ∧ w'.cell? ⟨w.heap.size, 11, none⟩ = some (.int .i64 u.z)) (by kernel_rfl) (by exact ⟨k_0, k_1, k_2, k_3, k_4, k_5, k_6, k_7, k_8, k_9, k_10, k_11⟩) (fun hS => ?_)
    refine wpAnyH_take (i := 0) (v := ?v0) rfl (by kernel_rfl) (by kernel_rfl) (by kernel_rfl) (fun _ _ _ h => h) (Or.inl ⟨by rfl, ?h0⟩) hS ?r0
    case h0 => (intro w1 hSw; (try dsimp only at hSw); go_simp; try with_reducible rfl)
    case r0 =>
    (try simp only [Act.put, List.getElem_toArray, List.getElem_cons_zero, List.setIfInBounds_toArray, List.set_cons_zero, List.set_cons_succ])
    refine wpAnyH_take (i := 1) (v := ?v1) rfl (by kernel_rfl) (by kernel_rfl) (by kernel_rfl) (fun _ _ _ h => h) (Or.inl ⟨by rfl, ?h1⟩) hS ?r1
    case h1 => (intro w1 hSw; (try dsimp only at hSw); go_simp; try with_reducible rfl)
    case r1 =>
    (try simp only [Act.put, List.getElem_toArray, List.getElem_cons_zero, List.getElem_cons_succ, List.setIfInBounds_toArray, List.set_cons_zero, List.set_cons_succ])
    refine wpAnyH_take (i := 2) (v := ?v2) rfl (by kernel_rfl) (by kernel_rfl) (by kernel_rfl) (fun _ _ _ h => h) (Or.inl ⟨by rfl, ?h2⟩) hS ?r2
    case h2 => (intro w1 hSw; (try dsimp only at hSw); go_simp; try with_reducible rfl)
    case r2 =>
    (try simp only [Act.put, List.getElem_toArray, List.getElem_cons_zero, List.getElem_cons_succ, List.setIfInBounds_toArray, List.set_cons_zero, List.set_cons_succ])
    refine wpAnyH_take (i := 3) (v := ?v3) rfl (by kernel_rfl) (by kernel_rfl) (by kernel_rfl) (fun _ _ _ h => h) (Or.inl ⟨by rfl, ?h3⟩) hS ?r3
    case h3 => (intro w1 hSw; (try dsimp only at hSw); go_simp; try with_reducible rfl)
    case r3 =>
    (try simp only [Act.put, List.getElem_toArray, List.getElem_cons_zero, List.getElem_cons_succ, List.setIfInBounds_toArray, List.set_cons_zero, List.set_cons_succ])
    refine wpAnyH_takeC (i := 4) rfl (by kernel_rfl) (by kernel_rfl) (by kernel_rfl) (fun _ _ _ h => h) ⟨by rfl, _, _, fun w1 _ => ⟨by go_simp; with_reducible rfl, ((clo22 _ w1).mono fun e w2 h => ⟨h.1, h.2.symm⟩)⟩⟩ hS ?r4
    case r4 =>
    (try simp only [Act.put, List.getElem_toArray, List.getElem_cons_zero, List.getElem_cons_succ, List.setIfInBounds_toArray, List.set_cons_zero, List.set_cons_succ])
    refine wpAnyH_take (i := 5) (v := ?v5) rfl (by kernel_rfl) (by kernel_rfl) (by kernel_rfl) (fun _ _ _ h => h) (Or.inl ⟨by rfl, ?h5⟩) hS ?r5
    case h5 => (intro w1 hSw; (try dsimp only at hSw); go_simp; try with_reducible rfl)
    case r5 =>
    (try simp only [Act.put, List.getElem_toArray, List.getElem_cons_zero, List.getElem_cons_succ, List.setIfInBounds_toArray, List.set_cons_zero, List.set_cons_succ])
    refine wpAnyH_take (i := 6) (v := ?v6) rfl (by kernel_rfl) (by kernel_rfl) (by kernel_rfl) (fun _ _ _ h => h) (Or.inl ⟨by rfl, ?h6⟩) hS ?r6
    case h6 => (intro w1 hSw; (try dsimp only at hSw); go_simp; try with_reducible rfl)
    case r6 =>
    (try simp only [Act.put, List.getElem_toArray, List.getElem_cons_zero, List.getElem_cons_succ, List.setIfInBounds_toArray, List.set_cons_zero, List.set_cons_succ])
    refine wpAnyH_take (i := 7) (v := ?v7) rfl (by kernel_rfl) (by kernel_rfl) (by kernel_rfl) (fun _ _ _ h => h) (Or.inl ⟨by rfl, ?h7⟩) hS ?r7
    case h7 => (intro w1 hSw; (try dsimp only at hSw); go_simp; try with_reducible rfl)
    case r7 =>
    (try simp only [Act.put, List.getElem_toArray, List.getElem_cons_zero, List.getElem_cons_succ, List.setIfInBounds_toArray, List.set_cons_zero, List.set_cons_succ])
    refine wpAnyH_take (i := 8) (v := ?v8) rfl (by kernel_rfl) (by kernel_rfl) (by kernel_rfl) (fun _ _ _ h => h) (Or.inl ⟨by rfl, ?h8⟩) hS ?r8
    case h8 => (intro w1 hSw; (try dsimp only at hSw); go_simp; try with_reducible rfl)
    case r8 =>
    (try simp only [Act.put, List.getElem_toArray, List.getElem_cons_zero, List.getElem_cons_succ, List.setIfInBounds_toArray, List.set_cons_zero, List.set_cons_succ])
    refine wpAnyH_takeC (i := 9) rfl (by kernel_rfl) (by kernel_rfl) (by kernel_rfl) (fun _ _ _ h => h) ⟨by rfl, _, _, fun w1 _ => ⟨by go_simp; with_reducible rfl, ((clo22 _ w1).mono fun e w2 h => ⟨h.1, h.2.symm⟩)⟩⟩ hS ?r9
    case r9 =>
    (try simp only [Act.put, List.getElem_toArray, List.getElem_cons_zero, List.getElem_cons_succ, List.setIfInBounds_toArray, List.set_cons_zero, List.set_cons_succ])
    refine wpAnyH_take (i := 10) (v := ?v10) rfl (by kernel_rfl) (by kernel_rfl) (by kernel_rfl) (fun _ _ _ h => h) (Or.inl ⟨by rfl, ?h10⟩) hS ?r10
    case h10 => (intro w1 hSw; (try dsimp only at hSw); go_simp; try with_reducible rfl)
    case r10 =>
    (try simp only [Act.put, List.getElem_toArray, List.getElem_cons_zero, List.getElem_cons_succ, List.setIfInBounds_toArray, List.set_cons_zero, List.set_cons_succ])
    refine wpAnyH_take (i := 11) (v := ?v11) rfl (by kernel_rfl) (by kernel_rfl) (by kernel_rfl) (fun _ _ _ h => h) (Or.inl ⟨by rfl, ?h11⟩) hS ?r11
    case h11 => (intro w1 hSw; (try dsimp only at hSw); go_simp; try with_reducible rfl)
    case r11 =>
    (try simp only [Act.put, List.getElem_toArray, List.getElem_cons_zero, List.getElem_cons_succ, List.setIfInBounds_toArray, List.set_cons_zero, List.set_cons_succ])
    refine wpAnyH_take (i := 12) (v := ?v12) rfl (by kernel_rfl) (by kernel_rfl) (by kernel_rfl) (fun _ _ _ h => h) (Or.inl ⟨by rfl, ?h12⟩) hS ?r12
    case h12 => (intro w1 hSw; (try dsimp only at hSw); go_simp; try with_reducible rfl)
    case r12 =>
    (try simp only [Act.put, List.getElem_toArray, List.getElem_cons_zero, List.getElem_cons_succ, List.setIfInBounds_toArray, List.set_cons_zero, List.set_cons_succ])
    refine wpAnyH_take (i := 13) (v := ?v13) rfl (by kernel_rfl) (by kernel_rfl) (by kernel_rfl) (fun _ _ _ h => h) (Or.inl ⟨by rfl, ?h13⟩) hS ?r13
    case h13 => (intro w1 hSw; (try dsimp only at hSw); go_simp; try with_reducible rfl)
    case r13 =>
    (try simp only [Act.put, List.getElem_toArray, List.getElem_cons_zero, List.getElem_cons_succ, List.setIfInBounds_toArray, List.set_cons_zero, List.set_cons_succ])
    refine wpAnyH_take (i := 14) (v := ?v14) rfl (by kernel_rfl) (by kernel_rfl) (by kernel_rfl) (fun _ _ _ h => h) (Or.inl ⟨by rfl, ?h14⟩) hS ?r14
    case h14 => (intro w1 hSw; (try dsimp only at hSw); go_simp; try with_reducible rfl)
    case r14 =>
    (try simp only [Act.put, List.getElem_toArray, List.getElem_cons_zero, List.getElem_cons_succ, List.setIfInBounds_toArray, List.set_cons_zero, List.set_cons_succ])
    refine wpAnyH_take (i := 15) (v := ?v15) rfl (by kernel_rfl) (by kernel_rfl) (by kernel_rfl) (fun _ _ _ h => h) (Or.inl ⟨by rfl, ?h15⟩) hS ?r15
    case h15 => (intro w1 hSw; (try dsimp only at hSw); go_simp; try with_reducible rfl)
    case r15 =>
    (try simp only [Act.put, List.getElem_toArray, List.getElem_cons_zero, List.getElem_cons_succ, List.setIfInBounds_toArray, List.set_cons_zero, List.set_cons_succ])
    refine wpAnyH_take (i := 16) (v := ?v16) rfl (by kernel_rfl) (by kernel_rfl) (by kernel_rfl) (fun _ _ _ h => h) (Or.inl ⟨by rfl, ?h16⟩) hS ?r16
    case h16 => (intro w1 hSw; (try dsimp only at hSw); go_simp; try with_reducible rfl)
    case r16 =>
    (try simp only [Act.put, List.getElem_toArray, List.getElem_cons_zero, List.getElem_cons_succ, List.setIfInBounds_toArray, List.set_cons_zero, List.set_cons_succ])
    refine wpAnyH_take (i := 17) (v := ?v17) rfl (by kernel_rfl) (by kernel_rfl) (by kernel_rfl) (fun _ _ _ h => h) (Or.inl ⟨by rfl, ?h17⟩) hS ?r17
    case h17 => (intro w1 hSw; (try dsimp only at hSw); go_simp; try with_reducible rfl)
    case r17 =>
    (try simp only [Act.put, List.getElem_toArray, List.getElem_cons_zero, List.getElem_cons_succ, List.setIfInBounds_toArray, List.set_cons_zero, List.set_cons_succ])
    refine wpAnyH_take (i := 18) (v := ?v18) rfl (by kernel_rfl) (by kernel_rfl) (by kernel_rfl) (fun _ _ _ h => h) (Or.inl ⟨by rfl, ?h18⟩) hS ?r18
    case h18 => (intro w1 hSw; (try dsimp only at hSw); go_simp; try with_reducible rfl)
    case r18 =>
    (try simp only [Act.put, List.getElem_toArray, List.getElem_cons_zero, List.getElem_cons_succ, List.setIfInBounds_toArray, List.set_cons_zero, List.set_cons_succ])
    refine wpAnyH_takeC (i := 19) rfl (by kernel_rfl) (by kernel_rfl) (by kernel_rfl) (fun _ _ _ h => h) ⟨by rfl, _, _, fun w1 _ => ⟨by go_simp; with_reducible rfl, ((clo22 _ w1).mono fun e w2 h => ⟨h.1, h.2.symm⟩)⟩⟩ hS ?r19
    case r19 =>
    (try simp only [Act.put, List.getElem_toArray, List.getElem_cons_zero, List.getElem_cons_succ, List.setIfInBounds_toArray, List.set_cons_zero, List.set_cons_succ])
    refine wpAnyH_take (i := 20) (v := ?v20) rfl (by kernel_rfl) (by kernel_rfl) (by kernel_rfl) (fun _ _ _ h => h) (Or.inl ⟨by rfl, ?h20⟩) hS ?r20
    case h20 => (intro w1 hSw; (try dsimp only at hSw); go_simp; try with_reducible rfl)
    case r20 =>
    (try simp only [Act.put, List.getElem_toArray, List.getElem_cons_zero, List.getElem_cons_succ, List.setIfInBounds_toArray, List.set_cons_zero, List.set_cons_succ])
    refine wpAnyH_take (i := 21) (v := ?v21) rfl (by kernel_rfl) (by kernel_rfl) (by kernel_rfl) (fun _ _ _ h => h) (Or.inl ⟨by rfl, ?h21⟩) hS ?r21
    case h21 => (intro w1 hSw; (try dsimp only at hSw); go_simp; try with_reducible rfl)
    case r21 =>
    (try simp only [Act.put, List.getElem_toArray, List.getElem_cons_zero, List.getElem_cons_succ, List.setIfInBounds_toArray, List.set_cons_zero, List.set_cons_succ])
    refine wpAnyH_take (i := 22) (v := ?v22) rfl (by kernel_rfl) (by kernel_rfl) (by kernel_rfl) (fun _ _ _ h => h) (Or.inl ⟨by rfl, ?h22⟩) hS ?r22
    case h22 => (intro w1 hSw; (try dsimp only at hSw); go_simp; try with_reducible rfl)
    case r22 =>
    (try simp only [Act.put, List.getElem_toArray, List.getElem_cons_zero, List.getElem_cons_succ, List.setIfInBounds_toArray, List.set_cons_zero, List.set_cons_succ])
    refine wpAnyH_take (i := 23) (v := ?v23) rfl (by kernel_rfl) (by kernel_rfl) (by kernel_rfl) (fun _ _ _ h => h) (Or.inl ⟨by rfl, ?h23⟩) hS ?r23
    case h23 => (intro w1 hSw; (try dsimp only at hSw); go_simp; try with_reducible rfl)
    case r23 =>
    (try simp only [Act.put, List.getElem_toArray, List.getElem_cons_zero, List.getElem_cons_succ, List.setIfInBounds_toArray, List.set_cons_zero, List.set_cons_succ])
    refine wpAnyH_takeC (i := 24) rfl (by kernel_rfl) (by kernel_rfl) (by kernel_rfl) (fun _ _ _ h => h) ⟨by rfl, _, _, fun w1 _ => ⟨by go_simp; with_reducible rfl, ((clo22 _ w1).mono fun e w2 h => ⟨h.1, h.2.symm⟩)⟩⟩ hS ?r24
    case r24 =>
    (try simp only [Act.put, List.getElem_toArray, List.getElem_cons_zero, List.getElem_cons_succ, List.setIfInBounds_toArray, List.set_cons_zero, List.set_cons_succ])
    refine wpAnyH_take (i := 25) (v := ?v25) rfl (by kernel_rfl) (by kernel_rfl) (by kernel_rfl) (fun _ _ _ h => h) (Or.inl ⟨by rfl, ?h25⟩) hS ?r25
    case h25 => (intro w1 hSw; (try dsimp only at hSw); go_simp; try with_reducible rfl)
    case r25 =>
    (try simp only [Act.put, List.getElem_toArray, List.getElem_cons_zero, List.getElem_cons_succ, List.setIfInBounds_toArray, List.set_cons_zero, List.set_cons_succ])
    refine wpAnyH_take (i := 26) (v := ?v26) rfl (by kernel_rfl) (by kernel_rfl) (by kernel_rfl) (fun _ _ _ h => h) (Or.inl ⟨by rfl, ?h26⟩) hS ?r26
    case h26 => (intro w1 hSw; (try dsimp only at hSw); go_simp; try with_reducible rfl)
    case r26 =>
    (try simp only [Act.put, List.getElem_toArray, List.getElem_cons_zero, List.getElem_cons_succ, List.setIfInBounds_toArray, List.set_cons_zero, List.set_cons_succ])
    refine wpAnyH_take (i := 27) (v := ?v27) rfl (by kernel_rfl) (by kernel_rfl) (by kernel_rfl) (fun _ _ _ h => h) (Or.inl ⟨by rfl, ?h27⟩) hS ?r27
    case h27 => (intro w1 hSw; (try dsimp only at hSw); go_simp; try with_reducible rfl)
    case r27 =>
    (try simp only [Act.put, List.getElem_toArray, List.getElem_cons_zero, List.getElem_cons_succ, List.setIfInBounds_toArray, List.set_cons_zero, List.set_cons_succ])
    refine wpAnyH_take (i := 28) (v := ?v28) rfl (by kernel_rfl) (by kernel_rfl) (by kernel_rfl) (fun _ _ _ h => h) (Or.inl ⟨by rfl, ?h28⟩) hS ?r28
    case h28 => (intro w1 hSw; (try dsimp only at hSw); go_simp; try with_reducible rfl)
    case r28 =>
    (try simp only [Act.put, List.getElem_toArray, List.getElem_cons_zero, List.getElem_cons_succ, List.setIfInBounds_toArray, List.set_cons_zero, List.set_cons_succ])
    refine wpAnyH_take (i := 29) (v := ?v29) rfl (by kernel_rfl) (by kernel_rfl) (by kernel_rfl) (fun _ _ _ h => h) (Or.inl ⟨by rfl, ?h29⟩) hS ?r29
    case h29 => (intro w1 hSw; (try dsimp only at hSw); go_simp; try with_reducible rfl)
    case r29 =>
    (try simp only [Act.put, List.getElem_toArray, List.getElem_cons_zero, List.getElem_cons_succ, List.setIfInBounds_toArray, List.set_cons_zero, List.set_cons_succ])
    refine wpAnyH_take (i := 30) (v := ?v30) rfl (by kernel_rfl) (by kernel_rfl) (by kernel_rfl) (fun _ _ _ h => h) (Or.inl ⟨by rfl, ?h30⟩) hS ?r30
    case h30 => (intro w1 hSw; (try dsimp only at hSw); go_simp; try with_reducible rfl)
    case r30 =>
    (try simp only [Act.put, List.getElem_toArray, List.getElem_cons_zero, List.getElem_cons_succ, List.setIfInBounds_toArray, List.set_cons_zero, List.set_cons_succ])
    refine wpAnyH_take (i := 31) (v := ?v31) rfl (by kernel_rfl) (by kernel_rfl) (by kernel_rfl) (fun _ _ _ h => h) (Or.inl ⟨by rfl, ?h31⟩) hS ?r31
    case h31 => (intro w1 hSw; (try dsimp only at hSw); go_simp; try with_reducible rfl)
    case r31 =>
    (try simp only [Act.put, List.getElem_toArray, List.getElem_cons_zero, List.getElem_cons_succ, List.setIfInBounds_toArray, List.set_cons_zero, List.set_cons_succ])
    refine wpAnyH_take (i := 32) (v := ?v32) rfl (by kernel_rfl) (by kernel_rfl) (by kernel_rfl) (fun _ _ _ h => h) (Or.inl ⟨by rfl, ?h32⟩) hS ?r32
    case h32 => (intro w1 hSw; (try dsimp only at hSw); go_simp; try with_reducible rfl)
    case r32 =>
    (try simp only [Act.put, List.getElem_toArray, List.getElem_cons_zero, List.getElem_cons_succ, List.setIfInBounds_toArray, List.set_cons_zero, List.set_cons_succ])
    refine wpAnyH_take (i := 33) (v := ?v33) rfl (by kernel_rfl) (by kernel_rfl) (by kernel_rfl) (fun _ _ _ h => h) (Or.inl ⟨by rfl, ?h33⟩) hS ?r33
    case h33 => (intro w1 hSw; (try dsimp only at hSw); go_simp; try with_reducible rfl)
    case r33 =>
    (try simp only [Act.put, List.getElem_toArray, List.getElem_cons_zero, List.getElem_cons_succ, List.setIfInBounds_toArray, List.set_cons_zero, List.set_cons_succ])
    refine wpAnyH_takeC (i := 34) rfl (by kernel_rfl) (by kernel_rfl) (by kernel_rfl) (fun _ _ _ h => h) ⟨by rfl, _, _, fun w1 _ => ⟨by go_simp; with_reducible rfl, ((clo23 _ w1).mono fun e w2 h => ⟨h.1, h.2.symm⟩)⟩⟩ hS ?r34
    case r34 =>
    (try simp only [Act.put, List.getElem_toArray, List.getElem_cons_zero, List.getElem_cons_succ, List.setIfInBounds_toArray, List.set_cons_zero, List.set_cons_succ])
    refine wpAnyH_take (i := 35) (v := ?v35) rfl (by kernel_rfl) (by kernel_rfl) (by kernel_rfl) (fun _ _ _ h => h) (Or.inl ⟨by rfl, ?h35⟩) hS ?r35
    case h35 => (intro w1 hSw; (try dsimp only at hSw); go_simp; try with_reducible rfl)
    case r35 =>
    (try simp only [Act.put, List.getElem_toArray, List.getElem_cons_zero, List.getElem_cons_succ, List.setIfInBounds_toArray, List.set_cons_zero, List.set_cons_succ])
    refine wpAnyH_take (i := 36) (v := ?v36) rfl (by kernel_rfl) (by kernel_rfl) (by kernel_rfl) (fun _ _ _ h => h) (Or.inl ⟨by rfl, ?h36⟩) hS ?r36
    case h36 => (intro w1 hSw; (try dsimp only at hSw); go_simp; try with_reducible rfl)
    case r36 =>
    (try simp only [Act.put, List.getElem_toArray, List.getElem_cons_zero, List.getElem_cons_succ, List.setIfInBounds_toArray, List.set_cons_zero, List.set_cons_succ])
    refine wpAnyH_take (i := 37) (v := ?v37) rfl (by kernel_rfl) (by kernel_rfl) (by kernel_rfl) (fun _ _ _ h => h) (Or.inl ⟨by rfl, ?h37⟩) hS ?r37
    case h37 => (intro w1 hSw; (try dsimp only at hSw); go_simp; try with_reducible rfl)
    case r37 =>
    (try simp only [Act.put, List.getElem_toArray, List.getElem_cons_zero, List.getElem_cons_succ, List.setIfInBounds_toArray, List.set_cons_zero, List.set_cons_succ])
    refine wpAnyH_take (i := 38) (v := ?v38) rfl (by kernel_rfl) (by kernel_rfl) (by kernel_rfl) (fun _ _ _ h => h) (Or.inl ⟨by rfl, ?h38⟩) hS ?r38
    case h38 => (intro w1 hSw; (try dsimp only at hSw); go_simp; try with_reducible rfl)
    case r38 =>
    (try simp only [Act.put, List.getElem_toArray, List.getElem_cons_zero, List.getElem_cons_succ, List.setIfInBounds_toArray, List.set_cons_zero, List.set_cons_succ])
    refine wpAnyH_takeC (i := 39) rfl (by kernel_rfl) (by kernel_rfl) (by kernel_rfl) (fun _ _ _ h => h) ⟨by rfl, _, _, fun w1 _ => ⟨by go_simp; with_reducible rfl, ((clo23 _ w1).mono fun e w2 h => ⟨h.1, h.2.symm⟩)⟩⟩ hS ?r39
    case r39 =>
    (try simp only [Act.put, List.getElem_toArray, List.getElem_cons_zero, List.getElem_cons_succ, List.setIfInBounds_toArray, List.set_cons_zero, List.set_cons_succ])
    refine wpAnyH_take (i := 40) (v := ?v40) rfl (by kernel_rfl) (by kernel_rfl) (by kernel_rfl) (fun _ _ _ h => h) (Or.inl ⟨by rfl, ?h40⟩) hS ?r40
    case h40 => (intro w1 hSw; (try dsimp only at hSw); go_simp; try with_reducible rfl)
    case r40 =>
    (try simp only [Act.put, List.getElem_toArray, List.getElem_cons_zero, List.getElem_cons_succ, List.setIfInBounds_toArray, List.set_cons_zero, List.set_cons_succ])
    refine wpAnyH_take (i := 41) (v := ?v41) rfl (by kernel_rfl) (by kernel_rfl) (by kernel_rfl) (fun _ _ _ h => h) (Or.inl ⟨by rfl, ?h41⟩) hS ?r41
    case h41 => (intro w1 hSw; (try dsimp only at hSw); go_simp; try with_reducible rfl)
    case r41 =>
    (try simp only [Act.put, List.getElem_toArray, List.getElem_cons_zero, List.getElem_cons_succ, List.setIfInBounds_toArray, List.set_cons_zero, List.set_cons_succ])
    refine wpAnyH_take (i := 42) (v := ?v42) rfl (by kernel_rfl) (by kernel_rfl) (by kernel_rfl) (fun _ _ _ h => h) (Or.inl ⟨by rfl, ?h42⟩) hS ?r42
    case h42 => (intro w1 hSw; (try dsimp only at hSw); go_simp; try with_reducible rfl)
    case r42 =>
    (try simp only [Act.put, List.getElem_toArray, List.getElem_cons_zero, List.getElem_cons_succ, List.setIfInBounds_toArray, List.set_cons_zero, List.set_cons_succ])
    refine wpAnyH_take (i := 43) (v := ?v43) rfl (by kernel_rfl) (by kernel_rfl) (by kernel_rfl) (fun _ _ _ h => h) (Or.inl ⟨by rfl, ?h43⟩) hS ?r43
    case h43 => (intro w1 hSw; (try dsimp only at hSw); go_simp; try with_reducible rfl)
    case r43 =>
    (try simp only [Act.put, List.getElem_toArray, List.getElem_cons_zero, List.getElem_cons_succ, List.setIfInBounds_toArray, List.set_cons_zero, List.set_cons_succ])
    refine wpAnyH_take (i := 44) (v := ?v44) rfl (by kernel_rfl) (by kernel_rfl) (by kernel_rfl) (fun _ _ _ h => h) (Or.inl ⟨by rfl, ?h44⟩) hS ?r44
    case h44 => (intro w1 hSw; (try dsimp only at hSw); go_simp; try with_reducible rfl)
    case r44 =>
    (try simp only [Act.put, List.getElem_toArray, List.getElem_cons_zero, List.getElem_cons_succ, List.setIfInBounds_toArray, List.set_cons_zero, List.set_cons_succ])
    refine wpAnyH_take (i := 45) (v := ?v45) rfl (by kernel_rfl) (by kernel_rfl) (by kernel_rfl) (fun _ _ _ h => h) (Or.inl ⟨by rfl, ?h45⟩) hS ?r45
    case h45 => (intro w1 hSw; (try dsimp only at hSw); go_simp; try with_reducible rfl)
    case r45 =>
    (try simp only [Act.put, List.getElem_toArray, List.getElem_cons_zero, List.getElem_cons_succ, List.setIfInBounds_toArray, List.set_cons_zero, List.set_cons_succ])
    refine wpAnyH_take (i := 46) (v := ?v46) rfl (by kernel_rfl) (by kernel_rfl) (by kernel_rfl) (fun _ _ _ h => h) (Or.inl ⟨by rfl, ?h46⟩) hS ?r46
    case h46 => (intro w1 hSw; (try dsimp only at hSw); go_simp; try with_reducible rfl)
    case r46 =>
    (try simp only [Act.put, List.getElem_toArray, List.getElem_cons_zero, List.getElem_cons_succ, List.setIfInBounds_toArray, List.set_cons_zero, List.set_cons_succ])
    refine wpAnyH_take (i := 47) (v := ?v47) rfl (by kernel_rfl) (by kernel_rfl) (by kernel_rfl) (fun _ _ _ h => h) (Or.inl ⟨by rfl, ?h47⟩) hS ?r47
    case h47 => (intro w1 hSw; (try dsimp only at hSw); go_simp; try with_reducible rfl)
    case r47 =>
    (try simp only [Act.put, List.getElem_toArray, List.getElem_cons_zero, List.getElem_cons_succ, List.setIfInBounds_toArray, List.set_cons_zero, List.set_cons_succ])
    refine wpAnyH_take (i := 48) (v := ?v48) rfl (by kernel_rfl) (by kernel_rfl) (by kernel_rfl) (fun _ _ _ h => h) (Or.inl ⟨by rfl, ?h48⟩) hS ?r48
    case h48 => (intro w1 hSw; (try dsimp only at hSw); go_simp; try with_reducible rfl)
    case r48 =>
    (try simp only [Act.put, List.getElem_toArray, List.getElem_cons_zero, List.getElem_cons_succ, List.setIfInBounds_toArray, List.set_cons_zero, List.set_cons_succ])
    refine wpAnyH_takeC (i := 49) rfl (by kernel_rfl) (by kernel_rfl) (by kernel_rfl) (fun _ _ _ h => h) ⟨by rfl, _, _, fun w1 _ => ⟨by go_simp; with_reducible rfl, ((clo23 _ w1).mono fun e w2 h => ⟨h.1, h.2.symm⟩)⟩⟩ hS ?r49
    case r49 =>
    (try simp only [Act.put, List.getElem_toArray, List.getElem_cons_zero, List.getElem_cons_succ, List.setIfInBounds_toArray, List.set_cons_zero, List.set_cons_succ])
    refine wpAnyH_take (i := 50) (v := ?v50) rfl (by kernel_rfl) (by kernel_rfl) (by kernel_rfl) (fun _ _ _ h => h) (Or.inl ⟨by rfl, ?h50⟩) hS ?r50
    case h50 => (intro w1 hSw; (try dsimp only at hSw); go_simp; try with_reducible rfl)
    case r50 =>
    (try simp only [Act.put, List.getElem_toArray, List.getElem_cons_zero, List.getElem_cons_succ, List.setIfInBounds_toArray, List.set_cons_zero, List.set_cons_succ])
    refine wpAnyH_take (i := 51) (v := ?v51) rfl (by kernel_rfl) (by kernel_rfl) (by kernel_rfl) (fun _ _ _ h => h) (Or.inl ⟨by rfl, ?h51⟩) hS ?r51
    case h51 => (intro w1 hSw; (try dsimp only at hSw); go_simp; try with_reducible rfl)
    case r51 =>
    (try simp only [Act.put, List.getElem_toArray, List.getElem_cons_zero, List.getElem_cons_succ, List.setIfInBounds_toArray, List.set_cons_zero, List.set_cons_succ])
    refine wpAnyH_take (i := 52) (v := ?v52) rfl (by kernel_rfl) (by kernel_rfl) (by kernel_rfl) (fun _ _ _ h => h) (Or.inl ⟨by rfl, ?h52⟩) hS ?r52
    case h52 => (intro w1 hSw; (try dsimp only at hSw); go_simp; try with_reducible rfl)
    case r52 =>
    (try simp only [Act.put, List.getElem_toArray, List.getElem_cons_zero, List.getElem_cons_succ, List.setIfInBounds_toArray, List.set_cons_zero, List.set_cons_succ])
    refine wpAnyH_take (i := 53) (v := ?v53) rfl (by kernel_rfl) (by kernel_rfl) (by kernel_rfl) (fun _ _ _ h => h) (Or.inl ⟨by rfl, ?h53⟩) hS ?r53
    case h53 => (intro w1 hSw; (try dsimp only at hSw); go_simp; try with_reducible rfl)
    case r53 =>
    (try simp only [Act.put, List.getElem_toArray, List.getElem_cons_zero, List.getElem_cons_succ, List.setIfInBounds_toArray, List.set_cons_zero, List.set_cons_succ])
    refine wpAnyH_takeC (i := 54) rfl (by kernel_rfl) (by kernel_rfl) (by kernel_rfl) (fun _ _ _ h => h) ⟨by rfl, _, _, fun w1 _ => ⟨by go_simp; with_reducible rfl, ((clo23 _ w1).mono fun e w2 h => ⟨h.1, h.2.symm⟩)⟩⟩ hS ?r54
    case r54 =>
    (try simp only [Act.put, List.getElem_toArray, List.getElem_cons_zero, List.getElem_cons_succ, List.setIfInBounds_toArray, List.set_cons_zero, List.set_cons_succ])
    refine wpAnyH_take (i := 55) (v := ?v55) rfl (by kernel_rfl) (by kernel_rfl) (by kernel_rfl) (fun _ _ _ h => h) (Or.inl ⟨by rfl, ?h55⟩) hS ?r55
    case h55 => (intro w1 hSw; (try dsimp only at hSw); go_simp; try with_reducible rfl)
    case r55 =>
    (try simp only [Act.put, List.getElem_toArray, List.getElem_cons_zero, List.getElem_cons_succ, List.setIfInBounds_toArray, List.set_cons_zero, List.set_cons_succ])
    refine wpAnyH_take (i := 56) (v := ?v56) rfl (by kernel_rfl) (by kernel_rfl) (by kernel_rfl) (fun _ _ _ h => h) (Or.inl ⟨by rfl, ?h56⟩) hS ?r56
    case h56 => (intro w1 hSw; (try dsimp only at hSw); go_simp; try with_reducible rfl)
    case r56 =>
    (try simp only [Act.put, List.getElem_toArray, List.getElem_cons_zero, List.getElem_cons_succ, List.setIfInBounds_toArray, List.set_cons_zero, List.set_cons_succ])
    refine wpAnyH_take (i := 57) (v := ?v57) rfl (by kernel_rfl) (by kernel_rfl) (by kernel_rfl) (fun _ _ _ h => h) (Or.inl ⟨by rfl, ?h57⟩) hS ?r57
    case h57 => (intro w1 hSw; (try dsimp only at hSw); go_simp; try with_reducible rfl)
    case r57 =>
    (try simp only [Act.put, List.getElem_toArray, List.getElem_cons_zero, List.getElem_cons_succ, List.setIfInBounds_toArray, List.set_cons_zero, List.set_cons_succ])
    refine wpAnyH_take (i := 58) (v := ?v58) rfl (by kernel_rfl) (by kernel_rfl) (by kernel_rfl) (fun _ _ _ h => h) (Or.inl ⟨by rfl, ?h58⟩) hS ?r58
    case h58 => (intro w1 hSw; (try dsimp only at hSw); go_simp; try with_reducible rfl)
    case r58 =>
    (try simp only [Act.put, List.getElem_toArray, List.getElem_cons_zero, List.getElem_cons_succ, List.setIfInBounds_toArray, List.set_cons_zero, List.set_cons_succ])
    refine wpAnyH_take (i := 59) (v := ?v59) rfl (by kernel_rfl) (by kernel_rfl) (by kernel_rfl) (fun _ _ _ h => h) (Or.inl ⟨by rfl, ?h59⟩) hS ?r59
    case h59 => (intro w1 hSw; (try dsimp only at hSw); go_simp; try with_reducible rfl)
    case r59 =>
    (try simp only [Act.put, List.getElem_toArray, List.getElem_cons_zero, List.getElem_cons_succ, List.setIfInBounds_toArray, List.set_cons_zero, List.set_cons_succ])
    refine wpAnyH_take (i := 60) (v := ?v60) rfl (by kernel_rfl) (by kernel_rfl) (by kernel_rfl) (fun _ _ _ h => h) (Or.inl ⟨by rfl, ?h60⟩) hS ?r60
    case h60 => (intro w1 hSw; (try dsimp only at hSw); go_simp; try with_reducible rfl)
    case r60 =>
    (try simp only [Act.put, List.getElem_toArray, List.getElem_cons_zero, List.getElem_cons_succ, List.setIfInBounds_toArray, List.set_cons_zero, List.set_cons_succ])
    refine wpAnyH_ready (rs := [61]) (by kernel_rfl) (by simp) (AllReadyH.cons rfl (fun K hK => ?_) AllReadyH.nil)
    go_simp
    refine hK.out _ _ ?_ (fun hS61 => ?_)
    · exact ⟨(World.cell?_alloc_old _ _ _ hne).trans k_0, (World.cell?_alloc_old _ _ _ hne).trans k_1, (World.cell?_alloc_old _ _ _ hne).trans k_2, (World.cell?_alloc_old _ _ _ hne).trans k_3, (World.cell?_alloc_old _ _ _ hne).trans k_4, (World.cell?_alloc_old _ _ _ hne).trans k_5, (World.cell?_alloc_old _ _ _ hne).trans k_6, (World.cell?_alloc_old _ _ _ hne).trans k_7, (World.cell?_alloc_old _ _ _ hne).trans k_8, (World.cell?_alloc_old _ _ _ hne).trans k_9, (World.cell?_alloc_old _ _ _ hne).trans k_10, (World.cell?_alloc_old _ _ _ hne).trans k_11⟩
    clear hK K
    (try simp only [Act.put, List.getElem_toArray, List.getElem_cons_zero, List.getElem_cons_succ, List.setIfInBounds_toArray, List.set_cons_zero, List.set_cons_succ])
    refine wpAnyH_ready (rs := [62]) (by kernel_rfl) (by simp) (AllReadyH.cons rfl (fun K hK => ?_) AllReadyH.nil)
    go_simp
    refine hK.out _ _ ?_ (fun hS62 => ?_)
    · exact ⟨(World.cell?_alloc_old _ _ _ hne).trans k_0, (World.cell?_alloc_old _ _ _ hne).trans k_1, (World.cell?_alloc_old _ _ _ hne).trans k_2, (World.cell?_alloc_old _ _ _ hne).trans k_3, (World.cell?_alloc_old _ _ _ hne).trans k_4, (World.cell?_alloc_old _ _ _ hne).trans k_5, (World.cell?_alloc_old _ _ _ hne).trans k_6, (World.cell?_alloc_old _ _ _ hne).trans k_7, (World.cell?_alloc_old _ _ _ hne).trans k_8, (World.cell?_alloc_old _ _ _ hne).trans k_9, (World.cell?_alloc_old _ _ _ hne).trans k_10, (World.cell?_alloc_old _ _ _ hne).trans k_11⟩
    clear hK K
    (try simp only [Act.put, List.getElem_toArray, List.getElem_cons_zero, List.getElem_cons_succ, List.setIfInBounds_toArray, List.set_cons_zero, List.set_cons_succ])
    refine wpAnyH_done (by kernel_rfl) ?_ _
    go_wp2_with fail
    go_meet
    exact ⟨rfl, ((Below.refl _ _).alloc (Nat.le_refl _) _).drew, by simp, by go_simp, by go_simp, by go_simp, by go_simp, by go_simp, by go_simp, by go_simp, by go_simp, by go_simp, by go_simp, by go_simp, by go_simp⟩
theorem exact5 (p q v u : V3) (d t : Int) (wd : (Lit.int .u8 d).wf = true) (wt : (Lit.int .u8 t).wf = true) (w : World) : Calls Try.prog 6 #[.agg #[.int .i64 p.x, .int .i64 p.y, .int .i64 p.z, .int .i64 q.x, .int .i64 q.y, .int .i64 q.z, .int .i64 v.x, .int .i64 v.y, .int .i64 v.z, .int .i64 u.x, .int .i64 u.y, .int .i64 u.z], .int .u8 d, .int .u8 t] w fun e w' => e = .returned (.bool true) ∧ Below w.heap.size w w' := by
  have hd : 0 ≤ d ∧ d ≤ 255 := by simpa [Lit.wf, IntKind.min, IntKind.max, IntKind.signed, IntKind.bits] using wd
  have ht : 0 ≤ t ∧ t ≤ 255 := by simpa [Lit.wf, IntKind.min, IntKind.max, IntKind.signed, IntKind.bits] using wt
  have bd := tmod_bd
  obtain ⟨P, hP⟩ : ∃ P : V3, P = ⟨p.x.tmod 8, p.y.tmod 8, p.z.tmod 300⟩ := ⟨_, rfl⟩
  obtain ⟨Q, hQ⟩ : ∃ Q : V3, Q = ⟨q.x.tmod 8, q.y.tmod 8, q.z.tmod 300⟩ := ⟨_, rfl⟩
  obtain ⟨V, hV⟩ : ∃ V : V3, V = ⟨v.x.tmod 3, v.y.tmod 3, v.z.tmod 10⟩ := ⟨_, rfl⟩
  obtain ⟨U, hU⟩ : ∃ U : V3, U = ⟨u.x.tmod 3, u.y.tmod 3, u.z.tmod 10⟩ := ⟨_, rfl⟩
  have sP : smP P := by rw [hP]; exact ⟨(bd p.x 8 (by omega)).1, (bd p.x 8 (by omega)).2, (bd p.y 8 (by omega)).1, (bd p.y 8 (by omega)).2, (bd p.z 300 (by omega)).1, (bd p.z 300 (by omega)).2⟩
  have sQ : smP Q := by rw [hQ]; exact ⟨(bd q.x 8 (by omega)).1, (bd q.x 8 (by omega)).2, (bd q.y 8 (by omega)).1, (bd q.y 8 (by omega)).2, (bd q.z 300 (by omega)).1, (bd q.z 300 (by omega)).2⟩
  have sV : smV V := by rw [hV]; exact ⟨(bd v.x 3 (by omega)).1, (bd v.x 3 (by omega)).2, (bd v.y 3 (by omega)).1, (bd v.y 3 (by omega)).2, (bd v.z 10 (by omega)).1, (bd v.z 10 (by omega)).2⟩
  have sU : smV U := by rw [hU]; exact ⟨(bd u.x 3 (by omega)).1, (bd u.x 3 (by omega)).2, (bd u.y 3 (by omega)).1, (bd u.y 3 (by omega)).2, (bd u.z 10 (by omega)).1, (bd u.z 10 (by omega)).2⟩
  have hG := ok_small sP sQ sV sU
  have hD := small_D sP sQ sV sU
  obtain ⟨n0, m0⟩ := co_pos P Q V U hG
  obtain ⟨n1, -⟩ := co_top P Q V U hG
  have hW : okW (d % 20) (t % 20) := by unfold okW; omega
  have T1 := fun w => within16 P Q V U (d % 20) (t % 20) w
  have T2 := fun w => closest12 P Q V U w
  have hE : erG P Q V U = 0 := by unfold erG; rw [if_pos hG]
  rw [wiE_ok.2 ⟨hG, hW⟩] at T1
  rw [hE] at T2
  refine exactG p q v u P Q V U d t _ _ _ _ (wiB P Q V U (d % 20) (t % 20)) w (by rw [hP]) (by rw [hP]) (by rw [hP]) (by rw [hQ]) (by rw [hQ]) (by rw [hQ]) (by rw [hV]) (by rw [hV]) (by rw [hV]) (by rw [hU]) (by rw [hU]) (by rw [hU]) hd ht rfl rfl ⟨m0, hD⟩ ⟨n0, n1⟩ (Lib.hid T1) (Lib.hid T2) (fun hN => Lib.hid fun w => ?_) (fun hN => Lib.hid fun w => ?_) (fun hr n m g0 g1 g2 g3 => Lib.hid fun w => ?_)
  · rw [exact_near P Q V U _ _ hG hW hN]
    obtain ⟨-, x2⟩ := mul_bd (a := t % 20) (b := coD P Q V U) (A := 19) (B := 300000) (by omega) (by omega) (by omega) (by omega)
    exact less24 P Q V U _ _ _ w sP sQ sV sU n0 (by omega) m0 hD (by omega) (by omega) (near_dot sP sQ sV sU)
  · rw [exact_end P Q V U _ _ hG hW hN]
    exact less24 P Q V U _ _ _ w sP sQ sV sU (by omega) (by omega) (by omega) (by omega) (by omega) (by omega) (cyc_dot sP sQ sV sU _ _ (by omega) (by omega) (by omega) (by omega))
  · have hl : leB P Q V U n m (d % 20) = false := by
      cases h : leB P Q V U n m (d % 20)
      · rfl
      · rw [exact_any P Q V U _ _ n m hG hW g0 g2 g1 h] at hr; cases hr
    obtain ⟨-, x2⟩ := mul_bd (a := t % 20) (b := m) (A := 19) (B := 12) (by omega) (by omega) (by omega) (by omega)
    have H := less24 P Q V U n m (d % 20) w sP sQ sV sU g0 (by omega) g2 (by omega) (by omega) (by omega) (cyc_dot sP sQ sV sU n m g0 (by omega) g2 g3)
    rw [hl] at H
    exact H

namespace geometryExactRow
open Go.ChangeShapes Go.WideShapes Go.ChangeAt Go.RowKit
open Go.ChangeMaps (open_string shut_string)
set_option linter.unusedVariables false
theorem own : ownKnob Try.prog.godebug = none := by kernel_rfl
theorem laidOut : laidOutB Try.prog = true := by kernel_rfl
set_option maxRecDepth 100000 in
theorem lifted (os : Os) (started : os.Started) (H : Type) (enc : TypeId × Value → H) :
    ReturnsInHanded {} Try.checked os 6 .any (Rows.geometryExactSpec.pre6 enc Try.prog Try.f6 Rows.geometryExactRow.domain false) (Rows.geometryExactSpec.post enc Try.prog Try.f6 false true false false) := by
  refine returnsInHanded_of_change (C := Try.checked) own started (by kernel_rfl) Try.func6
    (ChangeSpec.witness6 (enc := enc) (C := Try.checked) false ⟨#[], #[.agg #[.int .i64 0, .int .i64 0, .int .i64 0, .int .i64 0, .int .i64 0, .int .i64 0, .int .i64 0, .int .i64 0, .int .i64 0, .int .i64 0, .int .i64 0, .int .i64 0], .int .u8 0, .int .u8 0], []⟩ 8 (by kernel_rfl) (by kernel_rfl) (by kernel_rfl) (by kernel_rfl)) ?_
  intro W base args ds gs before hval0 hW hcnd _hsz
  have hval : ∀ (j : Nat) t v, Try.f6.params[j]? = some t → args[j]? = some v → Value.okWide Try.prog W .any base t v := hval0
  have hW' := hW
  obtain ⟨p, q, hA0, hV, rfl, hfz, hnd⟩ := hW
  have hA : DataW.TrodAll enc Try.prog W 0 (fun _ => true) true Try.f6.params.toList args.toList ds p := hA0
  rw [Try.params6] at hA hval
  obtain ⟨v0, vs0, d0, ds0, p0, q0, hargs, rfl, rfl, h0, r0⟩ := trodAll_cons hA
  obtain ⟨v1, vs1, d1, ds1, p1, q1, rfl, rfl, rfl, h1, r1⟩ := trodAll_cons r0
  obtain ⟨v2, vs2, d2, ds2, p2, q2, rfl, rfl, rfl, h2, r2⟩ := trodAll_cons r1
  obtain ⟨rfl, rfl, rfl⟩ := trodAll_nil r2
  obtain rfl : args = #[v0, v1, v2] := by cases args; simp_all
  obtain ⟨rfl, rfl⟩ := trodVars_none hV
  have k0 := h0
  have lt0 : ∀ x ∈ p0, x.block < W.heap.size := by obtain ⟨m, hm⟩ := k0; exact DataW.trod_lt m _ _ _ hm
  have k1 := h1
  have lt1 : ∀ x ∈ p1, x.block < W.heap.size := by obtain ⟨m, hm⟩ := k1; exact DataW.trod_lt m _ _ _ hm
  have k2 := h2
  have lt2 : ∀ x ∈ p2, x.block < W.heap.size := by obtain ⟨m, hm⟩ := k2; exact DataW.trod_lt m _ _ _ hm
  obtain ⟨cs0, rfl, i0⟩ := open_leaves 9 [.i64, .i64, .i64, .i64, .i64, .i64, .i64, .i64, .i64, .i64, .i64, .i64] (by kernel_rfl) (by kernel_rfl) (hval 0 26 v0 rfl rfl) h0
  obtain ⟨a0_0, c0_0, rfl, w0_0, i0_0⟩ := i0
  obtain ⟨a0_1, c0_1, rfl, w0_1, i0_1⟩ := i0_0
  obtain ⟨a0_2, c0_2, rfl, w0_2, i0_2⟩ := i0_1
  obtain ⟨a0_3, c0_3, rfl, w0_3, i0_3⟩ := i0_2
  obtain ⟨a0_4, c0_4, rfl, w0_4, i0_4⟩ := i0_3
  obtain ⟨a0_5, c0_5, rfl, w0_5, i0_5⟩ := i0_4
  obtain ⟨a0_6, c0_6, rfl, w0_6, i0_6⟩ := i0_5
  obtain ⟨a0_7, c0_7, rfl, w0_7, i0_7⟩ := i0_6
  obtain ⟨a0_8, c0_8, rfl, w0_8, i0_8⟩ := i0_7
  obtain ⟨a0_9, c0_9, rfl, w0_9, i0_9⟩ := i0_8
  obtain ⟨a0_10, c0_10, rfl, w0_10, i0_10⟩ := i0_9
  obtain ⟨a0_11, c0_11, rfl, w0_11, i0_11⟩ := i0_10
  obtain rfl : c0_11 = [] := i0_11
  obtain ⟨a1, rfl, -, -, w1⟩ := open_int Try.underlying5 (hval 1 5 v1 rfl rfl) h1
  obtain ⟨a2, rfl, -, -, w2⟩ := open_int Try.underlying5 (hval 2 5 v2 rfl rfl) h2
  clear hA0 hval0
  refine (exact5 ⟨a0_0, a0_1, a0_2⟩ ⟨a0_3, a0_4, a0_5⟩ ⟨a0_6, a0_7, a0_8⟩ ⟨a0_9, a0_10, a0_11⟩ a1 a2 w1 w2 W).mono fun e W' ⟨he, bel⟩ => ?_
  subst he
  exact ⟨_, rfl, _, _, _, [], _, [], hW', trodAll_mk1 (shut_bool Try.underlying4 _), (trodAll_cons_mk (Below.trod laidOut (by kernel_rfl) (of_decide_eq_true (by kernel_rfl)) k0 bel lt0) (trodAll_cons_mk (Below.trod laidOut (by kernel_rfl) (of_decide_eq_true (by kernel_rfl)) k1 bel lt1) (trodAll_cons_mk (Below.trod laidOut (by kernel_rfl) (of_decide_eq_true (by kernel_rfl)) k2 bel lt2) trodAll_mk0))), rfl, bel.frame _, fun h => by cases h⟩

theorem over : Rows.geometryExactRow.holds Try.pinned (OpenSpec.ofChange Rows.geometryExactSpec) :=
  OpenClaim.holds_of_wide 6 Try.f6 rfl rfl rfl rfl rfl rfl rfl ⟨rfl, rfl, rfl, rfl, rfl⟩ rfl rfl rfl rfl rfl (by kernel_rfl) Try.func6 (by kernel_rfl)
    (of_decide_eq_true (by kernel_rfl)) (by unfold Func.isWrapper; first | (rw [if_pos (by decide +kernel)]; kernel_rfl) | (rw [if_neg (by decide +kernel)]; exact ⟨rfl, rfl⟩))
    (fun os started H enc _ => lifted os started H enc)
theorem proved : Rows.GeometryExactSaid := over
end geometryExactRow
end Go.Proofs.Ytdflamblbhpngaa
