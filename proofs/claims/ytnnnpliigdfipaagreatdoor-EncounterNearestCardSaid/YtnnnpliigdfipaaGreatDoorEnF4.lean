/- EncounterNearest: the walk. -/
import Derived.Test.YtnnnpliigdfipaaGreatDoorRows
import Derived.WalkKit
import Derived.WalkLawsBesides
import Derived.WalkSpells
import Derived.ProofKit
import Derived.Below
import Derived.Outline
import Derived.Lib.Hide
import Derived.Deep.RegionWith
import Derived.Deep.RegionHeld3
import Derived.Deep.DrawnRows
import Derived.StillTailTactics
import Derived.BigQuiet
import Derived.Deep.QuietTactic
import Derived.Deep.LoopGhost
import Derived.IntWalk
import Derived.Lib.MinMax
import Derived.Test.YtnnnpliigdfipaaGreatDoorEnDB
import Derived.Test.YtnnnpliigdfipaaGreatDoorEnE
import Derived.Test.YtnnnpliigdfipaaGreatDoorEnG1
import Derived.Test.YtnnnpliigdfipaaGreatDoorEnF1
namespace Go.Proofs.YtnnnpliigdfipaaGreatDoor
open Go.RowKit
attribute [local go_sem ↓] Go.wp_at_zero Go.wp_at_succ
attribute [local go_sem] wrap_lit
theorem where_at {x : En} {i : Int} {n : Nat} (h0 : numE x [i] = 0) (hn : (n : Int) ≤ x.cy) : wheR x i n = (posAt (crAt x i) n, 0) := by
  have hp : (pathR x i).2 = 0 := by unfold pathR; rw [if_neg (fun h => h h0)]
  unfold wheR
  rw [if_neg (fun h => h hp), if_neg (by unfold inB; simp; omega)]
  simp
theorem numE_one {x : En} {i k : Int} (h : numE x [i, k] = 0) : numE x [i] = 0 ∧ numE x [k] = 0 := by
  obtain ⟨h0, h1⟩ := numE_0 h
  exact ⟨numE_ok x [i] h0 (fun j hj => by obtain rfl : j = 0 := (by simpa using hj); exact h1 0 (by simp)), numE_ok x [k] h0 (fun j hj => by obtain rfl : j = 0 := (by simpa using hj); exact h1 1 (by simp))⟩
theorem okS_at {x : En} {i k : Int} (h : numE x [i, k] = 0) (n : Nat) (hn : (n : Int) ≤ x.cy) : erS (posAt (crAt x i) n) (posAt (crAt x k) n) = 0 := by
  obtain ⟨hc, ⟨hi0, hi1⟩, ⟨hk0, hk1⟩⟩ := numE_2 h
  obtain ⟨⟨g1, g1'⟩, g2, g3, g4, g5⟩ := chE_ok hc
  have ha := allE_ok x.cs [] g5
  have at_ : ∀ j : Int, 0 ≤ j → j < x.cs.length → okP (posAt (crAt x j) n) := fun j h0 h1 => by
    obtain ⟨m, rfl⟩ := Int.eq_ofNat_of_zero_le h0
    have hm : m < x.cs.length := by omega
    rw [crAt_n (List.getElem?_eq_getElem hm)]
    exact posAt_ok (ha _ (List.getElem_mem hm)).2 g1 g1' n hn
  unfold erS
  rw [if_pos (show okS _ _ from ⟨at_ i hi0 hi1, at_ k hk0 hk1⟩)]
theorem where_ok (x : En) (A : Option Addr) (cap : Nat) (i : Int) (n : Nat) (w : World) (hc : InCr w w.heap.size A x.cs) (hcap : x.cs.length ≤ cap) (h0 : numE x [i] = 0) (hn : (n : Int) ≤ x.cy) : Calls Tryz.prog 26 #[.agg #[.int .i64 x.cy, .int .i64 x.gr, .slice A x.cs.length cap], .int .i64 i, .int .i64 n] w fun e w' => e = .returned (.tuple #[.agg #[.int .i64 (posAt (crAt x i) n).x, .int .i64 (posAt (crAt x i) n).y, .int .i64 (posAt (crAt x i) n).z], .int .i64 0]) ∧ Below w.heap.size w w' := by
  have h := where26 x A cap i n w hc hcap
  rw [where_at h0 hn] at h
  exact h
theorem s2_ok (p q : V3) (w : World) (h : erS p q = 0) : Calls Tryz.prog 54 #[.agg #[.int .i64 p.x, .int .i64 p.y, .int .i64 p.z], .agg #[.int .i64 q.x, .int .i64 q.y, .int .i64 q.z]] w fun e w' => e = .returned (.tuple #[.int .i64 (s2G p q), .int .i64 0]) ∧ Below w.heap.size w w' := by
  have g := slant25 p q w
  rw [h] at g
  exact g
theorem sl_ok (p q : V3) (w : World) (h : erS p q = 0) : Calls Tryz.prog 55 #[.agg #[.int .i64 p.x, .int .i64 p.y, .int .i64 p.z], .agg #[.int .i64 q.x, .int .i64 q.y, .int .i64 q.z]] w fun e w' => e = .returned (.tuple #[.int .i64 (slG p q), .int .i64 0]) ∧ Below w.heap.size w w' := by
  have g := slant27 p q w
  rw [h] at g
  exact g
set_option maxRecDepth 100000 in
set_option maxHeartbeats 40000000 in
theorem nearest9 (x : En) (A : Option Addr) (cap : Nat) (i k : Int) (w : World) (E : Env 8 w) (h8 : 8 ≤ w.heap.size) (hc : InCr w w.heap.size A x.cs) (hcap : x.cs.length ≤ cap) (hN : x.cs.length ≤ maxLen) :
    Calls Tryz.prog 9 #[.agg #[.int .i64 x.cy, .int .i64 x.gr, .slice A x.cs.length cap], .int .i64 i, .int .i64 k] w fun e w' => e = .returned (.bool true) ∧ Below w.heap.size w w' := by
  have Ew := Lib.hid E
  have Iw := Lib.hid hc
  clear E hc
  have LG := Lib.hid (fun w' hc => long10 x A cap w' hc hN)
  clear hN
  go_enter Tryz.func9, Tryz.ntmps9
  go_wp2_with fail
  obtain ⟨w0, hw0⟩ : ∃ w0, w0 = w.alloc (.cells #[.int .i64 x.cy, .int .i64 x.gr, .slice A x.cs.length cap] 24) := ⟨_, rfl⟩
  have bw0 : Below w.heap.size w w0 := by rw [hw0]; exact (Below.refl _ _).alloc (Nat.le_refl _) _
  have nw0 : w0.heap[w.heap.size]? = some (.cells #[.int .i64 x.cy, .int .i64 x.gr, .slice A x.cs.length cap] 24 (0, 0)) := by rw [hw0]; exact heap_alloc_new _ _
  have Bw0 : Hid (Below w.heap.size w w0) := Lib.hid ((bw0))
  have mw0 : w.heap.size ≤ w0.heap.size := (bw0).size
  have Ew0 := Lib.hid (Ew.out.below ((bw0).mono (by omega)))
  have Iw0 := Lib.hid ((Iw.out.below (bw0)).mono (bw0).size)
  clear Ew Iw
  rw [← hw0]
  clear hw0 bw0
  have Xw0 := Lib.hid nw0
  clear nw0
  have Xc0w0 : w0.cell? ⟨w.heap.size, 0, none⟩ = some (.int .i64 x.cy) := by simp [World.cell?, Xw0.out]
  have Xc1w0 : w0.cell? ⟨w.heap.size, 1, none⟩ = some (.int .i64 x.gr) := by simp [World.cell?, Xw0.out]
  have Xc2w0 : w0.cell? ⟨w.heap.size, 2, none⟩ = some (.slice A x.cs.length cap) := by simp [World.cell?, Xw0.out]
  refine (LG.out w0 Iw0.out).mono ?_
  rintro e w1 ⟨rfl, hw1⟩
  have Bw1 := Lib.hid (Bw0.out.trans ((hw1).mono mw0))
  have mw1 : w.heap.size ≤ w1.heap.size := Nat.le_trans mw0 (hw1).size
  have Ew1 := Lib.hid (Ew0.out.below ((hw1).mono (by omega)))
  have Iw1 := Lib.hid ((Iw0.out.below (hw1)).mono (hw1).size)
  have Xw1 := Lib.hid (((hw1).block _ (heap_lt Xw0.out)).trans Xw0.out)
  clear Bw0 mw0 Ew0 Iw0 Xw0 Xc0w0 Xc1w0 Xc2w0
  have Xc0w1 : w1.cell? ⟨w.heap.size, 0, none⟩ = some (.int .i64 x.cy) := by simp [World.cell?, Xw1.out]
  have Xc1w1 : w1.cell? ⟨w.heap.size, 1, none⟩ = some (.int .i64 x.gr) := by simp [World.cell?, Xw1.out]
  have Xc2w1 : w1.cell? ⟨w.heap.size, 2, none⟩ = some (.slice A x.cs.length cap) := by simp [World.cell?, Xw1.out]
  clear hw1
  by_cases hlg : lgB x = true
  · go_wp2_with fail
    refine (awake11 8 w1 Ew1.out (by omega)).mono ?_
    rintro e v1 ⟨rfl, hv1⟩
    have Bv1 := Lib.hid (Bw1.out.trans ((hv1).mono mw1))
    have mv1 : w.heap.size ≤ v1.heap.size := Nat.le_trans mw1 (hv1).size
    have Ev1 := Lib.hid (Ew1.out.below ((hv1).mono (by omega)))
    have Iv1 := Lib.hid ((Iw1.out.below (hv1)).mono (hv1).size)
    have Xv1 := Lib.hid (((hv1).block _ (heap_lt Xw1.out)).trans Xw1.out)
    clear Bw1 mw1 Ew1 Iw1 Xw1 Xc0w1 Xc1w1 Xc2w1
    have Xc0v1 : v1.cell? ⟨w.heap.size, 0, none⟩ = some (.int .i64 x.cy) := by simp [World.cell?, Xv1.out]
    have Xc1v1 : v1.cell? ⟨w.heap.size, 1, none⟩ = some (.int .i64 x.gr) := by simp [World.cell?, Xv1.out]
    have Xc2v1 : v1.cell? ⟨w.heap.size, 2, none⟩ = some (.slice A x.cs.length cap) := by simp [World.cell?, Xv1.out]
    clear hv1
    go_wp2_with fail
    go_ret
    exact ⟨rfl, Bv1.out⟩
  have hlg' : lgB x = false := by cases h : lgB x <;> simp_all
  clear hlg
  go_wp2_with fail
  refine (awake11 8 w1 Ew1.out (by omega)).mono ?_
  rintro e w2 ⟨rfl, hw2⟩
  have Bw2 := Lib.hid (Bw1.out.trans ((hw2).mono mw1))
  have mw2 : w.heap.size ≤ w2.heap.size := Nat.le_trans mw1 (hw2).size
  have Ew2 := Lib.hid (Ew1.out.below ((hw2).mono (by omega)))
  have Iw2 := Lib.hid ((Iw1.out.below (hw2)).mono (hw2).size)
  have Xw2 := Lib.hid (((hw2).block _ (heap_lt Xw1.out)).trans Xw1.out)
  clear Bw1 mw1 Ew1 Iw1 Xw1 Xc0w1 Xc1w1 Xc2w1
  have Xc0w2 : w2.cell? ⟨w.heap.size, 0, none⟩ = some (.int .i64 x.cy) := by simp [World.cell?, Xw2.out]
  have Xc1w2 : w2.cell? ⟨w.heap.size, 1, none⟩ = some (.int .i64 x.gr) := by simp [World.cell?, Xw2.out]
  have Xc2w2 : w2.cell? ⟨w.heap.size, 2, none⟩ = some (.slice A x.cs.length cap) := by simp [World.cell?, Xw2.out]
  clear hw2
  go_wp2_with fail
  obtain ⟨at_, sl, er, hnr⟩ : ∃ at_ sl er, nearR x i k = ((at_, sl), er) := ⟨_, _, _, rfl⟩
  have HNR := Lib.hid hnr
  have N1 := Lib.hid (near28 x A cap i k w2 Iw2.out hcap)
  have N2 := Lib.hid (fun w' hc => near28 x A cap k i w' hc hcap)
  rw [nearR_comm x k i] at N2
  rw [hnr] at N1 N2
  clear hnr
  refine (N1.out).mono ?_
  rintro e w3 ⟨rfl, hw3⟩
  have Bw3 := Lib.hid (Bw2.out.trans ((hw3).mono mw2))
  have mw3 : w.heap.size ≤ w3.heap.size := Nat.le_trans mw2 (hw3).size
  have Ew3 := Lib.hid (Ew2.out.below ((hw3).mono (by omega)))
  have Iw3 := Lib.hid ((Iw2.out.below (hw3)).mono (hw3).size)
  have Xw3 := Lib.hid (((hw3).block _ (heap_lt Xw2.out)).trans Xw2.out)
  clear Bw2 mw2 Ew2 Iw2 Xw2 Xc0w2 Xc1w2 Xc2w2
  have Xc0w3 : w3.cell? ⟨w.heap.size, 0, none⟩ = some (.int .i64 x.cy) := by simp [World.cell?, Xw3.out]
  have Xc1w3 : w3.cell? ⟨w.heap.size, 1, none⟩ = some (.int .i64 x.gr) := by simp [World.cell?, Xw3.out]
  have Xc2w3 : w3.cell? ⟨w.heap.size, 2, none⟩ = some (.slice A x.cs.length cap) := by simp [World.cell?, Xw3.out]
  clear hw3
  go_wp2_with fail
  refine (N2.out w3 Iw3.out).mono ?_
  rintro e w4 ⟨rfl, hw4⟩
  have Bw4 := Lib.hid (Bw3.out.trans ((hw4).mono mw3))
  have mw4 : w.heap.size ≤ w4.heap.size := Nat.le_trans mw3 (hw4).size
  have Ew4 := Lib.hid (Ew3.out.below ((hw4).mono (by omega)))
  have Iw4 := Lib.hid ((Iw3.out.below (hw4)).mono (hw4).size)
  have Xw4 := Lib.hid (((hw4).block _ (heap_lt Xw3.out)).trans Xw3.out)
  clear Bw3 mw3 Ew3 Iw3 Xw3 Xc0w3 Xc1w3 Xc2w3
  have Xc0w4 : w4.cell? ⟨w.heap.size, 0, none⟩ = some (.int .i64 x.cy) := by simp [World.cell?, Xw4.out]
  have Xc1w4 : w4.cell? ⟨w.heap.size, 1, none⟩ = some (.int .i64 x.gr) := by simp [World.cell?, Xw4.out]
  have Xc2w4 : w4.cell? ⟨w.heap.size, 2, none⟩ = some (.slice A x.cs.length cap) := by simp [World.cell?, Xw4.out]
  clear hw4
  by_cases her : er = 0
  · subst her
    obtain ⟨hnum, hik, m, rfl, hmc, hsl, hmin⟩ := near_ok HNR.out
    obtain ⟨hn1, hn2⟩ := numE_one hnum
    have HSL := Lib.hid hsl
    have HMIN := Lib.hid hmin
    have HN1 := Lib.hid hn1
    have HN2 := Lib.hid hn2
    have HNUM := Lib.hid hnum
    have hcyb := (chE_ok (numE_0 hnum).1).1
    clear hsl hmin hn1 hn2 hnum hik
    have hmc0 : (0 : Int) ≤ (m : Int) := by omega
    obtain ⟨dm, hdm⟩ : ∃ dm, dm = dN (crAt x i) (crAt x k) m := ⟨_, rfl⟩
    have HDM := Lib.hid hdm
    clear hdm
    go_wp2_with fail
    have sX := heap_lt Xw4.out
    have H2 : (2 : Int) = ((2 : Nat) : Int) := rfl
    clear H2
    go_loopw [13, 14] (fun v u wr => ∃ (t : Nat) (least : Int), t ≤ 2 ∧ u = .int .i64 t ∧ v = .int .i64 least ∧ (0 < t → least = dm) ∧ Below w4.heap.size w4 wr) (fun _ u _ => 2 - (intOf u).toNat)
    case atStart => exact ⟨0, 0, by omega, rfl, rfl, fun h => by omega, Below.refl _ _⟩
    case round =>
      obtain ⟨t, least, ht, rfl, rfl, hls, hb⟩ := hrel
      have HLS := Lib.hid hls
      have HB := Lib.hid hb
      clear hls hb
      by_cases hlt : t < 2
      · have hltI : (t : Int) < 2 := by omega
        go_wp2_with fail
        have htn : t = 0 ∨ t = 1 := by omega
        have HT := Lib.hid htn
        clear htn
        have hsl : Hid ((0 : Int) ≤ x.cy) := Lib.hid (by omega)
        clear Xc0w4 Xc1w4 Xc2w4
        go_loopw [13, 15] (fun v u wr => ∃ (n : Nat) (least : Int), (n : Int) ≤ x.cy + 1 ∧ u = .int .i64 n ∧ v = .int .i64 least ∧ (0 < t ∨ m < n → least = dm) ∧ Below w4.heap.size w4 wr) (fun _ u _ => x.cy.toNat + 1 - (intOf u).toNat)
        case atStart => exact ⟨0, _, by omega, rfl, rfl, fun h => HLS.out (by omega), HB.out⟩
        case round =>
          obtain ⟨n, ls, hn, rfl, rfl, hls, hb⟩ := hrel
          have HL := Lib.hid hls
          have Bwr := Lib.hid hb
          have mwr := hb.size
          have Iwr := Lib.hid ((Iw4.out.below hb).mono hb.size)
          have Xwr := Lib.hid ((hb.block _ sX).trans Xw4.out)
          clear hls hb
          have Xc0wr : wr.cell? ⟨w.heap.size, 0, none⟩ = some (.int .i64 x.cy) := by simp [World.cell?, Xwr.out]
          have Xc1wr : wr.cell? ⟨w.heap.size, 1, none⟩ = some (.int .i64 x.gr) := by simp [World.cell?, Xwr.out]
          have Xc2wr : wr.cell? ⟨w.heap.size, 2, none⟩ = some (.slice A x.cs.length cap) := by simp [World.cell?, Xwr.out]
          by_cases hln : (n : Int) ≤ x.cy
          · have HLN := Lib.hid hln
            have ER := Lib.hid (okS_at HNUM.out n hln)
            have WI := Lib.hid (fun (w' : World) (hw : InCr w' w'.heap.size A x.cs) => where_ok x A cap i n w' hw hcap HN1.out HLN.out)
            have WK := Lib.hid (fun (w' : World) (hw : InCr w' w'.heap.size A x.cs) => where_ok x A cap k n w' hw hcap HN2.out HLN.out)
            have DN : Hid (s2G (posAt (crAt x i) n) (posAt (crAt x k) n) = dN (crAt x i) (crAt x k) n) := Lib.hid rfl
            have SM : Hid (n = m → slG (posAt (crAt x i) n) (posAt (crAt x k) n) = sl) := Lib.hid (fun h => by rw [h]; exact HSL.out.symm)
            obtain ⟨P, hP⟩ : ∃ P, P = posAt (crAt x i) n := ⟨_, rfl⟩
            obtain ⟨Q, hQ⟩ : ∃ Q, Q = posAt (crAt x k) n := ⟨_, rfl⟩
            rw [← hP] at ER WI DN SM
            rw [← hQ] at ER WK DN SM
            clear hP hQ
            have S2 := Lib.hid (fun w' => s2_ok P Q w' ER.out)
            have SL := Lib.hid (fun w' => sl_ok P Q w' ER.out)
            clear ER
            go_wp2_with fail
            refine (WI.out wr Iwr.out).mono ?_
            rintro e y1 ⟨rfl, hy1⟩
            have By1 := Lib.hid (Bwr.out.trans ((hy1).mono mwr))
            have my1 : w4.heap.size ≤ y1.heap.size := Nat.le_trans mwr (hy1).size
            have Iy1 := Lib.hid ((Iwr.out.below (hy1)).mono (hy1).size)
            have Xy1 := Lib.hid (((hy1).block _ (heap_lt Xwr.out)).trans Xwr.out)
            clear Bwr mwr Iwr Xwr Xc0wr Xc1wr Xc2wr
            have Xc0y1 : y1.cell? ⟨w.heap.size, 0, none⟩ = some (.int .i64 x.cy) := by simp [World.cell?, Xy1.out]
            have Xc1y1 : y1.cell? ⟨w.heap.size, 1, none⟩ = some (.int .i64 x.gr) := by simp [World.cell?, Xy1.out]
            have Xc2y1 : y1.cell? ⟨w.heap.size, 2, none⟩ = some (.slice A x.cs.length cap) := by simp [World.cell?, Xy1.out]
            clear hy1
            have Xa0 : ∀ ob, (y1.alloc ob).cell? ⟨w.heap.size, 0, none⟩ = some (.int .i64 x.cy) := fun ob => (World.cell?_alloc_lt _ _ _ (heap_lt Xy1.out)).trans Xc0y1
            have Xa1 : ∀ ob, (y1.alloc ob).cell? ⟨w.heap.size, 1, none⟩ = some (.int .i64 x.gr) := fun ob => (World.cell?_alloc_lt _ _ _ (heap_lt Xy1.out)).trans Xc1y1
            have Xa2 : ∀ ob, (y1.alloc ob).cell? ⟨w.heap.size, 2, none⟩ = some (.slice A x.cs.length cap) := fun ob => (World.cell?_alloc_lt _ _ _ (heap_lt Xy1.out)).trans Xc2y1
            go_wp2_with fail
            obtain ⟨y2, hy2⟩ : ∃ y2, y2 = y1.alloc (.cells #[.int .i64 P.x, .int .i64 P.y, .int .i64 P.z] 46) := ⟨_, rfl⟩
            have by2 : Below y1.heap.size y1 y2 := by rw [hy2]; exact (Below.refl _ _).alloc (Nat.le_refl _) _
            have ny2 : y2.heap[y1.heap.size]? = some (.cells #[.int .i64 P.x, .int .i64 P.y, .int .i64 P.z] 46 (0, 0)) := by rw [hy2]; exact heap_alloc_new _ _
            have By2 := Lib.hid (By1.out.trans ((by2).mono my1))
            have my2 : w4.heap.size ≤ y2.heap.size := Nat.le_trans my1 (by2).size
            have Iy2 := Lib.hid ((Iy1.out.below (by2)).mono (by2).size)
            have Xy2 := Lib.hid (((by2).block _ (heap_lt Xy1.out)).trans Xy1.out)
            clear By1 my1 Iy1 Xy1 Xc0y1 Xc1y1 Xc2y1
            have Xc0y2 : y2.cell? ⟨w.heap.size, 0, none⟩ = some (.int .i64 x.cy) := by simp [World.cell?, Xy2.out]
            have Xc1y2 : y2.cell? ⟨w.heap.size, 1, none⟩ = some (.int .i64 x.gr) := by simp [World.cell?, Xy2.out]
            have Xc2y2 : y2.cell? ⟨w.heap.size, 2, none⟩ = some (.slice A x.cs.length cap) := by simp [World.cell?, Xy2.out]
            rw [← hy2]
            clear hy2 by2 Xa0 Xa1 Xa2
            have Py2 := Lib.hid ny2
            clear ny2
            have Pc0y2 : y2.cell? ⟨y1.heap.size, 0, none⟩ = some (.int .i64 P.x) := by simp [World.cell?, Py2.out]
            have Pc1y2 : y2.cell? ⟨y1.heap.size, 1, none⟩ = some (.int .i64 P.y) := by simp [World.cell?, Py2.out]
            have Pc2y2 : y2.cell? ⟨y1.heap.size, 2, none⟩ = some (.int .i64 P.z) := by simp [World.cell?, Py2.out]
            go_wp2_with fail
            refine (WK.out y2 Iy2.out).mono ?_
            rintro e y3 ⟨rfl, hy3⟩
            have By3 := Lib.hid (By2.out.trans ((hy3).mono my2))
            have my3 : w4.heap.size ≤ y3.heap.size := Nat.le_trans my2 (hy3).size
            have Iy3 := Lib.hid ((Iy2.out.below (hy3)).mono (hy3).size)
            have Xy3 := Lib.hid (((hy3).block _ (heap_lt Xy2.out)).trans Xy2.out)
            have Py3 := Lib.hid (((hy3).block _ (heap_lt Py2.out)).trans Py2.out)
            clear By2 my2 Iy2 Xy2 Py2 Xc0y2 Xc1y2 Xc2y2 Pc0y2 Pc1y2 Pc2y2
            have Xc0y3 : y3.cell? ⟨w.heap.size, 0, none⟩ = some (.int .i64 x.cy) := by simp [World.cell?, Xy3.out]
            have Xc1y3 : y3.cell? ⟨w.heap.size, 1, none⟩ = some (.int .i64 x.gr) := by simp [World.cell?, Xy3.out]
            have Xc2y3 : y3.cell? ⟨w.heap.size, 2, none⟩ = some (.slice A x.cs.length cap) := by simp [World.cell?, Xy3.out]
            have Pc0y3 : y3.cell? ⟨y1.heap.size, 0, none⟩ = some (.int .i64 P.x) := by simp [World.cell?, Py3.out]
            have Pc1y3 : y3.cell? ⟨y1.heap.size, 1, none⟩ = some (.int .i64 P.y) := by simp [World.cell?, Py3.out]
            have Pc2y3 : y3.cell? ⟨y1.heap.size, 2, none⟩ = some (.int .i64 P.z) := by simp [World.cell?, Py3.out]
            clear hy3
            have Xa0 : ∀ ob, (y3.alloc ob).cell? ⟨w.heap.size, 0, none⟩ = some (.int .i64 x.cy) := fun ob => (World.cell?_alloc_lt _ _ _ (heap_lt Xy3.out)).trans Xc0y3
            have Xa1 : ∀ ob, (y3.alloc ob).cell? ⟨w.heap.size, 1, none⟩ = some (.int .i64 x.gr) := fun ob => (World.cell?_alloc_lt _ _ _ (heap_lt Xy3.out)).trans Xc1y3
            have Xa2 : ∀ ob, (y3.alloc ob).cell? ⟨w.heap.size, 2, none⟩ = some (.slice A x.cs.length cap) := fun ob => (World.cell?_alloc_lt _ _ _ (heap_lt Xy3.out)).trans Xc2y3
            have Pa0 : ∀ ob, (y3.alloc ob).cell? ⟨y1.heap.size, 0, none⟩ = some (.int .i64 P.x) := fun ob => (World.cell?_alloc_lt _ _ _ (heap_lt Py3.out)).trans Pc0y3
            have Pa1 : ∀ ob, (y3.alloc ob).cell? ⟨y1.heap.size, 1, none⟩ = some (.int .i64 P.y) := fun ob => (World.cell?_alloc_lt _ _ _ (heap_lt Py3.out)).trans Pc1y3
            have Pa2 : ∀ ob, (y3.alloc ob).cell? ⟨y1.heap.size, 2, none⟩ = some (.int .i64 P.z) := fun ob => (World.cell?_alloc_lt _ _ _ (heap_lt Py3.out)).trans Pc2y3
            go_wp2_with fail
            obtain ⟨y4, hy4⟩ : ∃ y4, y4 = y3.alloc (.cells #[.int .i64 Q.x, .int .i64 Q.y, .int .i64 Q.z] 46) := ⟨_, rfl⟩
            have by4 : Below y3.heap.size y3 y4 := by rw [hy4]; exact (Below.refl _ _).alloc (Nat.le_refl _) _
            have ny4 : y4.heap[y3.heap.size]? = some (.cells #[.int .i64 Q.x, .int .i64 Q.y, .int .i64 Q.z] 46 (0, 0)) := by rw [hy4]; exact heap_alloc_new _ _
            have By4 := Lib.hid (By3.out.trans ((by4).mono my3))
            have my4 : w4.heap.size ≤ y4.heap.size := Nat.le_trans my3 (by4).size
            have Iy4 := Lib.hid ((Iy3.out.below (by4)).mono (by4).size)
            have Xy4 := Lib.hid (((by4).block _ (heap_lt Xy3.out)).trans Xy3.out)
            have Py4 := Lib.hid (((by4).block _ (heap_lt Py3.out)).trans Py3.out)
            clear By3 my3 Iy3 Xy3 Py3 Xc0y3 Xc1y3 Xc2y3 Pc0y3 Pc1y3 Pc2y3
            have Xc0y4 : y4.cell? ⟨w.heap.size, 0, none⟩ = some (.int .i64 x.cy) := by simp [World.cell?, Xy4.out]
            have Xc1y4 : y4.cell? ⟨w.heap.size, 1, none⟩ = some (.int .i64 x.gr) := by simp [World.cell?, Xy4.out]
            have Xc2y4 : y4.cell? ⟨w.heap.size, 2, none⟩ = some (.slice A x.cs.length cap) := by simp [World.cell?, Xy4.out]
            have Pc0y4 : y4.cell? ⟨y1.heap.size, 0, none⟩ = some (.int .i64 P.x) := by simp [World.cell?, Py4.out]
            have Pc1y4 : y4.cell? ⟨y1.heap.size, 1, none⟩ = some (.int .i64 P.y) := by simp [World.cell?, Py4.out]
            have Pc2y4 : y4.cell? ⟨y1.heap.size, 2, none⟩ = some (.int .i64 P.z) := by simp [World.cell?, Py4.out]
            rw [← hy4]
            clear hy4 by4 Xa0 Xa1 Xa2 Pa0 Pa1 Pa2
            have Qy4 := Lib.hid ny4
            clear ny4
            have Qc0y4 : y4.cell? ⟨y3.heap.size, 0, none⟩ = some (.int .i64 Q.x) := by simp [World.cell?, Qy4.out]
            have Qc1y4 : y4.cell? ⟨y3.heap.size, 1, none⟩ = some (.int .i64 Q.y) := by simp [World.cell?, Qy4.out]
            have Qc2y4 : y4.cell? ⟨y3.heap.size, 2, none⟩ = some (.int .i64 Q.z) := by simp [World.cell?, Qy4.out]
            go_wp2_with fail
            refine (S2.out y4).mono ?_
            rintro e y5 ⟨rfl, hy5⟩
            have By5 := Lib.hid (By4.out.trans ((hy5).mono my4))
            have my5 : w4.heap.size ≤ y5.heap.size := Nat.le_trans my4 (hy5).size
            have Iy5 := Lib.hid ((Iy4.out.below (hy5)).mono (hy5).size)
            have Xy5 := Lib.hid (((hy5).block _ (heap_lt Xy4.out)).trans Xy4.out)
            have Py5 := Lib.hid (((hy5).block _ (heap_lt Py4.out)).trans Py4.out)
            have Qy5 := Lib.hid (((hy5).block _ (heap_lt Qy4.out)).trans Qy4.out)
            clear By4 my4 Iy4 Xy4 Py4 Qy4 Xc0y4 Xc1y4 Xc2y4 Pc0y4 Pc1y4 Pc2y4 Qc0y4 Qc1y4 Qc2y4
            have Xc0y5 : y5.cell? ⟨w.heap.size, 0, none⟩ = some (.int .i64 x.cy) := by simp [World.cell?, Xy5.out]
            have Xc1y5 : y5.cell? ⟨w.heap.size, 1, none⟩ = some (.int .i64 x.gr) := by simp [World.cell?, Xy5.out]
            have Xc2y5 : y5.cell? ⟨w.heap.size, 2, none⟩ = some (.slice A x.cs.length cap) := by simp [World.cell?, Xy5.out]
            have Pc0y5 : y5.cell? ⟨y1.heap.size, 0, none⟩ = some (.int .i64 P.x) := by simp [World.cell?, Py5.out]
            have Pc1y5 : y5.cell? ⟨y1.heap.size, 1, none⟩ = some (.int .i64 P.y) := by simp [World.cell?, Py5.out]
            have Pc2y5 : y5.cell? ⟨y1.heap.size, 2, none⟩ = some (.int .i64 P.z) := by simp [World.cell?, Py5.out]
            have Qc0y5 : y5.cell? ⟨y3.heap.size, 0, none⟩ = some (.int .i64 Q.x) := by simp [World.cell?, Qy5.out]
            have Qc1y5 : y5.cell? ⟨y3.heap.size, 1, none⟩ = some (.int .i64 Q.y) := by simp [World.cell?, Qy5.out]
            have Qc2y5 : y5.cell? ⟨y3.heap.size, 2, none⟩ = some (.int .i64 Q.z) := by simp [World.cell?, Qy5.out]
            clear hy5
            go_wp2_with fail
            refine (SL.out y5).mono ?_
            rintro e y6 ⟨rfl, hy6⟩
            have By6 := Lib.hid (By5.out.trans ((hy6).mono my5))
            have my6 : w4.heap.size ≤ y6.heap.size := Nat.le_trans my5 (hy6).size
            have Iy6 := Lib.hid ((Iy5.out.below (hy6)).mono (hy6).size)
            have Xy6 := Lib.hid (((hy6).block _ (heap_lt Xy5.out)).trans Xy5.out)
            have Py6 := Lib.hid (((hy6).block _ (heap_lt Py5.out)).trans Py5.out)
            have Qy6 := Lib.hid (((hy6).block _ (heap_lt Qy5.out)).trans Qy5.out)
            clear By5 my5 Iy5 Xy5 Py5 Qy5 Xc0y5 Xc1y5 Xc2y5 Pc0y5 Pc1y5 Pc2y5 Qc0y5 Qc1y5 Qc2y5
            have Xc0y6 : y6.cell? ⟨w.heap.size, 0, none⟩ = some (.int .i64 x.cy) := by simp [World.cell?, Xy6.out]
            have Xc1y6 : y6.cell? ⟨w.heap.size, 1, none⟩ = some (.int .i64 x.gr) := by simp [World.cell?, Xy6.out]
            have Xc2y6 : y6.cell? ⟨w.heap.size, 2, none⟩ = some (.slice A x.cs.length cap) := by simp [World.cell?, Xy6.out]
            have Pc0y6 : y6.cell? ⟨y1.heap.size, 0, none⟩ = some (.int .i64 P.x) := by simp [World.cell?, Py6.out]
            have Pc1y6 : y6.cell? ⟨y1.heap.size, 1, none⟩ = some (.int .i64 P.y) := by simp [World.cell?, Py6.out]
            have Pc2y6 : y6.cell? ⟨y1.heap.size, 2, none⟩ = some (.int .i64 P.z) := by simp [World.cell?, Py6.out]
            have Qc0y6 : y6.cell? ⟨y3.heap.size, 0, none⟩ = some (.int .i64 Q.x) := by simp [World.cell?, Qy6.out]
            have Qc1y6 : y6.cell? ⟨y3.heap.size, 1, none⟩ = some (.int .i64 Q.y) := by simp [World.cell?, Qy6.out]
            have Qc2y6 : y6.cell? ⟨y3.heap.size, 2, none⟩ = some (.int .i64 Q.z) := by simp [World.cell?, Qy6.out]
            clear hy6
            have hmn := HMIN.out n HLN.out
            have hdd : n = m → dN (crAt x i) (crAt x k) n = dm := fun h => by rw [h, HDM.out]
            rw [← HDM.out] at hmn
            rw [← DN.out] at hmn hdd
            have hsm := SM.out
            obtain ⟨dn, hdn⟩ : ∃ dn, dn = s2G P Q := ⟨_, rfl⟩
            obtain ⟨sq, hsq⟩ : ∃ sq, sq = slG P Q := ⟨_, rfl⟩
            rw [← hdn] at hmn hdd
            rw [← hsq] at hsm
            rw [← hdn, ← hsq]
            obtain ⟨h1, h2⟩ := hmn
            clear hdn hsq DN SM HMIN HDM HSL HNR
            have hbF := By6.out
            have hcy := HLN.out
            rcases HT.out with h0 | h0
            · have hT : ((t : Int) == 1) = false := by simp <;> omega
              have H0 := Lib.hid h0
              clear h0
              by_cases hnm : n = m
              · obtain rfl := hsm hnm
                obtain rfl := hdd hnm
                subst hnm
                go_wp2_with fail
                go_roundw
                case rel => exact ⟨n + 1, _, by omega, by go_num, rfl, fun _ => rfl, hbF⟩
                case measure => simp [intOf]; omega
              · have hnI : ¬ ((n : Int) = (m : Int)) := by omega
                go_wp2_with fail
                go_roundw
                case rel => exact ⟨n + 1, _, by omega, by go_num, rfl, fun h => HL.out (.inr (by have := H0.out; omega)), hbF⟩
                case measure => simp [intOf]; omega
            · have hT : ((t : Int) == 1) = true := by simp <;> omega
              have H0 := Lib.hid h0
              clear h0
              by_cases hnm : n = m
              · obtain rfl := hsm hnm
                obtain rfl := hdd hnm
                subst hnm
                go_wp2_with fail
                go_roundw
                case rel => exact ⟨n + 1, _, by omega, by go_num, rfl, fun _ => rfl, hbF⟩
                case measure => simp [intOf]; omega
              · have hnI : ¬ ((n : Int) = (m : Int)) := by omega
                obtain rfl := HL.out (.inl (by have := H0.out; omega))
                by_cases hdl : dn = ls
                · have hml : ¬ ((n : Int) < (m : Int)) := by have := h2 hdl; omega
                  subst hdl
                  go_wp2_with fail
                  go_roundw
                  case rel => exact ⟨n + 1, _, by omega, by go_num, rfl, fun _ => rfl, hbF⟩
                  case measure => simp [intOf]; omega
                · have hdl1 : ¬ dn < ls := by omega
                  go_wp2_with fail
                  go_roundw
                  case rel => exact ⟨n + 1, _, by omega, by go_num, rfl, fun _ => rfl, hbF⟩
                  case measure => simp [intOf]; omega
          · have hls := HL.out (.inr (by omega))
            go_wp2_with fail
            go_roundw
            case rel => exact ⟨t + 1, _, by omega, by go_num, rfl, fun _ => hls, Bwr.out⟩
            case measure => simp [intOf]; omega
      · have Bwr := Lib.hid HB.out
        have Xwr := Lib.hid ((HB.out.block _ sX).trans Xw4.out)
        have Xc0wr : wr.cell? ⟨w.heap.size, 0, none⟩ = some (.int .i64 x.cy) := by simp [World.cell?, Xwr.out]
        have Xc1wr : wr.cell? ⟨w.heap.size, 1, none⟩ = some (.int .i64 x.gr) := by simp [World.cell?, Xwr.out]
        have Xc2wr : wr.cell? ⟨w.heap.size, 2, none⟩ = some (.slice A x.cs.length cap) := by simp [World.cell?, Xwr.out]
        have hF : Below w.heap.size w wr := Bw4.out.trans (HB.out.mono mw4)
        go_wp2_with fail
        go_ret
        exact ⟨rfl, hF⟩
  · have hz := near_bad (x := x) (i := i) (k := k) (by rw [HNR.out]; exact her)
    rw [HNR.out] at hz
    obtain ⟨rfl, rfl⟩ := Prod.mk.inj hz
    clear hz
    go_wp2_with fail
    go_ret
    exact ⟨rfl, Bw4.out⟩
end Go.Proofs.YtnnnpliigdfipaaGreatDoor
