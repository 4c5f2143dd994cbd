/- RangingExamples returns true: the examples of chapter 17, the order of errors, and limits. -/
import Derived.Test.YtephkhaebkajkaaRgW
import Derived.Test.YtephkhaebkajkaaRgD
import Derived.WalkKit
import Derived.ProofKit
import Derived.OpenShut
import Derived.ShutString
import Derived.ChangeOld
import Derived.Below
import Derived.Lib.SmallJoins
namespace Go.Proofs.Ytephkhaebkajkaa
open Go.RowKit
attribute [local go_sem ↓] Go.wp_at_zero Go.wp_at_succ
attribute [local go_sem] wrap_lit

theorem set1 {w : World} {g : Nat} {cs : Array Value} {T : TypeId} {i : Nat} {a : Value} (h : w.heap[g]? = some (.cells cs T (0, 0))) :
    (w.setCell ⟨g, i, none⟩ a).heap[g]? = some (.cells (cs.setIfInBounds i a) T (0, 0)) := by
  simp [World.setCell, Array.getElem?_modify, h]

def exl : List Int := [-1, 0, 1, 2097153, 0, 1, 0, 16385, 1, 0, -16385, 1, 0, 0, 0, 0, 0, 1001]
theorem exl_bad : ∀ k, k < 6 → ¬ okX (nth exl (k * 3)) (nth exl (k * 3 + 1)) (nth exl (k * 3 + 2)) := by decide +kernel
theorem bad_p (R V N c : Int) (h : ¬ okX R V N) : pdE R V N c = 1 := by unfold pdE; rw [if_neg (fun h2 => h h2.1)]
theorem bad_u (R V N r c : Int) (h : ¬ okX R V N) : uE R V N r c = 1 := by unfold uE; rw [if_neg (fun h2 => h h2.1)]
theorem bad_c (R V N k : Int) (h : ¬ okX R V N) : cE R V N k = 1 := by unfold cE; rw [if_neg (fun h2 => h h2.1)]
theorem bad_x (R V N : Int) (h : ¬ okX R V N) : chk R V N = 1 := by unfold chk; rw [if_neg h]
theorem exl_cells (w : World) (k : Nat) (hk : k < 6) :
    (w.alloc (.cells ((exl.map (Value.int .i64)).toArray) 23)).cell? ⟨w.heap.size, k * 3, none⟩ = some (.int .i64 (nth exl (k * 3))) ∧
    (w.alloc (.cells ((exl.map (Value.int .i64)).toArray) 23)).cell? ⟨w.heap.size, k * 3 + 1, none⟩ = some (.int .i64 (nth exl (k * 3 + 1))) ∧
    (w.alloc (.cells ((exl.map (Value.int .i64)).toArray) 23)).cell? ⟨w.heap.size, k * 3 + 2, none⟩ = some (.int .i64 (nth exl (k * 3 + 2))) := by
  refine ⟨?_, ?_, ?_⟩ <;> rw [World.cell?_alloc_at _ _ _ _ rfl] <;> (rcases (by omega : k = 0 ∨ k = 1 ∨ k = 2 ∨ k = 3 ∨ k = 4 ∨ k = 5) with rfl | rfl | rfl | rfl | rfl | rfl) <;> rfl

def gap : List Int := (List.range 40).map fun k => if k = 1 then 50 else if k = 17 then 66 else if k = 34 then 90 else -1
theorem gap_len : gap.length = 40 := rfl
theorem gap_ok : okl gap := by decide +kernel
theorem gap_0 : nth (outs gap 40) 0 = 0 ∧ nth (outs gap 40) 1 = 0 ∧ nth (outs gap 40) 2 = 0 := by decide +kernel
theorem gap_16 : nth (outs gap 40) 48 = 12800 ∧ nth (outs gap 40) 49 = 0 ∧ nth (outs gap 40) 50 = 1 := by decide +kernel
theorem gap_17 : nth (outs gap 40) 51 = 16896 ∧ nth (outs gap 40) 52 = 256 ∧ nth (outs gap 40) 53 = 2 := by decide +kernel
theorem gap_34 : nth (outs gap 40) 102 = 23040 ∧ nth (outs gap 40) 103 = 0 ∧ nth (outs gap 40) 104 = 1 := by decide +kernel
theorem run21n (A : Option Addr) (cap n : Nat) (w : World) (hl : 256 < n) : Calls Try.prog 21 #[.slice A n cap] w fun e w' => e = .returned (.tuple #[.slice none 0 0, .int .i64 4]) ∧ Below w.heap.size w w' := by
  have h := run21L A cap (List.replicate n 0) w (by simpa using hl)
  rwa [List.length_replicate] at h
theorem run21m (A : Option Addr) (cap : Nat) (w : World) (hA : Is .i64 w w.heap.size A [-2]) : Calls Try.prog 21 #[.slice A 1 cap] w fun e w' => e = .returned (.tuple #[.slice none 0 0, .int .i64 1]) ∧ Below w.heap.size w w' :=
  run21e A cap [-2] w hA (by decide +kernel) (by decide)
theorem run21z (w : World) : Calls Try.prog 21 #[.slice none 0 0] w fun e w' => ∃ A' cap', e = .returned (.tuple #[.slice A' 0 cap', .int .i64 0]) ∧ Below w.heap.size w w' :=
  (run21 none 0 [] w Is.none_ (by decide +kernel) (by decide)).mono fun _ _ ⟨a, b, h1, _, h3⟩ => ⟨a, b, h1, h3⟩
theorem x_1 : pdP 2097152 16384 1000 16 = 2097152 ∧ pdE 2097152 16384 1000 16 = 0 := by decide +kernel
theorem x_2 : pdE 2097152 16384 1000 17 = 1 := by decide +kernel
theorem x_3 : uE 2097152 16384 1000 8193 1 = 1 ∧ uE 2097152 16384 1000 1 17 = 1 := by decide +kernel
theorem x_4 : cE 2097152 16384 1000 8193 = 1 ∧ cE 2097152 16384 1000 8191 = 9 := by decide +kernel
theorem x_5 : nwE 8193 = 1 := by decide +kernel
theorem x_6 : uR 2097152 16384 1000 0 1 = 1232896 ∧ uV 2097152 16384 1000 0 1 = -16384 ∧ uN 2097152 16384 1000 0 1 = 1000 ∧ uE 2097152 16384 1000 0 1 = 0 := by decide +kernel

set_option maxHeartbeats 4000000 in
set_option maxRecDepth 100000 in
theorem examples8 (w : World) : Calls Try.prog 8 #[] w fun e w' => e = .returned (.bool true) ∧ Below w.heap.size w w' := by
  have hmk : ∀ W : World, (Instr.makeSlice 36 (.int .i64 257) (.int .i64 257)).run Try.prog W = .ok (.slice (some ⟨W.heap.size, 0, none⟩) 257 257) (W.alloc (.cells (madeCells #[.int .i64 0] 257) 3)) := by
    obtain ⟨i0, hi0, hz0, hz1, hz2⟩ := info_parts int_info
    intro W
    have := run_makeN (P := Try.prog) 36 3 i0 _ Try.underlying36 hi0 hz0 257 (by omega) (by omega) W
    rw [hz1] at this
    exact this
  have hmk2 : ∀ W : World, (Instr.makeSlice 36 (.int .i64 40) (.int .i64 40)).run Try.prog W = .ok (.slice (some ⟨W.heap.size, 0, none⟩) 40 40) (W.alloc (.cells (madeCells #[.int .i64 0] 40) 3)) := by
    obtain ⟨i0, hi0, hz0, hz1, hz2⟩ := info_parts int_info
    intro W
    have := run_makeN (P := Try.prog) 36 3 i0 _ Try.underlying36 hi0 hz0 40 (by omega) (by omega) W
    rw [hz1] at this
    exact this
  have HM := Lib.hid hmk; have HM2 := Lib.hid hmk2; clear hmk hmk2
  go_enter Try.func8, Try.ntmps8
  go_wp2_with fail
  refine (awake19 _).mono ?_
  rintro e w1 ⟨rfl, hb1⟩
  go_wp2_with fail
  go_loopw [53] (fun i wr => ∃ k : Nat, k ≤ 6 ∧ i = .int .i64 k ∧ Below (w1.heap.size + 1) (w1.alloc (.cells ((exl.map (Value.int .i64)).toArray) 23)) wr) (fun i _ => 6 - (intOf i).toNat)
  case atStart => exact ⟨0, Nat.zero_le _, rfl, Below.refl _ _⟩
  case round =>
    obtain ⟨k, hk, rfl, hbr⟩ := hrel
    have hsz : w1.heap.size + 1 ≤ wr.heap.size := by have := hbr.size; simpa using this
    by_cases hlt : k < 6
    · obtain ⟨c0, c1, c2⟩ := exl_cells w1 k hlt
      rw [← hbr.cell (p := ⟨w1.heap.size, k * 3, none⟩) (by simp)] at c0
      rw [← hbr.cell (p := ⟨w1.heap.size, k * 3 + 1, none⟩) (by simp)] at c1
      rw [← hbr.cell (p := ⟨w1.heap.size, k * 3 + 2, none⟩) (by simp)] at c2
      have hbad := exl_bad k hlt
      generalize nth exl (k * 3) = R at *
      generalize nth exl (k * 3 + 1) = V at *
      generalize nth exl (k * 3 + 2) = N at *
      have hp := prd11 R V N (-1); rw [bad_p R V N _ hbad] at hp
      have hu := upd13 R V N (-1) 0; rw [bad_u R V N _ _ hbad] at hu
      have hc := clo15 R V N (-1); rw [bad_c R V N _ hbad] at hc
      have hx := chk17 R V N; rw [bad_x R V N hbad] at hx
      have HP := Lib.hid hp; have HU := Lib.hid hu; have HC := Lib.hid hc; have HX := Lib.hid hx
      clear hp hu hc hx hbad
      have hkI : (k : Int) < 6 := by omega
      go_wp2_with fail
      refine (HP.out _).mono ?_
      rintro e w2 ⟨rfl, hb2⟩
      have hc2 := (bcell hb2).1
      have z2 : wr.heap.size < w2.heap.size := by have := hb2.size; simp at this; omega
      go_wp2_with fail
      refine (HU.out _).mono ?_
      rintro e w3 ⟨rfl, hb3⟩
      have hc3 := (bcell hb3).1
      have z3 : wr.heap.size < w3.heap.size := by have := hb3.size; omega
      go_wp2_with fail
      refine (HC.out _).mono ?_
      rintro e w4 ⟨rfl, hb4⟩
      have hc4 := (bcell hb4).1
      have z4 : wr.heap.size < w4.heap.size := by have := hb4.size; simp at this; omega
      have z3a : wr.heap.size < w3.heap.size + 1 := by omega
      go_wp2_with fail
      refine (HX.out _).mono ?_
      rintro e w5 ⟨rfl, rfl⟩
      go_wp2_with fail
      exact ⟨⟨k + 1, by omega, by go_num, by repeat' (first | exact Below.refl _ _ | refine Below.trans ?_ (Below.mono hb4 ?_) | refine Below.trans ?_ (Below.mono hb3 ?_) | refine Below.trans ?_ (Below.mono hb2 ?_) | refine Below.trans ?_ (Below.mono hbr ?_) | refine Below.drew ?_ | refine below_drewN ?_ _ | refine Below.alloc ?_ ?_ _ | refine Below.setCell ?_ ?_ _ | (simp <;> omega) | omega)⟩, by simp [intOf]; omega⟩
    · obtain rfl : k = 6 := by omega
      have hb1' : Below w.heap.size w wr := (hb1.alloc hb1.size _).trans (hbr.mono (by have := hb1.size; omega))
      go_wp2_with fail
      have h := prd11 2097152 16384 1000 16
      rw [x_1.1, x_1.2] at h
      have H0 := Lib.hid h; clear h
      refine (H0.out _).mono ?_
      rintro e wa ⟨rfl, bwa⟩
      clear H0
      have cwa := (bcell bwa).1
      have zwa : wr.heap.size < wa.heap.size := by have := bwa.size; (first | omega | (simp at this; omega))
      have ywa : wr.heap.size < wa.heap.size + 1 := by omega
      go_wp2_with fail
      have h := prd11 2097152 16384 1000 17
      rw [x_2] at h
      have H1 := Lib.hid h; clear h
      refine (H1.out _).mono ?_
      rintro e wb ⟨rfl, bwb⟩
      clear H1
      have cwb := (bcell bwb).1
      have zwb : wr.heap.size < wb.heap.size := by have := bwb.size; (first | omega | (simp at this; omega))
      have ywb : wr.heap.size < wb.heap.size + 1 := by omega
      go_wp2_with fail
      have h := upd13 2097152 16384 1000 8193 1
      rw [x_3.1] at h
      have H2 := Lib.hid h; clear h
      refine (H2.out _).mono ?_
      rintro e wc ⟨rfl, bwc⟩
      clear H2
      have cwc := (bcell bwc).1
      have zwc : wr.heap.size < wc.heap.size := by have := bwc.size; (first | omega | (simp at this; omega))
      have ywc : wr.heap.size < wc.heap.size + 1 := by omega
      go_wp2_with fail
      have h := upd13 2097152 16384 1000 1 17
      rw [x_3.2] at h
      have H3 := Lib.hid h; clear h
      refine (H3.out _).mono ?_
      rintro e wd ⟨rfl, bwd⟩
      clear H3
      have cwd := (bcell bwd).1
      have zwd : wr.heap.size < wd.heap.size := by have := bwd.size; (first | omega | (simp at this; omega))
      have ywd : wr.heap.size < wd.heap.size + 1 := by omega
      go_wp2_with fail
      have h := clo15 2097152 16384 1000 8193
      rw [x_4.1] at h
      have H4 := Lib.hid h; clear h
      refine (H4.out _).mono ?_
      rintro e we ⟨rfl, bwe⟩
      clear H4
      have cwe := (bcell bwe).1
      have zwe : wr.heap.size < we.heap.size := by have := bwe.size; (first | omega | (simp at this; omega))
      have ywe : wr.heap.size < we.heap.size + 1 := by omega
      go_wp2_with fail
      have h := clo15 2097152 16384 1000 8191
      rw [x_4.2] at h
      have H5 := Lib.hid h; clear h
      refine (H5.out _).mono ?_
      rintro e wf ⟨rfl, bwf⟩
      clear H5
      have cwf := (bcell bwf).1
      have zwf : wr.heap.size < wf.heap.size := by have := bwf.size; (first | omega | (simp at this; omega))
      have ywf : wr.heap.size < wf.heap.size + 1 := by omega
      go_wp2_with fail
      have h := new9 8193
      rw [x_5] at h
      have H6 := Lib.hid h; clear h
      refine (H6.out _).mono ?_
      rintro e wg ⟨rfl, bwg⟩
      clear H6
      have cwg := (bcell bwg).1
      have zwg : wr.heap.size < wg.heap.size := by have := bwg.size; (first | omega | (simp at this; omega))
      have ywg : wr.heap.size < wg.heap.size + 1 := by omega
      have hmk := HM.out
      go_wp2_with fail
      clear hmk
      refine (run21n _ _ _ _ (by omega)).mono ?_
      rintro e wh ⟨rfl, bwh⟩
      have cwh := (bcell bwh).1
      have zwh : wr.heap.size < wh.heap.size := by have := bwh.size; (first | omega | (simp at this; omega))
      have ywh : wr.heap.size < wh.heap.size + 1 := by omega
      go_wp2_with fail
      refine (run21m _ _ _ (fun _ => ⟨wh.heap.size, 0, rfl, by simp, fun j hj => by obtain rfl : j = 0 := (by simpa using hj); rw [World.cell?_alloc_at _ _ _ _ rfl]; rfl⟩)).mono ?_
      rintro e wi ⟨rfl, bwi⟩
      have cwi := (bcell bwi).1
      have zwi : wr.heap.size < wi.heap.size := by have := bwi.size; (first | omega | (simp at this; omega))
      have ywi : wr.heap.size < wi.heap.size + 1 := by omega
      go_wp2_with fail
      refine (run21z _).mono ?_
      rintro e wj ⟨Az, capz, rfl, bwj⟩
      have cwj := (bcell bwj).1
      have zwj : wr.heap.size < wj.heap.size := by have := bwj.size; (first | omega | (simp at this; omega))
      have ywj : wr.heap.size < wj.heap.size + 1 := by omega
      have hmk2 := HM2.out
      go_wp2_with fail
      clear hmk2
      have hX : (fun W : World => W.cell? ⟨wr.heap.size, 0, none⟩ = some (.int .i64 2097152) ∧ W.cell? ⟨wr.heap.size, 1, none⟩ = some (.int .i64 16384) ∧ W.cell? ⟨wr.heap.size, 2, none⟩ = some (.int .i64 1000)) wj := by
        refine ⟨?_, ?_, ?_⟩ <;> go_simp
      have hw0 : w.heap.size ≤ wr.heap.size := hb1'.size
      have hbj : Below w.heap.size w wj := by repeat' (first | exact Below.refl _ _ | refine Below.trans ?_ (Below.mono bwj ?_) | refine Below.trans ?_ (Below.mono bwi ?_) | refine Below.trans ?_ (Below.mono bwh ?_) | refine Below.trans ?_ (Below.mono bwg ?_) | refine Below.trans ?_ (Below.mono bwf ?_) | refine Below.trans ?_ (Below.mono bwe ?_) | refine Below.trans ?_ (Below.mono bwd ?_) | refine Below.trans ?_ (Below.mono bwc ?_) | refine Below.trans ?_ (Below.mono bwb ?_) | refine Below.trans ?_ (Below.mono bwa ?_) | refine Below.trans ?_ (Below.mono hb1' ?_) | refine Below.drew ?_ | refine below_drewN ?_ _ | refine Below.alloc ?_ ?_ _ | refine Below.setCell ?_ ?_ _ | (simp <;> omega) | omega)
      clear cwa cwb cwc cwd cwe cwf cwg cwh cwi cwj ywa ywb ywc ywd ywe ywf ywg ywh ywi ywj zwa zwb zwc zwd zwe zwf zwg zwh zwi
      clear bwa bwb bwc bwd bwe bwf bwg bwh bwi bwj HM HM2 hbr hb1' hb1
      obtain ⟨wz, rfl⟩ : ∃ wz : World, wz = wr := ⟨_, rfl⟩
      go_loopw [34] (fun i wq => ∃ k : Nat, k ≤ 40 ∧ i = .int .i64 k ∧ (∃ cs, wq.heap[wj.heap.size]? = some (.cells cs 3 (0, 0)) ∧ cs.size = 40 ∧ ∀ j, j < k → cs[j]? = some (.int .i64 (-1))) ∧ Below wj.heap.size wj wq ∧ wj.heap.size + 1 ≤ wq.heap.size) (fun i _ => 40 - (intOf i).toNat)
      case atStart => exact ⟨0, Nat.zero_le _, rfl, ⟨_, heap_alloc_new _ _, by simp [size_madeCells], fun j h => absurd h (by omega)⟩, (Below.refl _ _).alloc (Nat.le_refl _) _, by simp⟩
      case round =>
        obtain ⟨k, hk, rfl, ⟨cs, hcs, hsz2, hdone⟩, hbq, hzq⟩ := hrel
        have HD := Lib.hid hdone; clear hdone
        have HS := Lib.hid hsz2
        by_cases hlt : k < 40
        · obtain ⟨⟨u0, c0⟩, p0⟩ := cell_in hcs (i := k) (by omega)
          clear hsz2
          have hkI : (k : Int) < 40 := by omega
          go_wp2_with fail
          refine ⟨⟨k + 1, by omega, by go_num, ⟨_, set1 hcs, by simp [HS.out], fun j hj => ?_⟩, hbq.setCell (Nat.le_refl _) _, by simpa [World.setCell] using hzq⟩, by simp [intOf]; omega⟩
          rw [Array.getElem?_setIfInBounds]
          by_cases e : k = j
          · rw [if_pos e, if_pos (by rw [HS.out]; omega)]
          · rw [if_neg e]; exact HD.out j (by omega)
        · obtain rfl : k = 40 := by omega
          have hX2 : wr.cell? ⟨wz.heap.size, 0, none⟩ = some (.int .i64 2097152) ∧ wr.cell? ⟨wz.heap.size, 1, none⟩ = some (.int .i64 16384) ∧ wr.cell? ⟨wz.heap.size, 2, none⟩ = some (.int .i64 1000) :=
            ⟨(hbq.cell (p := ⟨wz.heap.size, 0, none⟩) zwj).trans hX.1, (hbq.cell (p := ⟨wz.heap.size, 1, none⟩) zwj).trans hX.2.1, (hbq.cell (p := ⟨wz.heap.size, 2, none⟩) zwj).trans hX.2.2⟩
          clear hX
          obtain ⟨x0, x1, x2⟩ := hX2
          obtain ⟨⟨u0, c0⟩, p0⟩ := cell_in hcs (i := 1) (by omega)
          obtain ⟨⟨u1, c1⟩, p1⟩ := cell_in hcs (i := 17) (by omega)
          obtain ⟨⟨u2, c2⟩, p2⟩ := cell_in hcs (i := 34) (by omega)
          clear hsz2
          have hne : wz.heap.size ≠ wj.heap.size := by omega
          go_wp2_with fail
          have hgap : Is .i64 (((wr.setCell ⟨wj.heap.size, 1, none⟩ (.int .i64 50)).setCell ⟨wj.heap.size, 17, none⟩ (.int .i64 66)).setCell ⟨wj.heap.size, 34, none⟩ (.int .i64 90)) (((wr.setCell ⟨wj.heap.size, 1, none⟩ (.int .i64 50)).setCell ⟨wj.heap.size, 17, none⟩ (.int .i64 66)).setCell ⟨wj.heap.size, 34, none⟩ (.int .i64 90)).heap.size (some ⟨wj.heap.size, 0, none⟩) gap := by
            refine fun _ => ⟨wj.heap.size, 0, rfl, by simp [World.setCell]; omega, fun j hj => ?_⟩
            rw [gap_len] at hj
            have hd := HD.out j hj
            have hh : (((wr.setCell ⟨wj.heap.size, 1, none⟩ (.int .i64 50)).setCell ⟨wj.heap.size, 17, none⟩ (.int .i64 66)).setCell ⟨wj.heap.size, 34, none⟩ (.int .i64 90)).heap[wj.heap.size]? = some (.cells (((cs.setIfInBounds 1 (.int .i64 50)).setIfInBounds 17 (.int .i64 66)).setIfInBounds 34 (.int .i64 90)) 3 (0, 0)) := by
              simp [World.setCell, Array.getElem?_modify, hcs]
            have hg : nth gap j = if j = 1 then 50 else if j = 17 then 66 else if j = 34 then 90 else -1 := by simp [nth, gap, List.getD_eq_getElem?_getD, hj]
            rw [hg]
            simp only [World.cell?, hh, Nat.zero_add]
            rw [Array.getElem?_setIfInBounds, Array.getElem?_setIfInBounds, Array.getElem?_setIfInBounds]
            simp only [Array.size_setIfInBounds, HS.out, hd]
            by_cases e3 : j = 34
            · subst e3; rfl
            · by_cases e2 : j = 17
              · subst e2; rfl
              · by_cases e1 : j = 1
                · subst e1; rfl
                · simp [e1, e2, e3, show ¬ 34 = j by omega, show ¬ 17 = j by omega, show ¬ 1 = j by omega]
          refine (run21 (some ⟨wj.heap.size, 0, none⟩) 40 gap _ hgap gap_ok (by decide)).mono ?_
          rintro e wk ⟨Ak, capk, rfl, hok, bwk⟩
          obtain ⟨g, cs', rfl, hg1, hh', hc'⟩ := hok (by rw [outs_len]; decide)
          have hgl := heap_lt hh'
          have kc : ∀ j, j < 120 → wk.cell? ⟨g, j, none⟩ = some (.int .i64 (nth (outs gap 40) j)) := fun j hj => by
            have := hc' j (by rw [outs_len]; exact hj)
            simp only [World.cell?, hh']; exact this
          have a0 := kc 0 (by omega); have a1 := kc 1 (by omega); have a2 := kc 2 (by omega)
          have a3 := kc 48 (by omega); have a4 := kc 49 (by omega); have a5 := kc 50 (by omega)
          have a6 := kc 51 (by omega); have a7 := kc 52 (by omega); have a8 := kc 53 (by omega)
          have a9 := kc 102 (by omega); have aa := kc 103 (by omega); have ab := kc 104 (by omega)
          rw [gap_0.1] at a0; rw [gap_0.2.1] at a1; rw [gap_0.2.2] at a2
          rw [gap_16.1] at a3; rw [gap_16.2.1] at a4; rw [gap_16.2.2] at a5
          rw [gap_17.1] at a6; rw [gap_17.2.1] at a7; rw [gap_17.2.2] at a8
          rw [gap_34.1] at a9; rw [gap_34.2.1] at aa; rw [gap_34.2.2] at ab
          have es : (((wr.setCell ⟨wj.heap.size, 1, none⟩ (.int .i64 50)).setCell ⟨wj.heap.size, 17, none⟩ (.int .i64 66)).setCell ⟨wj.heap.size, 34, none⟩ (.int .i64 90)).heap.size = wr.heap.size := by simp [World.setCell]
          have k0 := bwk.cell (p := ⟨wz.heap.size, 0, none⟩) (by rw [es]; show wz.heap.size < _; omega)
          have k1 := bwk.cell (p := ⟨wz.heap.size, 1, none⟩) (by rw [es]; show wz.heap.size < _; omega)
          have k2 := bwk.cell (p := ⟨wz.heap.size, 2, none⟩) (by rw [es]; show wz.heap.size < _; omega)
          rw [World.cell?_setCell_other _ _ _ _ (by simp), World.cell?_setCell_other _ _ _ _ (by simp), World.cell?_setCell_other _ _ _ _ (by simp)] at k0 k1 k2
          rw [x0] at k0; rw [x1] at k1; rw [x2] at k2
          have hbk : Below w.heap.size w wk := ((hbj.trans (hbq.mono hbj.size)).setCell (by show w.heap.size ≤ wj.heap.size; omega) _ |>.setCell (by show w.heap.size ≤ wj.heap.size; omega) _ |>.setCell (by show w.heap.size ≤ wj.heap.size; omega) _).trans (bwk.mono (by rw [es]; omega))
          clear kc hh' hc' es bwk x0 x1 x2 c0 c1 c2 p0 p1 p2 hok hgap hcs
          go_wp2_with fail
          refine (updated25 _ _ _ _ _ _ _ _ _ x_6.1 x_6.2.1 x_6.2.2.1 x_6.2.2.2).mono ?_
          rintro e wl ⟨rfl, bwl⟩
          go_wp2_with fail
          go_ret
          exact ⟨rfl, hbk.trans (bwl.mono hbk.size)⟩

namespace rangingExamplesRow
open Go.ChangeShapes Go.WideShapes Go.ChangeAt Go.RowKit
open Go.ChangeMaps (open_string shut_string)
set_option linter.unusedVariables false
theorem own : ownKnob Try.prog.godebug = none := by kernel_rfl
theorem laidOut : laidOutB Try.prog = true := by kernel_rfl
set_option maxRecDepth 100000 in
theorem lifted (os : Os) (started : os.Started) (H : Type) (enc : TypeId × Value → H) :
    ReturnsInHanded {} Try.checked os 8 .any (Rows.rangingExamplesSpec.pre6 enc Try.prog Try.f8 Rows.rangingExamplesRow.domain false) (Rows.rangingExamplesSpec.post enc Try.prog Try.f8 false true false false) := by
  refine returnsInHanded_of_change (C := Try.checked) own started (by kernel_rfl) Try.func8
    (ChangeSpec.witness6 (enc := enc) (C := Try.checked) false ⟨#[], #[], []⟩ 8 (by kernel_rfl) (by kernel_rfl) (by kernel_rfl) (by kernel_rfl)) ?_
  intro W base args ds gs before hval0 hW hcnd _hsz
  have hval : ∀ (j : Nat) t v, Try.f8.params[j]? = some t → args[j]? = some v → Value.okWide Try.prog W .any base t v := hval0
  have hW' := hW
  obtain ⟨p, q, hA0, hV, rfl, hfz, hnd⟩ := hW
  have hA : DataW.TrodAll enc Try.prog W 0 (fun _ => true) true Try.f8.params.toList args.toList ds p := hA0
  obtain ⟨rfl, rfl, rfl⟩ := trodAll_none hA
  obtain ⟨rfl, rfl⟩ := trodVars_none hV
  clear hA0 hval0
  refine (examples8  W).mono fun e W' ⟨he, bel⟩ => ?_
  subst he
  exact ⟨_, rfl, _, _, _, [], _, [], hW', trodAll_mk1 (shut_bool Try.underlying4 _), trodAll_mk0, rfl, bel.frame _, fun h => by cases h⟩

theorem over : Rows.rangingExamplesRow.holds Try.pinned (OpenSpec.ofChange Rows.rangingExamplesSpec) :=
  OpenClaim.holds_of_wide 8 Try.f8 rfl rfl rfl rfl rfl rfl rfl ⟨rfl, rfl, rfl, rfl, rfl⟩ rfl rfl rfl rfl rfl (by kernel_rfl) Try.func8 (by kernel_rfl)
    (of_decide_eq_true (by kernel_rfl)) (by unfold Func.isWrapper; first | (rw [if_pos (by decide +kernel)]; kernel_rfl) | (rw [if_neg (by decide +kernel)]; exact ⟨rfl, rfl⟩))
    (fun os started H enc _ => lifted os started H enc)
theorem proved : Rows.RangingExamplesSaid := over
end rangingExamplesRow
end Go.Proofs.Ytephkhaebkajkaa
