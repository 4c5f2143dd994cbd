/- Replies of the reference; Worst (both). -/
import Derived.Test.YtlbchidgadcmpaaRows
import Derived.WalkKit
import Derived.WalkLawsBesides
import Derived.WalkSpells
import Derived.ProofKit
import Derived.Below
import Derived.Outline
import Derived.Lib.Hide
import Derived.Deep.RegionWith
import Derived.Deep.RegionHeld3
import Derived.Deep.DrawnRows
import Derived.StillTailTactics
import Derived.BigQuiet
import Derived.Deep.QuietTactic
import Derived.Deep.LoopGhost
import Derived.IntWalk
import Derived.Test.YtlbchidgadcmpaaWhB
import Derived.Lib.MinMax
namespace Go.Proofs.Ytlbchidgadcmpaa
open Go.RowKit
attribute [local go_sem ↓] Go.wp_at_zero Go.wp_at_succ
attribute [local go_sem] wrap_lit

def RpQ (w : World) (E : Int) (rows : List (List Int)) (e : Ending) (w' : World) : Prop := ∃ A C, e = .returned (.tuple #[.slice A rows.length C, .int .i64 E]) ∧ RIs .i64 w' w'.heap.size A rows ∧ Below w.heap.size w w'
set_option maxHeartbeats 2000000 in
theorem rep14a (A A' : Option Addr) (cap cap' : Nat) (st : List (Int × Int)) (xs : List Int) (B : Nat) (w : World) (hB : B ≤ w.heap.size) (hA : Is .i64 w B A (flatS st)) (hA' : Is .i64 w B A' xs) (hl : st.length ≤ 1000000) (hl' : xs.length ≤ 1000000) (h0 : ¬ rpE st xs = 0) :
    Calls Try.prog 14 #[.slice A st.length cap, .slice A' xs.length cap'] w (RpQ w (rpE st xs) (rpL st xs)) := by
  rw [rpL_bad h0]
  have C1 := Lib.hid (check20 A cap st B w hB hA hl)
  have C2 := Lib.hid (fun W (h : Below w.heap.size w W) => sens31 A' cap' xs B W (hA'.below (h.mono hB)) hl')
  by_cases h1 : ckT st = 0
  · have h2 : ¬ ckN xs = 0 := fun g => h0 (rpE_ok.2 ⟨h1, g⟩)
    have e : rpE st xs = ckN xs := by unfold rpE; rw [if_pos h1]
    rw [e]
    have b1 : (ckT st != 0) = false := by simp [h1]
    have b2 : (ckN xs != 0) = true := by simp [h2]
    clear hA hA' h0 h1 h2 e
    go_enter Try.func14, Try.ntmps14
    go_wp2_with fail
    refine C1.out.mono ?_
    rintro e w1 ⟨rfl, hb1⟩
    have HB := Lib.hid hb1
    clear hb1
    go_wp2_with fail
    refine (C2.out _ HB.out).mono ?_
    rintro e w2 ⟨rfl, rfl⟩
    go_wp2_with fail
    go_ret2
    exact ⟨none, 0, rfl, fun h => by simp at h, HB.out⟩
  · have e : rpE st xs = ckT st := by unfold rpE; rw [if_neg h1]
    rw [e]
    have b1 : (ckT st != 0) = true := by simp [h1]
    clear hA hA' h0 h1 e
    go_enter Try.func14, Try.ntmps14
    go_wp2_with fail
    refine C1.out.mono ?_
    rintro e w1 ⟨rfl, hb1⟩
    have HB := Lib.hid hb1
    clear hb1
    go_wp2_with fail
    go_ret2
    exact ⟨none, 0, rfl, fun h => by simp at h, HB.out⟩
/-- A slice of rows that was appended reads as its rows. -/
theorem ris_of {w : World} {B n : Nat} {v : Value} {xss : List (List Int)} {vs : List Value} (hown : w.ownsRow B 23 1 v n vs) (hn : xss.length = n) (hv : vs.length = n) (hcp : CpR w B xss vs) : ∃ A C, v = .slice A n C ∧ RIs .i64 w w.heap.size A xss := by
  obtain ⟨hl', h0 | ⟨g, cap', cur, rfl, hgb, hh, hnc, hm, hcs, htake⟩⟩ := hown
  · obtain ⟨rfl, hn0⟩ := h0
    exact ⟨none, 0, by rw [hn0], fun h => by omega⟩
  · refine ⟨_, _, rfl, fun _ => ⟨g, 0, rfl, heap_lt hh, fun r hr => ?_⟩⟩
    obtain ⟨Aq, Cq, h1, h2⟩ := hcp r (by omega)
    refine ⟨Aq, Cq, ?_, h2.is⟩
    have e : (cur.toList.take (n * 1))[r]? = vs[r]? := by rw [htake]
    rw [List.getElem?_take_of_lt (by omega), h1] at e
    rw [Nat.zero_add]
    simp only [World.cell?, hh]
    simpa using e
set_option maxHeartbeats 4000000 in
theorem rep14b (A A' : Option Addr) (cap cap' : Nat) (st : List (Int × Int)) (xs : List Int) (B : Nat) (w : World) (hB : B ≤ w.heap.size) (hA : Is .i64 w B A (flatS st)) (hA' : Is .i64 w B A' xs) (hl : st.length ≤ 1000000) (hl' : xs.length ≤ 1000000) (h0 : rpE st xs = 0) :
    Calls Try.prog 14 #[.slice A st.length cap, .slice A' xs.length cap'] w (RpQ w (rpE st xs) (rpL st xs)) := by
  rw [rpL_ok h0, h0]
  obtain ⟨h1, h2⟩ := rpE_ok.1 h0
  obtain ⟨⟨n0, n32⟩, hok⟩ := ckT_ok.1 h1
  obtain ⟨m64, mok⟩ := ckN_ok.1 h2
  have C1 := check20 A cap st B w hB hA hl
  have C2 := Lib.hid (fun W (h : Below w.heap.size w W) => sens31 A' cap' xs B W (hA'.below (h.mono hB)) hl')
  rw [h1] at C1
  rw [h2] at C2
  have C1 := Lib.hid C1
  have HA := Lib.hid hA
  have HA' := Lib.hid hA'
  obtain ⟨i0, hi0, hz0, hz1, hz2⟩ := info_parts int_info
  obtain ⟨i1, hj0, hy0, hy1, hy2⟩ := info_parts R_info
  clear hA hA' h0 h1 h2 hok mok
  go_enter Try.func14, Try.ntmps14
  go_wp2_with fail
  refine C1.out.mono ?_
  rintro e w1 ⟨rfl, hb1⟩
  have HB1 := Lib.hid hb1
  have s1 := hb1.size
  clear hb1
  go_wp2_with fail
  refine (C2.out _ HB1.out).mono ?_
  rintro e w2 ⟨rfl, rfl⟩
  go_wp2_with fail
  clear C1 C2
  go_loopw [8, 9] (fun v i wr => ∃ (k : Nat) (vs : List Value), k ≤ st.length ∧ i = .int .i64 k ∧ vs.length = k ∧ wr.ownsRow w.heap.size 23 1 v k vs ∧ CpR wr w.heap.size (rpR st xs) vs ∧ Below w.heap.size w wr) (fun _ i _ => st.length - (intOf i).toNat)
  case atStart => exact ⟨0, [], Nat.zero_le _, rfl, rfl, World.ownsRow_nil _ _ _ _, fun r h => by simp at h, HB1.out⟩
  case round =>
    clear HB1
    obtain ⟨k, vs, hk, rfl, hvl, hown, hcp, hb⟩ := hrel
    have HW := Lib.hid hown
    have HCp := Lib.hid hcp
    have HB := Lib.hid hb
    have Hvl := Lib.hid hvl
    have sB := hb.size
    clear hown hcp hb hvl
    by_cases hlt : k < st.length
    · obtain ⟨b, off, rfl, hbb, c1, c2⟩ := step_at (HA.out.below (HB.out.mono hB)) hlt
      have hkI : (k : Int) < (st.length : Int) := by omega
      have hk0 : (0 : Int) ≤ (k : Int) := by omega
      obtain ⟨l, hll⟩ : ∃ l, l = stl st k := ⟨_, rfl⟩
      obtain ⟨h, hhh⟩ : ∃ h, h = sth st k := ⟨_, rfl⟩
      rw [← hll] at c1
      rw [← hhh] at c2
      have HL := Lib.hid (And.intro hll hhh)
      clear hll hhh
      obtain ⟨X, hX⟩ : ∃ X : World, X = wr := ⟨_, rfl⟩
      subst hX
      have HC := Lib.hid (And.intro c1 c2)
      clear c1 c2
      go_wp2_with fail
      go_loopw [10, 11] (fun u i wx => ∃ q : Nat, q ≤ xs.length ∧ i = .int .i64 q ∧ Acc .i64 wx X.heap.size 3 1 u (rp xs l h q).length (rp xs l h q) ∧ Below X.heap.size X wx) (fun _ i _ => xs.length - (intOf i).toNat)
      case atStart => exact ⟨0, Nat.zero_le _, rfl, Acc.nil _ _ _ _ _, Below.refl _ _⟩
      case round =>
        obtain ⟨q, hq, rfl, hacc, hbx⟩ := hrel
        obtain ⟨A5, C5, rfl, own5⟩ := hacc.own
        have HAcc := Lib.hid hacc
        have HBX := Lib.hid hbx
        have sX := hbx.size
        by_cases hqlt : q < xs.length
        · obtain ⟨b', off', rfl, hbb', hc'⟩ := (HA'.out.below ((HB.out.trans (hbx.mono sB)).mono hB)) (by omega)
          have c5 := hc' q hqlt
          have c1 := (hbx.cell (p := ⟨b, off + k * 2, none⟩) (show b < _ by omega)).trans HC.out.1
          have c2 := (hbx.cell (p := ⟨b, off + k * 2 + 1, none⟩) (show b < _ by omega)).trans HC.out.2
          obtain ⟨s, hs⟩ : ∃ s, s = nth xs q := ⟨_, rfl⟩
          rw [← hs] at c5
          have HSS := Lib.hid hs
          have hrl := rp_len xs l h q
          have hqI : (q : Int) < (xs.length : Int) := by omega
          have hq0 : (0 : Int) ≤ (q : Int) := by omega
          clear hc' hs hacc hbx own5
          by_cases g1 : l < s
          · have d1 : decide (l < s) = true := decide_eq_true g1
            by_cases g2 : s ≤ h
            · have hst := Lib.hid (show rp xs l h (q + 1) = rp xs l h q ++ [(q : Int)] by rw [rp, if_pos (by rw [← HSS.out]; exact ⟨g1, g2⟩)])
              have d2 : decide (s ≤ h) = true := decide_eq_true g2
              go_wp2_with fail
              go_quiet (fail)
              obtain ⟨Y, hY⟩ : ∃ Y, Y = wr.drewN nq := ⟨_, rfl⟩
              have HY := Lib.hid (show Acc .i64 Y X.heap.size 3 1 (.slice A5 (rp xs l h q).length C5) (rp xs l h q).length (rp xs l h q) ∧ Below X.heap.size X Y by rw [hY]; exact ⟨HAcc.out.drewN nq, below_drewN HBX.out nq⟩)
              have sY : X.heap.size ≤ Y.heap.size := HY.out.2.size
              rw [← hY]
              clear hY c1 c2 c5 d1 d2
              go_wp2_with (at_builtin; refine wpList_app rfl _ _ 23 rfl .i64 X.heap.size 3 i0 _ 1 8 Try.underlying23 hi0 hz0 hz1 hz2 rfl (by decide) _ _ _ [(q : Int)] rfl HY.out.1 _ rfl rfl rfl (by omega) (by decide) sY ?_; intro v' w5 hown5 hb5)
              exact ⟨⟨q + 1, by omega, by go_num, by rw [hst.out, List.length_append]; exact hown5, HY.out.2.trans hb5⟩, by simp [intOf]; omega⟩
            · have hst := Lib.hid (show rp xs l h (q + 1) = rp xs l h q by rw [rp, if_neg (by rw [← HSS.out]; exact fun e => g2 e.2)])
              have d2 : decide (s ≤ h) = false := decide_eq_false g2
              go_wp2_with fail
              go_quiet (fail)
              go_wp2_with fail
              exact ⟨⟨q + 1, by omega, by go_num, by rw [hst.out]; exact HAcc.out.drewN _, below_drewN HBX.out _⟩, by simp [intOf]; omega⟩
          · have hst := Lib.hid (show rp xs l h (q + 1) = rp xs l h q by rw [rp, if_neg (by rw [← HSS.out]; exact fun e => g1 e.1)])
            have d1 : decide (l < s) = false := decide_eq_false g1
            go_wp2_with fail
            go_quiet (fail)
            go_wp2_with fail
            exact ⟨⟨q + 1, by omega, by go_num, by rw [hst.out]; exact HAcc.out.drewN _, below_drewN HBX.out _⟩, by simp [intOf]; omega⟩
        · obtain rfl : q = xs.length := by omega
          have hrow : row (rpR st xs) k = rp xs l h xs.length := by rw [rpR_row hlt, ← HL.out.1, ← HL.out.2]
          have HRow := Lib.hid hrow
          have HW1 := Lib.hid (ownsRow_below HW.out hbx)
          have HO1 := Lib.hid (show Own .i64 wr w.heap.size A5 3 (rp xs l h xs.length) from fun h0 => by
            obtain ⟨g, cs, e1, e2, e3, e4⟩ := own5 h0
            exact ⟨g, cs, e1, by omega, e3, e4⟩)
          have hbs : w.heap.size ≤ wr.heap.size := by omega
          clear hacc own5 hrow hbx
          go_wp2_with (at_builtin; refine wpList_appV rfl _ _ 28 rfl w.heap.size 23 i1 _ 24 Try.underlying28 hj0 hy0 hy1 hy2 rfl _ _ _ (.slice A5 (rp xs l h xs.length).length C5) rfl rfl HW1.out _ rfl rfl (by omega) (by decide) hbs ?_; intro v' w2 hown2 hg2 hb2)
          refine ⟨⟨k + 1, vs ++ [.slice A5 (rp xs l h xs.length).length C5], by omega, by go_num, by simp [Hvl.out], hown2, fun r hr => ?_, (HB.out.trans (HBX.out.mono sB)).trans hb2⟩, by simp [intOf]; omega⟩
          have hv := Hvl.out
          rcases Nat.lt_or_ge r k with g | g
          · obtain ⟨Aq, Cq, h1, h2⟩ := HCp.out r (by omega)
            exact ⟨Aq, Cq, by rw [List.getElem?_append_left (by omega)]; exact h1, (h2.below HBX.out).grown (by decide) HW1.out hg2⟩
          · obtain rfl : r = k := by simp at hr; omega
            rw [HRow.out]
            exact ⟨A5, C5, by rw [List.getElem?_append_right (by omega), hv]; simp, HO1.out.grown (by decide) HW1.out hg2⟩
    · obtain rfl : k = st.length := by omega
      obtain ⟨A9, C9, rfl, hR⟩ := ris_of HW.out (rpR_len st xs) Hvl.out HCp.out
      have HR := Lib.hid hR
      clear hR
      go_wp2_with fail
      go_ret2
      exact ⟨A9, C9, by rw [rpR_len]; rfl, HR.out, HB.out⟩
theorem rep14 (A A' : Option Addr) (cap cap' : Nat) (st : List (Int × Int)) (xs : List Int) (B : Nat) (w : World) (hB : B ≤ w.heap.size) (hA : Is .i64 w B A (flatS st)) (hA' : Is .i64 w B A' xs) (hl : st.length ≤ 1000000) (hl' : xs.length ≤ 1000000) :
    Calls Try.prog 14 #[.slice A st.length cap, .slice A' xs.length cap'] w (RpQ w (rpE st xs) (rpL st xs)) := by
  by_cases h0 : rpE st xs = 0
  · exact rep14b A A' cap cap' st xs B w hB hA hA' hl hl' h0
  · exact rep14a A A' cap cap' st xs B w hB hA hA' hl hl' h0
theorem rpL_len (st : List (Int × Int)) (xs : List Int) : (rpL st xs).length ≤ 32 := by
  by_cases h : rpE st xs = 0
  · rw [rpL_ok h, rpR_len]
    exact (ckT_ok.1 (rpE_ok.1 h).1).1.2
  · rw [rpL_bad h]; simp
theorem rpL_row64 (st : List (Int × Int)) (xs : List Int) (k : Nat) : (row (rpL st xs) k).length ≤ 64 := by
  by_cases h : rpE st xs = 0
  · have := rpL_row st xs k
    have := (ckN_ok.1 (rpE_ok.1 h).2).1
    omega
  · rw [rpL_bad h]; simp [row]
def wsV (st : List (Int × Int)) (xs : List Int) : Int := wsM (rpL st xs) (rpL st xs).length

set_option maxHeartbeats 2000000 in
theorem worst15 (A A' : Option Addr) (cap cap' : Nat) (st : List (Int × Int)) (xs : List Int) (B : Nat) (w : World) (hB : B ≤ w.heap.size) (hA : Is .i64 w B A (flatS st)) (hA' : Is .i64 w B A' xs) (hl : st.length ≤ 1000000) (hl' : xs.length ≤ 1000000) :
    Calls Try.prog 15 #[.slice A st.length cap, .slice A' xs.length cap'] w fun e w' => e = .returned (.tuple #[.int .i64 (wsV st xs), .int .i64 (rpE st xs)]) ∧ Below w.heap.size w w' := by
  have C := Lib.hid (rep13 A A' cap cap' st xs B w hB hA hA' hl hl')
  have h32 := rpL_len st xs
  have H64 := Lib.hid (rpL_row64 st xs)
  have HV := Lib.hid (show wsV st xs = wsM (rpL st xs) (rpL st xs).length from rfl)
  clear hA hA'
  go_enter Try.func15, Try.ntmps15
  go_wp2_with fail
  refine C.out.mono ?_
  rintro e w1 ⟨A1, C1, rfl, ho, hb1⟩
  have HR := Lib.hid (ho.ris)
  have HB := Lib.hid hb1
  clear ho hb1 C
  go_wp2_with fail
  go_loop [4, 17] (fun n i => ∃ k : Nat, k ≤ (rpL st xs).length ∧ i = .int .i64 k ∧ n = .int .i64 (wsM (rpL st xs) k)) (fun _ i => (rpL st xs).length - (intOf i).toNat)
  case atStart => exact ⟨0, Nat.zero_le _, rfl, rfl⟩
  case round =>
    obtain ⟨k, hk, rfl, rfl⟩ := hrel
    by_cases hlt : k < (rpL st xs).length
    · obtain ⟨b, off, Ar, Cr, rfl, hbb, c1, -⟩ := HR.out.at_ hlt
      have hkI : (k : Int) < ((rpL st xs).length : Int) := by omega
      have hk0 : (0 : Int) ≤ (k : Int) := by omega
      have h6 := H64.out k
      have hst := Lib.hid (show wsM (rpL st xs) (k + 1) = max (wsM (rpL st xs) k) ((row (rpL st xs) k).length : Int) from rfl)
      go_wp2_with fail
      exact ⟨⟨k + 1, by omega, by go_num, by rw [hst.out]⟩, by simp [intOf]; omega⟩
    · obtain rfl : k = (rpL st xs).length := by omega
      go_wp2_with fail
      go_ret2
      exact ⟨by rw [HV.out]; rfl, HB.out⟩

set_option maxHeartbeats 2000000 in
theorem worst16 (A A' : Option Addr) (cap cap' : Nat) (st : List (Int × Int)) (xs : List Int) (B : Nat) (w : World) (hB : B ≤ w.heap.size) (hA : Is .i64 w B A (flatS st)) (hA' : Is .i64 w B A' xs) (hl : st.length ≤ 1000000) (hl' : xs.length ≤ 1000000) :
    Calls Try.prog 16 #[.slice A st.length cap, .slice A' xs.length cap'] w fun e w' => e = .returned (.tuple #[.int .i64 (wsV st xs), .int .i64 (rpE st xs)]) ∧ Below w.heap.size w w' := by
  have C := Lib.hid (rep14 A A' cap cap' st xs B w hB hA hA' hl hl')
  have h32 := rpL_len st xs
  have H64 := Lib.hid (rpL_row64 st xs)
  have HV := Lib.hid (show wsV st xs = wsM (rpL st xs) (rpL st xs).length from rfl)
  clear hA hA'
  go_enter Try.func16, Try.ntmps16
  go_wp2_with fail
  refine C.out.mono ?_
  rintro e w1 ⟨A1, C1, rfl, ho, hb1⟩
  have HR := Lib.hid (ho)
  have HB := Lib.hid hb1
  clear ho hb1 C
  go_wp2_with fail
  go_loop [8, 9] (fun n i => ∃ k : Nat, k ≤ (rpL st xs).length ∧ i = .int .i64 k ∧ n = .int .i64 (wsM (rpL st xs) k)) (fun _ i => (rpL st xs).length - (intOf i).toNat)
  case atStart => exact ⟨0, Nat.zero_le _, rfl, rfl⟩
  case round =>
    obtain ⟨k, hk, rfl, rfl⟩ := hrel
    by_cases hlt : k < (rpL st xs).length
    · obtain ⟨b, off, Ar, Cr, rfl, hbb, c1, -⟩ := HR.out.at_ hlt
      have hkI : (k : Int) < ((rpL st xs).length : Int) := by omega
      have hk0 : (0 : Int) ≤ (k : Int) := by omega
      have h6 := H64.out k
      have hst := Lib.hid (show wsM (rpL st xs) (k + 1) = max (wsM (rpL st xs) k) ((row (rpL st xs) k).length : Int) from rfl)
      go_wp2_with fail
      exact ⟨⟨k + 1, by omega, by go_num, by rw [hst.out]⟩, by simp [intOf]; omega⟩
    · obtain rfl : k = (rpL st xs).length := by omega
      go_wp2_with fail
      go_ret2
      exact ⟨by rw [HV.out]; rfl, HB.out⟩
end Go.Proofs.Ytlbchidgadcmpaa
