/- product of the reference of package geometry: the walk. -/
import Derived.Test.YtdflamblbhpngaaRows
import Derived.WalkKit
import Derived.WalkLawsBesides
import Derived.WalkSpells
import Derived.ProofKit
import Derived.Below
import Derived.Outline
import Derived.Lib.Hide
import Derived.Deep.RegionWith
import Derived.Deep.RegionHeld3
import Derived.Deep.DrawnRows
import Derived.StillTailTactics
import Derived.BigQuiet
import Derived.Deep.QuietTactic
import Derived.Deep.LoopGhost
import Derived.IntWalk
import Derived.Test.YtdflamblbhpngaaGeR
namespace Go.Proofs.Ytdflamblbhpngaa
open Go.RowKit
attribute [local go_sem ↓] Go.wp_at_zero Go.wp_at_succ
attribute [local go_sem] wrap_lit

theorem nth_take (l : List Int) (n j : Nat) (h : j < n) : nth (l.take n) j = nth l j := by
  simp [nth, List.getD_eq_getElem?_getD, h]
def slen : Value → Nat
  | .slice _ n _ => n
  | _ => 0
theorem OutB.made (w : World) (n : Nat) : OutB (w.alloc (.cells (madeCells #[.int .i64 0] n) 3)) w.heap.size 3 (List.replicate n 0) :=
  ⟨_, heap_alloc_new _ _, by rw [size_madeCells]; simp, fun j hj => by
    simp at hj
    rw [nth_zero]
    simp [madeCells, hj, Nat.mod_one]⟩

set_option maxHeartbeats 4000000 in
theorem prod50 (a b : Int) (w : World) (a0 : 0 ≤ a) (a1 : a ≤ 10000000000000) (b0 : 0 ≤ b) (b1 : b ≤ 10000000000000) : Calls Try.prog 50 #[.int .i64 a, .int .i64 b] w fun e w' => ∃ A cap l, e = .returned (.slice A l.length cap) ∧ canD l ∧ bval l = a * b ∧ l.length ≤ 8 ∧ Is .i64 w' w'.heap.size A l ∧ Below w.heap.size w w' := by
  obtain ⟨i0, hi0, hz0, hz1, hz2⟩ := info_parts int_info
  go_enter Try.func50, Try.ntmps50
  go_wp2_with fail
  refine (digits52 a _ a0 a1).mono ?_
  rintro e w1 ⟨A, cap, xs, rfl, cx, vx, lx, ox, hb1⟩
  have CX := Lib.hid cx
  have VX := Lib.hid vx
  clear cx vx
  go_wp2_with fail
  refine (digits52 b _ b0 b1).mono ?_
  rintro e w2 ⟨A', cap', ys, rfl, cy, vy, ly, oy, hb2⟩
  have CY := Lib.hid cy
  have VY := Lib.hid vy
  clear cy vy
  have hmk : ∀ W : World, (Instr.makeSlice 61 (.int .i64 ((xs.length : Int) + (ys.length : Int) + 1)) (.int .i64 ((xs.length : Int) + (ys.length : Int) + 1))).run Try.prog W = .ok (.slice (some ⟨W.heap.size, 0, none⟩) (xs.length + ys.length + 1) (xs.length + ys.length + 1)) (W.alloc (.cells (madeCells #[.int .i64 0] (xs.length + ys.length + 1)) 3)) := fun W => by
    have h := run_makeN (P := Try.prog) 61 3 i0 _ Try.underlying61 hi0 hz0 (xs.length + ys.length + 1) (by omega) (by omega) W
    rw [hz1, Nat.mul_one] at h
    simpa [Value.cells] using h
  have hx1 := ox.is.below hb2
  have hy1 := oy.is
  clear ox oy
  go_wp2_with fail
  clear hmk hi0 hz0 hz1 hz2
  have hO := OutB.made w2 (xs.length + ys.length + 1)
  have BW : Below w2.heap.size w2 (w2.alloc (.cells (madeCells #[.int .i64 0] (xs.length + ys.length + 1)) 3)) := (Below.refl _ _).alloc (Nat.le_refl _) _
  have Bw2 : Below w.heap.size w w2 := hb1.trans (hb2.mono hb1.size)
  have hs1 := hb1.size
  have hs2 := hb2.size
  clear hb1 hb2
  go_loopw [8, 9] (fun i k wr => ∃ (m : Nat) (l : List Int), m ≤ xs.length ∧ i = .int .i64 m ∧ PInv xs ys l m 0 ∧ OutB wr w2.heap.size 3 l ∧ Below w2.heap.size w2 wr) (fun i _ _ => xs.length - (intOf i).toNat)
  case atStart => exact ⟨0, _, Nat.zero_le _, rfl, PInv.start xs ys, hO, BW⟩
  case round =>
    obtain ⟨m, l, hm, rfl, hP, hO, hB⟩ := hrel
    by_cases hlt : m < xs.length
    · have hmI : (m : Int) < (xs.length : Int) := by omega
      have HP := Lib.hid hP
      have HO := Lib.hid hO
      clear hP hO
      go_wp2_with fail
      obtain ⟨wo, rfl⟩ : ∃ wo : World, wo = wr := ⟨_, rfl⟩
      go_loopw [9] (fun k wr => ∃ (n : Nat) (l : List Int), n ≤ ys.length ∧ k = .int .i64 n ∧ PInv xs ys l m n ∧ OutB wr w2.heap.size 3 l ∧ Below w2.heap.size w2 wr) (fun k _ => ys.length - (intOf k).toNat)
      case atStart => exact ⟨0, l, Nat.zero_le _, rfl, HP.out, HO.out, hB⟩
      case round =>
        obtain ⟨n, l', hn, rfl, hP, hO, hB⟩ := hrel
        by_cases hlt' : n < ys.length
        · obtain ⟨g1, o1, rfl, hg1, hc1⟩ := hx1 (by omega)
          obtain ⟨g2, o2, rfl, hg2, hc2⟩ := hy1 (by omega)
          have x1 := (hB.cell (p := ⟨g1, o1 + m, none⟩) (by show g1 < _; omega)).trans (hc1 m hlt)
          have x2 := (hB.cell (p := ⟨g2, o2 + n, none⟩) (by show g2 < _; omega)).trans (hc2 n hlt')
          have hlen := hP.1
          have x3 := hO.cell (j := m + n) (by omega)
          have x4 := hO.frozen (m + n)
          have hnI : (n : Int) < (ys.length : Int) := by omega
          have hm0 : (0 : Int) ≤ (m : Int) := by omega
          have hn0 : (0 : Int) ≤ (n : Int) := by omega
          have hmn : (m : Int) + (n : Int) < (xs.length : Int) + (ys.length : Int) + 1 := by omega
          have dx := digL_nth CX.out.1 hlt
          have dy := digL_nth CY.out.1 hlt'
          have p0 : 0 ≤ nth xs m * nth ys n := Int.mul_nonneg dx.1 dy.1
          have p1' : nth xs m * nth ys n ≤ 1000000 * 1000000 := Int.mul_le_mul (by omega) (by omega) dy.1 (by omega)
          have p1 : nth xs m * nth ys n ≤ 1000000000000 := by omega
          clear p1'
          have pe := hP.2.1 (m + n) (by omega)
          rw [if_neg (by omega)] at pe
          have pe2 : nth l' (m + n) ≤ 3000000000000 := by omega
          have pe1 := pe.1
          have q1 : IntKind.i64.wrap (nth xs m * nth ys n) = nth xs m * nth ys n := IntWalk.i64_in _ (by omega)
          have q2 : IntKind.i64.wrap (nth l' (m + n) + nth xs m * nth ys n) = nth l' (m + n) + nth xs m * nth ys n := IntWalk.i64_in _ (by omega)
          have HP' := Lib.hid (hP.step hlt hlt' CX.out.1 CY.out.1)
          have HO' := Lib.hid (hO.set (m + n) (nth l' (m + n) + nth xs m * nth ys n) (by omega))
          have HB' := Lib.hid hB
          have Hlen := Lib.hid hlen
          clear hc1 hc2 hP hO hB pe hlen hx1 hy1
          go_wp2_with fail
          go_region
          go_wp2_with fail
          exact ⟨⟨n + 1, _, by omega, by go_num, HP'.out, HO'.out.drew, (HB'.out.setCell (p := ⟨w2.heap.size, m + n, none⟩) (Nat.le_refl _) _).drew⟩, by simp [intOf]; omega⟩
        · obtain rfl : n = ys.length := by omega
          have HP' := Lib.hid (hP.row hlt)
          have HO' := Lib.hid hO
          clear hP hO
          go_wp2_with fail
          exact ⟨⟨m + 1, l', by omega, by go_num, HP'.out, HO'.out, hB⟩, by simp [intOf]; omega⟩
    · obtain rfl : m = xs.length := by omega
      have HC := Lib.hid (hP.carry (by omega))
      have HO := Lib.hid hO
      have HB := Lib.hid hB
      clear hP hO hB
      go_wp2_with fail
      obtain ⟨wo, rfl⟩ : ∃ wo : World, wo = wr := ⟨_, rfl⟩
      go_loopw [10] (fun k wr => ∃ (c : Nat) (l : List Int), c ≤ xs.length + ys.length ∧ k = .int .i64 c ∧ CInv l (bval xs * bval ys) (xs.length + ys.length + 1) c ∧ OutB wr w2.heap.size 3 l ∧ Below w2.heap.size w2 wr) (fun k _ => xs.length + ys.length - (intOf k).toNat)
      case atStart => exact ⟨0, l, Nat.zero_le _, rfl, HC.out, HO.out, HB.out⟩
      case round =>
        obtain ⟨c, l', hcN, rfl, hC, hO, hB⟩ := hrel
        by_cases hlt' : c < xs.length + ys.length
        · have hlen := hC.1
          have x1 := hO.cell (j := c + 1) (by omega)
          have x2 := hO.cell (j := c) (by omega)
          have x3 := hO.frozen (c + 1)
          have x4 := hO.frozen c
          have d1 := hC.2.2.2.2 (c + 1) (by omega) (by omega)
          have d0 := hC.2.2.2.1 (by omega)
          have hcI : (c : Int) + 1 < (xs.length : Int) + (ys.length : Int) + 1 := by omega
          have hcI0 : (c : Int) < (xs.length : Int) + (ys.length : Int) + 1 := by omega
          have hc0 : (0 : Int) ≤ (c : Int) := by omega
          have hc1 : (0 : Int) ≤ (c : Int) + 1 := by omega
          have e11 := d1.1
          have e12 := d1.2
          have e01 := d0.1
          have e02 := d0.2
          have q0 : (nth l' c).tdiv 1000000 = nth l' c / 1000000 := Int.tdiv_eq_ediv_of_nonneg e01
          have q2 : (nth l' c).tmod 1000000 = nth l' c % 1000000 := Int.tmod_eq_emod_of_nonneg e01
          have q1 : IntKind.i64.wrap (nth l' (c + 1) + nth l' c / 1000000) = nth l' (c + 1) + nth l' c / 1000000 := IntWalk.i64_in _ (by omega)
          have HS := Lib.hid (hC.step (by omega))
          have HO1 := hO.set (c + 1) (nth l' (c + 1) + nth l' c / 1000000) (by omega)
          have x5 := HO1.cell (j := c) (by simp; omega)
          rw [nth_set _ _ _ _ (by omega), if_neg (by omega)] at x5
          have HO2 := Lib.hid (HO1.set c (nth l' c % 1000000) (by simp; omega))
          have HO1' := Lib.hid HO1
          have HB' := Lib.hid ((hB.setCell (p := ⟨w2.heap.size, c + 1, none⟩) (Nat.le_refl _) (.int .i64 (nth l' (c + 1) + nth l' c / 1000000))))
          clear hC hO hB hlen HO1 d0 d1
          go_wp2_with fail
          go_region
          go_wp2_with fail
          exact ⟨⟨c + 1, _, by omega, by go_num, HS.out, HO2.out.drew, (HB'.out.setCell (p := ⟨w2.heap.size, c, none⟩) (Nat.le_refl _) _).drew⟩, by simp [intOf]; omega⟩
        · obtain rfl : c = xs.length + ys.length := by omega
          have hlen := hC.1
          have hD := Lib.hid (hC.fin (prod_lt xs ys CX.out.1 CY.out.1))
          have hV := Lib.hid hC.2.1
          have HO := Lib.hid hO
          have HB := Lib.hid hB
          clear hC hO hB
          go_wp2_with fail
          obtain ⟨wo', rfl⟩ : ∃ wo : World, wo = wr := ⟨_, rfl⟩
          go_loopw [7] (fun v wr => ∃ n : Nat, n ≤ l'.length ∧ v = .slice (some ⟨w2.heap.size, 0, none⟩) n (xs.length + ys.length + 1) ∧ bval (l'.take n) = bval xs * bval ys ∧ OutB wr w2.heap.size 3 l' ∧ Below w2.heap.size w2 wr) (fun v _ => slen v)
          case atStart => exact ⟨l'.length, Nat.le_refl _, by rw [hlen], by rw [List.take_length]; exact hV.out, HO.out, HB.out⟩
          case round =>
            obtain ⟨n, hn, rfl, hv, hO, hB⟩ := hrel
            by_cases hn0 : 0 < n
            · obtain ⟨j, rfl⟩ : ∃ j, n = j + 1 := ⟨n - 1, by omega⟩
              have e3 : (((j + 1 : Nat) : Int) - 1) = (j : Int) := by omega
              have x1 := hO.cell (j := j) (by omega)
              have hj0 : (0 : Int) ≤ (j : Int) := by omega
              by_cases hz : nth l' j = 0
              · have hv' : bval (l'.take j) = bval xs * bval ys := by rw [← hv, bval_take_succ _ _ (by omega), hz]; simp
                have HV := Lib.hid hv'
                have HO := Lib.hid hO
                have HB := Lib.hid hB
                clear hv hO hB hv'
                rw [hz] at x1
                clear hz
                go_wp2_with fail
                exact ⟨⟨j, by omega, rfl, HV.out, HO.out, HB.out⟩, Nat.lt_succ_self j⟩
              · have HV := Lib.hid hv
                have HO := Lib.hid hO
                have HB := Lib.hid hB
                clear hv hO hB
                have HZ := Lib.hid hz
                have hzb : (nth l' j == 0) = false := by simp [hz]
                clear hz
                go_wp2_with fail
                go_ret
                refine ⟨some ⟨w2.heap.size, 0, none⟩, xs.length + ys.length + 1, l'.take (j + 1), by rw [List.length_take, Nat.min_eq_left (by omega)]; rfl, ⟨digL_take hD.out _, fun _ => ?_⟩, by rw [HV.out, VX.out, VY.out], by rw [List.length_take]; omega, HO.out.is _ hn, Bw2.trans (HB.out.mono (by omega))⟩
                have hl : (l'.take (j + 1)).length - 1 = j := by rw [List.length_take]; omega
                rw [hl, nth_take _ _ _ (by omega)]
                exact HZ.out
            · obtain rfl : n = 0 := by omega
              have HV := Lib.hid hv
              have HO := Lib.hid hO
              have HB := Lib.hid hB
              clear hv hO hB
              go_wp2_with fail
              go_ret
              exact ⟨_, _, l'.take 0, rfl, ⟨digL_take hD.out _, fun h => by simp at h⟩, by rw [HV.out, VX.out, VY.out], by simp, HO.out.is _ hn, Bw2.trans (HB.out.mono (by omega))⟩
end Go.Proofs.Ytdflamblbhpngaa
