/- The laws of chapter 13: once. -/
import Derived.Test.YtlbchidgadcmpaaRows
import Derived.WalkKit
import Derived.WalkLawsBesides
import Derived.WalkSpells
import Derived.ProofKit
import Derived.Below
import Derived.Outline
import Derived.Lib.Hide
import Derived.Deep.RegionWith
import Derived.Deep.RegionHeld3
import Derived.Deep.DrawnRows
import Derived.StillTailTactics
import Derived.BigQuiet
import Derived.Deep.QuietTactic
import Derived.Deep.LoopGhost
import Derived.IntWalk
import Derived.Test.YtlbchidgadcmpaaWhO
import Derived.Test.YtlbchidgadcmpaaWhR
namespace Go.Proofs.Ytlbchidgadcmpaa
open Go.RowKit
attribute [local go_sem ↓] Go.wp_at_zero Go.wp_at_succ
attribute [local go_sem] wrap_lit

def cL (n : Nat) (f : Nat → Nat) : List Int := (List.range n).map fun j => (f j : Int)
theorem cL_len (n : Nat) (f : Nat → Nat) : (cL n f).length = n := by unfold cL; rw [List.length_map, List.length_range]
theorem cL_nth (n : Nat) (f : Nat → Nat) (s : Nat) (h : s < n) : nth (cL n f) s = (f s : Int) := nth_map_range _ _ _ h
theorem cL_zero (n : Nat) : cL n (fun _ => 0) = List.replicate n 0 := by
  apply nth_ext (by rw [cL_len, List.length_replicate])
  intro j hj
  rw [cL_len] at hj
  rw [cL_nth _ _ _ hj, nth_zero]; rfl
theorem cL_set (n : Nat) (f f' : Nat → Nat) (x : Nat) (h : x < n) (hf : ∀ j, f' j = f j + if j = x then 1 else 0) : cL n f' = (cL n f).set x ((f x : Int) + 1) := by
  apply nth_ext (by rw [cL_len, List.length_set, cL_len])
  intro j hj
  rw [cL_len] at hj
  rw [cL_nth _ _ _ hj, nth_set _ _ _ _ (by rw [cL_len]; exact h), cL_nth _ _ _ hj, hf j]
  by_cases e : j = x
  · rw [if_pos e, if_pos e, e]; push_cast; rfl
  · rw [if_neg e, if_neg e, Nat.add_zero]
/-- How often j is among the first i rows and q entries of the next. -/
def cf (rows : List (List Int)) (i q : Nat) (j : Nat) : Nat := ct rows (j : Int) i + ((row rows i).take q).count (j : Int)
theorem cf_step {rows : List (List Int)} {i q z : Nat} (hq : q < (row rows i).length) (hz : nth (row rows i) q = (z : Int)) (j : Nat) : cf rows i (q + 1) j = cf rows i q j + if j = z then 1 else 0 := by
  unfold cf
  rw [take_nth _ _ hq, List.count_append, hz]
  by_cases e : j = z
  · subst e; rw [if_pos rfl]; simp; omega
  · have hne : ¬ ((z : Int) = (j : Int)) := by omega
    rw [if_neg e]; simp [hne]
theorem cf_row (rows : List (List Int)) (i j : Nat) : cf rows i (row rows i).length j = cf rows (i + 1) 0 j := by
  unfold cf
  rw [List.take_length, List.take_zero]
  rfl
theorem cf_le (rows : List (List Int)) (i q j : Nat) (h : ∀ k, (row rows k).length ≤ 64) (hi : i ≤ 32) : cf rows i q j ≤ 3000 := by
  have h1 := ct_le rows (j : Int) 64 h i
  have h2 := List.count_le_length (a := (j : Int)) (l := (row rows i).take q)
  have h3 := List.length_take_le' q (row rows i)
  have h4 := h i
  have h5 : i * 64 ≤ 32 * 64 := Nat.mul_le_mul_right 64 hi
  unfold cf
  omega
theorem once27a (A A' : Option Addr) (cap cap' : Nat) (st : List (Int × Int)) (xs : List Int) (B : Nat) (w : World) (hB : B ≤ w.heap.size) (hA : Is .i64 w B A (flatS st)) (hA' : Is .i64 w B A' xs) (hl : st.length ≤ 1000000) (hl' : xs.length ≤ 1000000) (h0 : ckT st = 0) (hn : ¬ ckN xs = 0) :
    Calls Try.prog 27 #[.slice A st.length cap, .slice A' xs.length cap'] w fun e w' => e = .returned (.bool true) ∧ Below w.heap.size w w' := by
  have hr : rpE st xs = ckN xs := by unfold rpE; rw [if_pos h0]
  have C := rep13 A A' cap cap' st xs B w hB hA hA' hl hl'
  rw [rpL_bad (by rw [hr]; exact hn), hr] at C
  have C := Lib.hid C
  have C2 := Lib.hid (fun W (h : Below w.heap.size w W) => sens31 A' cap' xs B W (hA'.below (h.mono hB)) hl')
  have b1 : (ckN xs != 0) = true := by simp [hn]
  clear hA hA' h0 hn hr
  go_enter Try.func27, Try.ntmps27
  go_wp2_with fail
  refine C.out.mono ?_
  rintro e w1 ⟨A1, C1, rfl, -, hb1⟩
  have HB := Lib.hid hb1
  clear hb1
  go_wp2_with fail
  refine (C2.out _ HB.out).mono ?_
  rintro e w2 ⟨rfl, rfl⟩
  go_wp2_with fail
  go_ret
  exact ⟨rfl, HB.out⟩
set_option maxRecDepth 100000 in
set_option maxHeartbeats 8000000 in
theorem once27b (A A' : Option Addr) (cap cap' : Nat) (st : List (Int × Int)) (xs : List Int) (B : Nat) (w : World) (hB : B ≤ w.heap.size) (hA : Is .i64 w B A (flatS st)) (hA' : Is .i64 w B A' xs) (hl : st.length ≤ 1000000) (hl' : xs.length ≤ 1000000) (h0 : ckT st = 0) (hn : ckN xs = 0) (hT : tlK st 255 = true) :
    Calls Try.prog 27 #[.slice A st.length cap, .slice A' xs.length cap'] w fun e w' => e = .returned (.bool true) ∧ Below w.heap.size w w' := by
  have hr : rpE st xs = 0 := rpE_ok.2 ⟨h0, hn⟩
  have C := rep13 A A' cap cap' st xs B w hB hA hA' hl hl'
  rw [rpL_ok hr, hr] at C
  have C := Lib.hid C
  obtain ⟨⟨n0, n32⟩, hok⟩ := ckT_ok.1 h0
  obtain ⟨m64, mok⟩ := ckN_ok.1 hn
  have H64 := Lib.hid (show ∀ k, (row (rpR st xs) k).length ≤ 64 from fun k => by rw [← rpL_ok hr]; exact rpL_row64 st xs k)
  have HRg := Lib.hid (show ∀ i, i < st.length → ∀ q, q < (row (rpR st xs) i).length → 0 ≤ nth (row (rpR st xs) i) q ∧ nth (row (rpR st xs) i) q < xs.length from fun i hi q hq => by
    rw [rpR_row hi] at hq ⊢
    exact rp_range xs _ _ xs.length _ (by unfold nth; rw [List.getD_eq_getElem?_getD, List.getElem?_eq_getElem hq]; exact List.getElem_mem hq))
  have HOne := Lib.hid (fun j (hj : j < xs.length) => ct_one hT mok hj)
  have HAt := Lib.hid (fun n (hn : n ≤ st.length) => (atN_inv hok hT n hn))
  have HEnd := Lib.hid (atN_end hok hT)
  have HA := Lib.hid hA
  have HA' := Lib.hid hA'
  have hrl := rpR_len st xs
  obtain ⟨rows, hrows⟩ : ∃ rows, rows = rpR st xs := ⟨_, rfl⟩
  rw [← hrows] at C H64 HRg HOne hrl
  have HrL := Lib.hid hrl
  obtain ⟨i1, hj0, hy0, hy1, hy2⟩ := info_parts int_info
  have hmk : ∀ W : World, (Instr.makeSlice 23 (.int .i64 (xs.length : Int)) (.int .i64 (xs.length : Int))).run Try.prog W = .ok (.slice (some ⟨W.heap.size, 0, none⟩) xs.length xs.length) (W.alloc (.cells (madeCells #[.int .i64 0] xs.length) 3)) := fun W => by
    have h := run_makeN (P := Try.prog) 23 3 i1 _ Try.underlying23 hj0 hy0 xs.length (by omega) (by omega) W
    rw [hy1, Nat.mul_one] at h
    simpa [Value.cells] using h
  have r32 : rows.length ≤ 32 := by omega
  clear hA hA' h0 hn hr hok mok hT hrows hrl hj0 hy0 hy1 hy2
  go_enter Try.func27, Try.ntmps27
  go_wp2_with fail
  refine C.out.mono ?_
  rintro e w1 ⟨A1, C1, rfl, ro, hb1⟩
  have s1 := hb1.size
  have HR := Lib.hid ro.ris
  have HB1 := Lib.hid hb1
  clear ro hb1 C
  go_wp2_with fail
  clear hmk
  obtain ⟨g, hg⟩ : ∃ g, g = w1.heap.size := ⟨_, rfl⟩
  have O0 := OutB.made w1 xs.length
  rw [← cL_zero] at O0
  have ecf : (fun _ => 0 : Nat → Nat) = cf rows 0 0 := by funext j; simp [cf, ct]
  rw [ecf] at O0
  have B0 : Below w1.heap.size w1 (w1.alloc (.cells (madeCells #[.int .i64 0] xs.length) 3)) := (Below.refl _ _).alloc (Nat.le_refl _) _
  have HI := Lib.hid (show OutB (w1.alloc (.cells (madeCells #[.int .i64 0] xs.length) 3)) g 3 (cL xs.length (cf rows 0 0)) ∧ Below g w1 (w1.alloc (.cells (madeCells #[.int .i64 0] xs.length) 3)) from ⟨by rw [hg]; exact O0, by rw [hg]; exact B0⟩)
  have hg1 : w1.heap.size ≤ g := by omega
  have hg2 : g ≤ w1.heap.size := by omega
  rw [← hg]
  clear hg O0 B0 ecf
  go_loopw [4, 8] (fun r i wr => ∃ k : Nat, k ≤ rows.length ∧ i = .int .i64 k ∧ r = .bool false ∧ OutB wr g 3 (cL xs.length (cf rows k 0)) ∧ Below g w1 wr) (fun _ i _ => rows.length - (intOf i).toNat)
  case atStart => exact ⟨0, Nat.zero_le _, rfl, rfl, HI.out⟩
  case round =>
    clear HI
    obtain ⟨k, hk, rfl, rfl, hO, hb⟩ := hrel
    have HO := Lib.hid hO
    have HB := Lib.hid hb
    clear hO
    by_cases hlt : k < rows.length
    · obtain ⟨b, off, Ar, Cr, rfl, hbb, c1, i1⟩ := (HR.out.below (hb.mono hg1)).at_ hlt
      have hkI : (k : Int) < (rows.length : Int) := by omega
      have hk0 : (0 : Int) ≤ (k : Int) := by omega
      have h64 := H64.out k
      have HC := Lib.hid (show ∀ W, Below g wr W → W.cell? ⟨b, off + k, none⟩ = some (.slice Ar (row rows k).length Cr) from fun W h => (h.cell (p := ⟨b, off + k, none⟩) (by show b < g; omega)).trans c1)
      have HIs := Lib.hid (show ∀ W, Below g wr W → Is .i64 W w1.heap.size Ar (row rows k) from fun W h => i1.below (h.mono hg1))
      obtain ⟨X, hX⟩ : ∃ X : World, X = wr := ⟨_, rfl⟩
      subst hX
      clear c1 i1 hb
      go_wp2_with fail
      go_loopw [4, 9] (fun r i wr => ∃ q : Nat, q ≤ (row rows k).length ∧ i = .int .i64 q ∧ r = .bool false ∧ OutB wr g 3 (cL xs.length (cf rows k q)) ∧ Below g X wr) (fun _ i _ => (row rows k).length - (intOf i).toNat)
      case atStart => exact ⟨0, Nat.zero_le _, rfl, rfl, HO.out, Below.refl _ _⟩
      case round =>
        clear HO
        obtain ⟨q, hq, rfl, rfl, hO, hb⟩ := hrel
        have HO := Lib.hid hO
        have HBX := Lib.hid hb
        have c1 := HC.out _ hb
        by_cases hqlt : q < (row rows k).length
        · obtain ⟨b2, off2, rfl, hbb2, hc2⟩ := (HIs.out _ hb) (by omega)
          have c2 := hc2 q hqlt
          obtain ⟨z0, z1⟩ := HRg.out k (by have := HrL.out; omega) q hqlt
          obtain ⟨z, hz⟩ : ∃ z : Nat, nth (row rows k) q = (z : Int) := ⟨(nth (row rows k) q).toNat, by omega⟩
          have HS := Lib.hid (cL_set xs.length (cf rows k q) (cf rows k (q + 1)) z (by omega) (cf_step hqlt hz))
          have hcf := cf_le rows k q z H64.out (by omega)
          rw [hz] at c2 z0 z1
          have o1 := hO.cell (j := z) (by rw [cL_len]; omega)
          have o2 := hO.frozen z
          rw [cL_nth _ _ _ (by omega)] at o1
          obtain ⟨v, hv⟩ : ∃ v, v = cf rows k q z := ⟨_, rfl⟩
          rw [← hv] at o1 HS hcf
          have hqI : (q : Int) < ((row rows k).length : Int) := by omega
          have hq0 : (0 : Int) ≤ (q : Int) := by omega
          have v1 : (v : Int) ≤ 3000 := by omega
          clear hc2 hz hv hO hb hcf
          go_wp2_with fail
          exact ⟨⟨q + 1, by omega, by go_num, rfl, by rw [HS.out]; exact HO.out.set z ((v : Int) + 1) (by rw [cL_len]; omega), HBX.out.setCell (p := ⟨g, z, none⟩) (Nat.le_refl _) _⟩, by simp [intOf]; omega⟩
        · obtain rfl : q = (row rows k).length := by omega
          have HN := Lib.hid (show cf rows k (row rows k).length = cf rows (k + 1) 0 from funext (cf_row rows k))
          clear hO hb
          go_wp2_with fail
          exact ⟨⟨k + 1, by omega, by go_num, rfl, by rw [← HN.out]; exact HO.out, HB.out.trans HBX.out⟩, by simp [intOf]; omega⟩
    · obtain rfl : k = rows.length := by omega
      have HV := Lib.hid (show ∀ j, j < xs.length → wr.cell? ⟨g, j, none⟩ = some (.int .i64 1) from fun j hj => by
        have := HO.out.cell (j := j) (by rw [cL_len]; omega)
        rw [cL_nth _ _ _ hj] at this
        rw [this]
        have e : cf rows rows.length 0 j = 1 := by
          unfold cf
          rw [HrL.out, HOne.out j hj]; rfl
        rw [e]; rfl)
      have HBw := Lib.hid (show Below w.heap.size w wr from HB1.out.trans (hb.mono (by omega)))
      have HSt := Lib.hid (HA.out.below (HBw.out.mono hB))
      obtain ⟨X, hX⟩ : ∃ X : World, X = wr := ⟨_, rfl⟩
      subst hX
      clear HO HB hb
      go_wp2_with fail
      go_loop [4, 10] (fun r i => ∃ k : Nat, k ≤ xs.length ∧ i = .int .i64 k ∧ r = .bool false) (fun _ i => xs.length - (intOf i).toNat)
      case atStart => exact ⟨0, Nat.zero_le _, rfl, rfl⟩
      case round =>
        obtain ⟨j, hj, rfl, rfl⟩ := hrel
        by_cases hjl : j < xs.length
        · have c1 := HV.out j hjl
          have hjI : (j : Int) < (xs.length : Int) := by omega
          have hj0 : (0 : Int) ≤ (j : Int) := by omega
          go_wp2_with fail
          exact ⟨⟨j + 1, by omega, by go_num, rfl⟩, by simp [intOf]; omega⟩
        · obtain rfl : j = xs.length := by omega
          go_wp2_with fail
          go_loop [11, 12] (fun a i => ∃ n : Nat, n ≤ st.length ∧ i = .int .i64 n ∧ a = .int .i64 (atN st n)) (fun _ i => st.length - (intOf i).toNat)
          case atStart => exact ⟨0, Nat.zero_le _, rfl, rfl⟩
          case round =>
            obtain ⟨n, hn, rfl, rfl⟩ := hrel
            by_cases hnl : n < st.length
            · have hnI : (n : Int) < (st.length : Int) := by omega
              have hst := Lib.hid (show atN st (n + 1) = nxt st (atN st n) st.length from rfl)
              obtain ⟨a, ha⟩ : ∃ a, a = atN st n := ⟨_, rfl⟩
              rw [← ha] at hst ⊢
              clear ha
              go_wp2_with fail
              go_loop [13, 14] (fun u i => ∃ k : Nat, k ≤ st.length ∧ i = .int .i64 k ∧ u = .int .i64 (nxt st a k)) (fun _ i => st.length - (intOf i).toNat)
              case atStart => exact ⟨0, Nat.zero_le _, rfl, rfl⟩
              case round =>
                obtain ⟨k, hk, rfl, rfl⟩ := hrel
                by_cases hkl : k < st.length
                · obtain ⟨b, off, rfl, hbb, c1, c2⟩ := step_at HSt.out hkl
                  have hkI : (k : Int) < (st.length : Int) := by omega
                  have hk0 : (0 : Int) ≤ (k : Int) := by omega
                  have hx := Lib.hid (show nxt st a (k + 1) = if stl st k = a then sth st k else nxt st a k from rfl)
                  obtain ⟨l, hl2⟩ : ∃ l, l = stl st k := ⟨_, rfl⟩
                  obtain ⟨h, hh2⟩ : ∃ h, h = sth st k := ⟨_, rfl⟩
                  rw [← hl2] at c1 hx
                  rw [← hh2] at c2 hx
                  clear hl2 hh2
                  by_cases e : l = a
                  · have hb1 : (l == a) = true := by simp [e]
                    have hx2 := Lib.hid (show nxt st a (k + 1) = h by rw [hx.out, if_pos e])
                    clear e
                    go_wp2_with fail
                    exact ⟨⟨k + 1, by omega, by go_num, by rw [hx2.out]⟩, by simp [intOf]; omega⟩
                  · have hb1 : (l == a) = false := by simp [e]
                    have hx2 := Lib.hid (show nxt st a (k + 1) = nxt st a k by rw [hx.out, if_neg e])
                    clear e
                    go_wp2_with fail
                    exact ⟨⟨k + 1, by omega, by go_num, by rw [hx2.out]⟩, by simp [intOf]; omega⟩
                · obtain rfl : k = st.length := by omega
                  go_wp2_with fail
                  exact ⟨⟨n + 1, by omega, by go_num, by rw [hst.out]⟩, by simp [intOf]; omega⟩
            · obtain rfl : n = st.length := by omega
              rw [HEnd.out]
              go_wp2_with fail
              go_ret
              exact ⟨rfl, HBw.out⟩
theorem once27 (A A' : Option Addr) (cap cap' : Nat) (st : List (Int × Int)) (xs : List Int) (B : Nat) (w : World) (hB : B ≤ w.heap.size) (hA : Is .i64 w B A (flatS st)) (hA' : Is .i64 w B A' xs) (hl : st.length ≤ 1000000) (hl' : xs.length ≤ 1000000) (h0 : ckT st = 0) (hT : tlK st 255 = true) :
    Calls Try.prog 27 #[.slice A st.length cap, .slice A' xs.length cap'] w fun e w' => e = .returned (.bool true) ∧ Below w.heap.size w w' := by
  by_cases hn : ckN xs = 0
  · exact once27b A A' cap cap' st xs B w hB hA hA' hl hl' h0 hn hT
  · exact once27a A A' cap cap' st xs B w hB hA hA' hl hl' h0 hn
end Go.Proofs.Ytlbchidgadcmpaa
