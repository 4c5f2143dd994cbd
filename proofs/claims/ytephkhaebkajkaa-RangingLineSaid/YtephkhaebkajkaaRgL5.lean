/- RangingLine returns true for every input: measurements on a straight line are followed exactly from the second update on. -/
import Derived.Test.YtephkhaebkajkaaRgW
import Derived.Test.YtephkhaebkajkaaRgD
import Derived.Test.YtephkhaebkajkaaRgQ
import Derived.Deep.Grids
import Derived.WalkKit
import Derived.ProofKit
import Derived.OpenShut
import Derived.ShutString
import Derived.ChangeOld
import Derived.Below
import Derived.Lib.SmallJoins
namespace Go.Proofs.Ytephkhaebkajkaa
open Go.RowKit
attribute [local go_sem ↓] Go.wp_at_zero Go.wp_at_succ
attribute [local go_sem] wrap_lit

def nthB (ms : List Bool) (k : Nat) : Bool := ms.getD k false
def IsB (w : World) (B : Nat) (A : Option Addr) (ms : List Bool) : Prop :=
  0 < ms.length → ∃ b off, A = some ⟨b, off, none⟩ ∧ b < B ∧ ∀ j, j < ms.length → w.cell? ⟨b, off + j, none⟩ = some (.bool (nthB ms j))
theorem tmod_bd (x : Int) : -64 ≤ x.tmod 65 ∧ x.tmod 65 ≤ 64 := by
  rcases Int.lt_or_le x 0 with h | h
  · have e : x.tmod 65 = -((-x) % 65) := by rw [show x = -(-x) by omega, Int.neg_tmod, Int.tmod_eq_emod_of_nonneg (by omega)]; simp
    have := Int.emod_nonneg (-x) (show (65 : Int) ≠ 0 by omega)
    have := Int.emod_lt_of_pos (-x) (show (0 : Int) < 65 by omega)
    omega
  · rw [Int.tmod_eq_emod_of_nonneg h]
    have := Int.emod_nonneg x (show (65 : Int) ≠ 0 by omega)
    have := Int.emod_lt_of_pos x (show (0 : Int) < 65 by omega)
    omega

theorem lineLong (A : Option Addr) (cap : Nat) (ms : List Bool) (a sl : Int) (w : World) (hl : 250 < ms.length) : Calls Try.prog 6 #[.int .i16 a, .int .i16 sl, .slice A ms.length cap] w fun e w' => e = .returned (.bool true) ∧ Below w.heap.size w w' := by
  have h : (250 : Int) < (ms.length : Int) := by omega
  obtain ⟨t1, t2⟩ := tmod_bd sl
  go_enter Try.func6, Try.ntmps6
  go_wp2_with fail
  refine (awake19 _).mono ?_
  rintro e w1 ⟨rfl, hb1⟩
  go_wp2_with fail
  go_ret
  exact ⟨rfl, hb1⟩

/-- The facts of one round of the second loop. -/
theorem line_facts (a s : Int) (ms : List Bool) (n : Nat) (hs1 : -64 ≤ s) (hs2 : s ≤ 64) (hn : n ≤ 250) (h : inL a s n) (k : Nat) (hk : k < n) (h0 : 0 ≤ nth (lineL a s ms n) k) :
    (sL (lineL a s ms n) k < 0 ∨ 16 < (k : Int) - sL (lineL a s ms n) k → sR (lineL a s ms n) (k + 1) = 256 * nth (lineL a s ms n) k ∧ sV (lineL a s ms n) (k + 1) = 0 ∧ sN (lineL a s ms n) (k + 1) = 1 ∧ sL (lineL a s ms n) (k + 1) = k) ∧
    (¬ (sL (lineL a s ms n) k < 0 ∨ 16 < (k : Int) - sL (lineL a s ms n) k) → sR (lineL a s ms n) (k + 1) = 256 * nth (lineL a s ms n) k ∧ sV (lineL a s ms n) (k + 1) = 256 * s ∧ sN (lineL a s ms n) (k + 1) = sN (lineL a s ms n) k + 1 ∧ sL (lineL a s ms n) (k + 1) = k ∧ 1 ≤ sN (lineL a s ms n) k ∧ sN (lineL a s ms n) k ≤ 250) := by
  have hok := okl_line a s ms n h
  have hlen := lineL_len a s ms n
  have l0 := lin_st a s ms n hs1 hs2 hn h k (by omega)
  have l1 := lin_st a s ms n hs1 hs2 hn h (k + 1) (by omega)
  have hv : nth (lineL a s ms n) k = a + k * s := by
    rw [nth_line _ _ _ _ _ hk] at h0 ⊢
    unfold lineF at h0 ⊢
    split at h0
    · omega
    · rename_i hh; rw [if_neg hh]
  generalize lineL a s ms n = l at *
  constructor
  · intro hnw
    obtain ⟨e1, e2, e3, e4⟩ := s_new l k h0 hnw
    have hr := hok k (by omega)
    have o1 : okr (nth l k) := ⟨by omega, by omega⟩
    unfold nwR at e1
    unfold nwN at e3
    rw [if_pos o1] at e1 e3
    exact ⟨e1, e2, e3, e4⟩
  · intro hnw
    obtain ⟨e1, e2, e3, e4⟩ := s_upd l k h0 hnw
    have o1 := upd_ok l hok k (by omega) h0 hnw
    have hN : sN l (k + 1) = sN l k + 1 := by
      rw [e3]; unfold uN; rw [if_pos o1]
      rcases l0 with ⟨z, _⟩ | ⟨_, _, z1, z2, _⟩
      · omega
      · unfold upN; omega
    have hN1 : 1 ≤ sN l k ∧ sN l k ≤ 250 := by rcases l0 with ⟨z, _⟩ | ⟨_, _, z1, z2, _⟩ <;> omega
    rcases l1 with ⟨z, _⟩ | ⟨z1, z2, z3, z4, z5, z6⟩
    · omega
    · rw [e4] at z5
      rw [if_neg (by omega)] at z6
      exact ⟨by rw [z5, hv], z6, hN, e4, hN1.1, hN1.2⟩

set_option maxHeartbeats 4000000 in
set_option maxRecDepth 100000 in
theorem line6 (A : Option Addr) (cap : Nat) (ms : List Bool) (a sl : Int) (ha1 : -32768 ≤ a) (ha2 : a ≤ 32767) (hsl1 : -32768 ≤ sl) (hsl2 : sl ≤ 32767) (w : World) (hA : IsB w w.heap.size A ms) (hl : ms.length ≤ 250) : Calls Try.prog 6 #[.int .i16 a, .int .i16 sl, .slice A ms.length cap] w fun e w' => e = .returned (.bool true) ∧ Below w.heap.size w w' := by
  obtain ⟨i0, hi0, hz0, hz1, hz2⟩ := info_parts int_info
  obtain ⟨hs1, hs2⟩ := tmod_bd sl
  go_enter Try.func6, Try.ntmps6
  go_wp2_with fail
  generalize sl.tmod 65 = s at *
  refine (awake19 _).mono ?_
  rintro e w1 ⟨rfl, hb1⟩
  go_wp2_with fail
  go_loopw [8, 9] (fun v i wr => ∃ k : Nat, k ≤ ms.length ∧ i = .int .i64 k ∧ Acc .i64 wr w1.heap.size 3 1 v k (lineL a s ms k) ∧ inL a s k ∧ Below w1.heap.size w1 wr) (fun _ i _ => ms.length - (intOf i).toNat)
  case atStart => exact ⟨0, Nat.zero_le _, rfl, Acc.nil _ _ _ _ _, fun j h => absurd h (by omega), Below.refl _ _⟩
  case round =>
    obtain ⟨k, hk, rfl, hacc, hin, hb⟩ := hrel
    have hbw : Below w.heap.size w wr := hb1.trans (hb.mono hb1.size)
    by_cases hlt : k < ms.length
    · obtain ⟨b, off, rfl, hbb, hc⟩ := hA (by omega)
      have hcell : wr.cell? ⟨b, off + k, none⟩ = some (.bool (nthB ms k)) := (hbw.cell (p := ⟨b, off + k, none⟩) hbb).trans (hc k hlt)
      clear hc
      have hlI : (k : Int) < (ms.length : Int) := by omega
      obtain ⟨m1, m2⟩ := mul_bd (a := (k : Int)) (b := s) (A := 250) (B := 64) (by omega) (by omega) (by omega) (by omega)
      by_cases h1 : a + k * s < 0
      · have Hin := Lib.hid hin; clear hin
        have hin := Hin.out
        obtain ⟨A1, cap1, rfl, ho1⟩ := hacc.own
        clear hacc
        have hr := run21 A1 cap1 (lineL a s ms k) wr ho1.is (okl_line a s ms k hin) (by rw [lineL_len]; omega)
        rw [lineL_len] at hr
        have HR := Lib.hid hr; clear hr
        go_wp2_with fail
        refine HR.out.mono ?_
        rintro e w2 ⟨A2, cap2, rfl, ho2, hb2⟩
        clear HR
        have ho1' := ho1.is.below hb2
        have hFA := line_facts a s ms k hs1 hs2 (by omega) hin
        have hst := lin_st a s ms k hs1 hs2 (by omega) hin
        have hneg := fun q => s_neg (lineL a s ms k) q
        have hlen := lineL_len a s ms k
        have hbt : Below w.heap.size w w2 := hbw.trans (hb2.mono hbw.size)
        have hbd := okl_line a s ms k hin
        clear hin ho1
        generalize lineL a s ms k = L at *
        have HF := Lib.hid hFA; have HS := Lib.hid hst; have HN := Lib.hid hneg; have HB := Lib.hid hbd; have HL := Lib.hid hlen
        have HO := Lib.hid ho2; have HO1 := Lib.hid ho1'
        clear hFA hst hneg hbd hlen ho2 ho1'
        have hnn : ((k : Int) != (k : Int)) = false := by simp
        go_wp2_with fail
        go_loopw [13, 14, 15] (fun la c i wr => ∃ q : Nat, q ≤ k ∧ la = .int .i64 (sL L q) ∧ c = .int .i64 (sN L q) ∧ i = .int .i64 q ∧ Below w2.heap.size w2 wr) (fun _ _ i _ => k - (intOf i).toNat)
        case atStart => exact ⟨0, Nat.zero_le _, rfl, rfl, rfl, Below.refl _ _⟩
        case round =>
          obtain ⟨j, hj, rfl, rfl, rfl, hbr⟩ := hrel
          clear hnn
          by_cases hjl : j < k
          · obtain ⟨b1, off1, rfl, hbb1, hc1⟩ := HO1.out (by rw [HL.out]; omega)
            have cl : wr.cell? ⟨b1, off1 + j, none⟩ = some (.int .i64 (nth L j)) := (hbr.cell (p := ⟨b1, off1 + j, none⟩) (by show b1 < w2.heap.size; have := hb2.size; omega)).trans (hc1 j (by rw [HL.out]; omega))
            clear hc1
            have hjI : (j : Int) < (k : Int) := by omega
            have hj0 : (0 : Int) ≤ (j : Int) := by omega
            have hjb : k ≤ 250 := by omega
            have hLj : -1 ≤ sL L j ∧ sL L j < j + 1 := by rcases HS.out j (by omega) with ⟨z, _⟩ | ⟨z, z2, _⟩ <;> omega
            obtain ⟨hLj1, hLj2⟩ := hLj
            by_cases h0 : nth L j < 0
            · have hs := Lib.hid (HN.out j h0)
              go_wp2_with fail
              exact ⟨⟨j + 1, by omega, by rw [hs.out.2.2.2], by rw [hs.out.2.2.1], by go_num, hbr⟩, by simp [intOf]; omega⟩
            · obtain ⟨hB1, hB2⟩ := HB.out j (by rw [HL.out]; omega)
              have hcs : ∃ g, A2 = some ⟨g, 0, none⟩ ∧ g < w2.heap.size ∧ w2.cell? ⟨g, j * 3, none⟩ = some (.int .i64 (sR L (j + 1))) ∧ w2.cell? ⟨g, j * 3 + 1, none⟩ = some (.int .i64 (sV L (j + 1))) ∧ w2.cell? ⟨g, j * 3 + 2, none⟩ = some (.int .i64 (sN L (j + 1))) := by
                obtain ⟨g, cs, rfl, _, hh, hc⟩ := HO.out (by rw [outs_len]; omega)
                rw [outs_len] at hc
                obtain ⟨n0, n1, n2⟩ := nth_outs L k j hjl
                refine ⟨g, rfl, heap_lt hh, ?_, ?_, ?_⟩
                · rw [← n0]; simp [World.cell?, hh, hc (j * 3) (by omega)]
                · rw [← n1]; simp [World.cell?, hh, hc (j * 3 + 1) (by omega)]
                · rw [← n2]; simp [World.cell?, hh, hc (j * 3 + 2) (by omega)]
              obtain ⟨g, rfl, hg, c0, c1, c2⟩ := hcs
              rw [← hbr.cell (p := ⟨g, j * 3, none⟩) hg] at c0
              rw [← hbr.cell (p := ⟨g, j * 3 + 1, none⟩) hg] at c1
              rw [← hbr.cell (p := ⟨g, j * 3 + 2, none⟩) hg] at c2
              have hgw : g < wr.heap.size := by have := hbr.size; omega
              by_cases hnw : sL L j < 0 ∨ 16 < (j : Int) - sL L j
              · have hs := Lib.hid ((HF.out j hjl (by omega)).1 hnw)
                rw [hs.out.1] at c0
                rw [hs.out.2.1] at c1
                rw [hs.out.2.2.1] at c2
                by_cases hneg0 : sL L j < 0
                all_goals
                  go_wp2_with fail
                  go_quiet (fail)
                  go_wp2_with fail
                  exact ⟨⟨j + 1, by omega, by rw [hs.out.2.2.2], by rw [hs.out.2.2.1], by go_num, below_drewN (hbr.alloc hbr.size _) _⟩, by simp [intOf]; omega⟩
              · have hs := Lib.hid ((HF.out j hjl (by omega)).2 hnw)
                rw [hs.out.1] at c0
                rw [hs.out.2.1] at c1
                rw [hs.out.2.2.1] at c2
                obtain ⟨hN1, hN2⟩ := hs.out.2.2.2.2
                go_wp2_with fail
                go_quiet (fail)
                go_wp2_with fail
                exact ⟨⟨j + 1, by omega, by rw [hs.out.2.2.2.1], by rw [hs.out.2.2.1], by go_num, below_drewN (hbr.alloc hbr.size _) _⟩, by simp [intOf]; omega⟩
          · obtain rfl : j = k := by omega
            go_wp2_with fail
            go_ret
            exact ⟨rfl, hbt.trans (hbr.mono hbt.size)⟩
      · by_cases h2 : 8192 < a + k * s
        · obtain ⟨A1, cap1, rfl, ho1⟩ := hacc.own
          clear hacc
          have hr := run21 A1 cap1 (lineL a s ms k) wr ho1.is (okl_line a s ms k hin) (by rw [lineL_len]; omega)
          rw [lineL_len] at hr
          have HR := Lib.hid hr; clear hr
          go_wp2_with fail
          refine HR.out.mono ?_
          rintro e w2 ⟨A2, cap2, rfl, ho2, hb2⟩
          clear HR
          have ho1' := ho1.is.below hb2
          have hFA := line_facts a s ms k hs1 hs2 (by omega) hin
          have hst := lin_st a s ms k hs1 hs2 (by omega) hin
          have hneg := fun q => s_neg (lineL a s ms k) q
          have hlen := lineL_len a s ms k
          have hbt : Below w.heap.size w w2 := hbw.trans (hb2.mono hbw.size)
          have hbd := okl_line a s ms k hin
          clear hin ho1
          generalize lineL a s ms k = L at *
          have HF := Lib.hid hFA; have HS := Lib.hid hst; have HN := Lib.hid hneg; have HB := Lib.hid hbd; have HL := Lib.hid hlen
          have HO := Lib.hid ho2; have HO1 := Lib.hid ho1'
          clear hFA hst hneg hbd hlen ho2 ho1'
          have hnn : ((k : Int) != (k : Int)) = false := by simp
          go_wp2_with fail
          go_loopw [13, 14, 15] (fun la c i wr => ∃ q : Nat, q ≤ k ∧ la = .int .i64 (sL L q) ∧ c = .int .i64 (sN L q) ∧ i = .int .i64 q ∧ Below w2.heap.size w2 wr) (fun _ _ i _ => k - (intOf i).toNat)
          case atStart => exact ⟨0, Nat.zero_le _, rfl, rfl, rfl, Below.refl _ _⟩
          case round =>
            obtain ⟨j, hj, rfl, rfl, rfl, hbr⟩ := hrel
            clear hnn
            by_cases hjl : j < k
            · obtain ⟨b1, off1, rfl, hbb1, hc1⟩ := HO1.out (by rw [HL.out]; omega)
              have cl : wr.cell? ⟨b1, off1 + j, none⟩ = some (.int .i64 (nth L j)) := (hbr.cell (p := ⟨b1, off1 + j, none⟩) (by show b1 < w2.heap.size; have := hb2.size; omega)).trans (hc1 j (by rw [HL.out]; omega))
              clear hc1
              have hjI : (j : Int) < (k : Int) := by omega
              have hj0 : (0 : Int) ≤ (j : Int) := by omega
              have hjb : k ≤ 250 := by omega
              have hLj : -1 ≤ sL L j ∧ sL L j < j + 1 := by rcases HS.out j (by omega) with ⟨z, _⟩ | ⟨z, z2, _⟩ <;> omega
              obtain ⟨hLj1, hLj2⟩ := hLj
              by_cases h0 : nth L j < 0
              · have hs := Lib.hid (HN.out j h0)
                go_wp2_with fail
                exact ⟨⟨j + 1, by omega, by rw [hs.out.2.2.2], by rw [hs.out.2.2.1], by go_num, hbr⟩, by simp [intOf]; omega⟩
              · obtain ⟨hB1, hB2⟩ := HB.out j (by rw [HL.out]; omega)
                have hcs : ∃ g, A2 = some ⟨g, 0, none⟩ ∧ g < w2.heap.size ∧ w2.cell? ⟨g, j * 3, none⟩ = some (.int .i64 (sR L (j + 1))) ∧ w2.cell? ⟨g, j * 3 + 1, none⟩ = some (.int .i64 (sV L (j + 1))) ∧ w2.cell? ⟨g, j * 3 + 2, none⟩ = some (.int .i64 (sN L (j + 1))) := by
                  obtain ⟨g, cs, rfl, _, hh, hc⟩ := HO.out (by rw [outs_len]; omega)
                  rw [outs_len] at hc
                  obtain ⟨n0, n1, n2⟩ := nth_outs L k j hjl
                  refine ⟨g, rfl, heap_lt hh, ?_, ?_, ?_⟩
                  · rw [← n0]; simp [World.cell?, hh, hc (j * 3) (by omega)]
                  · rw [← n1]; simp [World.cell?, hh, hc (j * 3 + 1) (by omega)]
                  · rw [← n2]; simp [World.cell?, hh, hc (j * 3 + 2) (by omega)]
                obtain ⟨g, rfl, hg, c0, c1, c2⟩ := hcs
                rw [← hbr.cell (p := ⟨g, j * 3, none⟩) hg] at c0
                rw [← hbr.cell (p := ⟨g, j * 3 + 1, none⟩) hg] at c1
                rw [← hbr.cell (p := ⟨g, j * 3 + 2, none⟩) hg] at c2
                have hgw : g < wr.heap.size := by have := hbr.size; omega
                by_cases hnw : sL L j < 0 ∨ 16 < (j : Int) - sL L j
                · have hs := Lib.hid ((HF.out j hjl (by omega)).1 hnw)
                  rw [hs.out.1] at c0
                  rw [hs.out.2.1] at c1
                  rw [hs.out.2.2.1] at c2
                  by_cases hneg0 : sL L j < 0
                  all_goals
                    go_wp2_with fail
                    go_quiet (fail)
                    go_wp2_with fail
                    exact ⟨⟨j + 1, by omega, by rw [hs.out.2.2.2], by rw [hs.out.2.2.1], by go_num, below_drewN (hbr.alloc hbr.size _) _⟩, by simp [intOf]; omega⟩
                · have hs := Lib.hid ((HF.out j hjl (by omega)).2 hnw)
                  rw [hs.out.1] at c0
                  rw [hs.out.2.1] at c1
                  rw [hs.out.2.2.1] at c2
                  obtain ⟨hN1, hN2⟩ := hs.out.2.2.2.2
                  go_wp2_with fail
                  go_quiet (fail)
                  go_wp2_with fail
                  exact ⟨⟨j + 1, by omega, by rw [hs.out.2.2.2.1], by rw [hs.out.2.2.1], by go_num, below_drewN (hbr.alloc hbr.size _) _⟩, by simp [intOf]; omega⟩
            · obtain rfl : j = k := by omega
              go_wp2_with fail
              go_ret
              exact ⟨rfl, hbt.trans (hbr.mono hbt.size)⟩
        · have hin' : inL a s (k + 1) := fun j hj => by
            by_cases hjk : j = k
            · subst hjk; omega
            · exact hin j (by omega)
          have Hin := Lib.hid hin'; clear hin hin'
          cases hm : nthB ms k
          · have hf : lineF a s ms k = a + k * s := by unfold lineF; rw [show ms.getD k false = nthB ms k from rfl, hm]; simp
            have HF := Lib.hid hf; clear hf
            rw [hm] at hcell
            clear hm
            go_wp2_with (at_builtin; refine wpList_app rfl _ _ 36 rfl .i64 w1.heap.size 3 i0 _ 1 8 Try.underlying36 hi0 hz0 hz1 hz2 rfl (by decide) _ _ _ [a + k * s] rfl hacc _ rfl rfl rfl (by omega) (by decide) hb.size ?_; intro v' w4 hown1 hb4)
            exact ⟨⟨k + 1, by omega, by go_num, by rw [lineL_succ, HF.out]; exact hown1, Hin.out, hb.trans hb4⟩, by simp [intOf]; omega⟩
          · have hf : lineF a s ms k = -1 := by unfold lineF; rw [show ms.getD k false = nthB ms k from rfl, hm]; simp
            have HF := Lib.hid hf; clear hf
            rw [hm] at hcell
            clear hm
            go_wp2_with (at_builtin; refine wpList_app rfl _ _ 36 rfl .i64 w1.heap.size 3 i0 _ 1 8 Try.underlying36 hi0 hz0 hz1 hz2 rfl (by decide) _ _ _ [-1] rfl hacc _ rfl rfl rfl (by omega) (by decide) hb.size ?_; intro v' w4 hown1 hb4)
            exact ⟨⟨k + 1, by omega, by go_num, by rw [lineL_succ, HF.out]; exact hown1, Hin.out, hb.trans hb4⟩, by simp [intOf]; omega⟩
    · clear hA
      obtain ⟨A1, cap1, rfl, ho1⟩ := hacc.own
      clear hacc
      have hr := run21 A1 cap1 (lineL a s ms k) wr ho1.is (okl_line a s ms k hin) (by rw [lineL_len]; omega)
      rw [lineL_len] at hr
      have HR := Lib.hid hr; clear hr
      go_wp2_with fail
      refine HR.out.mono ?_
      rintro e w2 ⟨A2, cap2, rfl, ho2, hb2⟩
      clear HR
      have ho1' := ho1.is.below hb2
      have hFA := line_facts a s ms k hs1 hs2 (by omega) hin
      have hst := lin_st a s ms k hs1 hs2 (by omega) hin
      have hneg := fun q => s_neg (lineL a s ms k) q
      have hlen := lineL_len a s ms k
      have hbt : Below w.heap.size w w2 := hbw.trans (hb2.mono hbw.size)
      have hbd := okl_line a s ms k hin
      clear hin ho1
      generalize lineL a s ms k = L at *
      have HF := Lib.hid hFA; have HS := Lib.hid hst; have HN := Lib.hid hneg; have HB := Lib.hid hbd; have HL := Lib.hid hlen
      have HO := Lib.hid ho2; have HO1 := Lib.hid ho1'
      clear hFA hst hneg hbd hlen ho2 ho1'
      have hnn : ((k : Int) != (k : Int)) = false := by simp
      go_wp2_with fail
      go_loopw [13, 14, 15] (fun la c i wr => ∃ q : Nat, q ≤ k ∧ la = .int .i64 (sL L q) ∧ c = .int .i64 (sN L q) ∧ i = .int .i64 q ∧ Below w2.heap.size w2 wr) (fun _ _ i _ => k - (intOf i).toNat)
      case atStart => exact ⟨0, Nat.zero_le _, rfl, rfl, rfl, Below.refl _ _⟩
      case round =>
        obtain ⟨j, hj, rfl, rfl, rfl, hbr⟩ := hrel
        clear hnn
        by_cases hjl : j < k
        · obtain ⟨b1, off1, rfl, hbb1, hc1⟩ := HO1.out (by rw [HL.out]; omega)
          have cl : wr.cell? ⟨b1, off1 + j, none⟩ = some (.int .i64 (nth L j)) := (hbr.cell (p := ⟨b1, off1 + j, none⟩) (by show b1 < w2.heap.size; have := hb2.size; omega)).trans (hc1 j (by rw [HL.out]; omega))
          clear hc1
          have hjI : (j : Int) < (k : Int) := by omega
          have hj0 : (0 : Int) ≤ (j : Int) := by omega
          have hjb : k ≤ 250 := by omega
          have hLj : -1 ≤ sL L j ∧ sL L j < j + 1 := by rcases HS.out j (by omega) with ⟨z, _⟩ | ⟨z, z2, _⟩ <;> omega
          obtain ⟨hLj1, hLj2⟩ := hLj
          by_cases h0 : nth L j < 0
          · have hs := Lib.hid (HN.out j h0)
            go_wp2_with fail
            exact ⟨⟨j + 1, by omega, by rw [hs.out.2.2.2], by rw [hs.out.2.2.1], by go_num, hbr⟩, by simp [intOf]; omega⟩
          · obtain ⟨hB1, hB2⟩ := HB.out j (by rw [HL.out]; omega)
            have hcs : ∃ g, A2 = some ⟨g, 0, none⟩ ∧ g < w2.heap.size ∧ w2.cell? ⟨g, j * 3, none⟩ = some (.int .i64 (sR L (j + 1))) ∧ w2.cell? ⟨g, j * 3 + 1, none⟩ = some (.int .i64 (sV L (j + 1))) ∧ w2.cell? ⟨g, j * 3 + 2, none⟩ = some (.int .i64 (sN L (j + 1))) := by
              obtain ⟨g, cs, rfl, _, hh, hc⟩ := HO.out (by rw [outs_len]; omega)
              rw [outs_len] at hc
              obtain ⟨n0, n1, n2⟩ := nth_outs L k j hjl
              refine ⟨g, rfl, heap_lt hh, ?_, ?_, ?_⟩
              · rw [← n0]; simp [World.cell?, hh, hc (j * 3) (by omega)]
              · rw [← n1]; simp [World.cell?, hh, hc (j * 3 + 1) (by omega)]
              · rw [← n2]; simp [World.cell?, hh, hc (j * 3 + 2) (by omega)]
            obtain ⟨g, rfl, hg, c0, c1, c2⟩ := hcs
            rw [← hbr.cell (p := ⟨g, j * 3, none⟩) hg] at c0
            rw [← hbr.cell (p := ⟨g, j * 3 + 1, none⟩) hg] at c1
            rw [← hbr.cell (p := ⟨g, j * 3 + 2, none⟩) hg] at c2
            have hgw : g < wr.heap.size := by have := hbr.size; omega
            by_cases hnw : sL L j < 0 ∨ 16 < (j : Int) - sL L j
            · have hs := Lib.hid ((HF.out j hjl (by omega)).1 hnw)
              rw [hs.out.1] at c0
              rw [hs.out.2.1] at c1
              rw [hs.out.2.2.1] at c2
              by_cases hneg0 : sL L j < 0
              all_goals
                go_wp2_with fail
                go_quiet (fail)
                go_wp2_with fail
                exact ⟨⟨j + 1, by omega, by rw [hs.out.2.2.2], by rw [hs.out.2.2.1], by go_num, below_drewN (hbr.alloc hbr.size _) _⟩, by simp [intOf]; omega⟩
            · have hs := Lib.hid ((HF.out j hjl (by omega)).2 hnw)
              rw [hs.out.1] at c0
              rw [hs.out.2.1] at c1
              rw [hs.out.2.2.1] at c2
              obtain ⟨hN1, hN2⟩ := hs.out.2.2.2.2
              go_wp2_with fail
              go_quiet (fail)
              go_wp2_with fail
              exact ⟨⟨j + 1, by omega, by rw [hs.out.2.2.2.1], by rw [hs.out.2.2.1], by go_num, below_drewN (hbr.alloc hbr.size _) _⟩, by simp [intOf]; omega⟩
        · obtain rfl : j = k := by omega
          go_wp2_with fail
          go_ret
          exact ⟨rfl, hbt.trans (hbr.mono hbt.size)⟩

theorem IsB.of (w : World) (a : Option Addr) (len cap : Nat) (B : Nat → Bool) (hl : len ≤ cap) (x : Addr) (ha : a = some x) (h : ∀ i, i < cap → w.cell? (x.add i) = some (.bool (B i))) : IsB w w.heap.size a ((List.range len).map B) := by
  subst ha
  intro hn
  have hn' : 0 < len := by simpa using hn
  obtain ⟨b, off, spot⟩ := x
  have hc := h 0 (by omega)
  have hspot : spot = none := by simpa [Addr.add] using World.cell?_spot hc
  subst hspot
  have hb : b < w.heap.size := by
    rcases Nat.lt_or_ge b w.heap.size with h' | h'
    · exact h'
    · have hc' := hc
      simp [World.cell?, Addr.add, Array.getElem?_eq_none h'] at hc'
  refine ⟨b, off, rfl, hb, fun j hj => ?_⟩
  have hj' : j < len := by simpa using hj
  have e : (⟨b, off, none⟩ : Addr).add j = ⟨b, off + j, none⟩ := by
    unfold Addr.add
    by_cases h0 : j = 0
    · subst h0; rfl
    · simp [h0]
  have := h j (by omega)
  rw [e] at this
  rw [this]
  simp [nthB, List.getD_eq_getElem?_getD, hj']

theorem line_ (a sl : Int) (A : Option Addr) (len cap : Nat) (ms : List Bool) (w0 : (Lit.int .i16 a).wf = true) (w1 : (Lit.int .i16 sl).wf = true) {w : World} (h : IsB w w.heap.size A ms) (hl : ms.length = len) : Calls Try.prog 6 #[.int .i16 a, .int .i16 sl, .slice A len cap] w fun e w' => e = .returned (.bool true) ∧ Below w.heap.size w w' := by
  have h0 : -32768 ≤ a ∧ a ≤ 32767 := by simpa [Lit.wf, IntKind.min, IntKind.max, IntKind.signed, IntKind.bits] using w0
  have h1 : -32768 ≤ sl ∧ sl ≤ 32767 := by simpa [Lit.wf, IntKind.min, IntKind.max, IntKind.signed, IntKind.bits] using w1
  rw [← hl]
  by_cases hn : ms.length ≤ 250
  · exact line6 A cap ms a sl h0.1 h0.2 h1.1 h1.2 w h hn
  · exact lineLong A cap ms a sl w (by omega)
namespace rangingLineRow
open Go.ChangeShapes Go.WideShapes Go.ChangeAt Go.RowKit
open Go.ChangeMaps (open_string shut_string)
set_option linter.unusedVariables false
theorem own : ownKnob Try.prog.godebug = none := by kernel_rfl
theorem laidOut : laidOutB Try.prog = true := by kernel_rfl
set_option maxRecDepth 100000 in
theorem lifted (os : Os) (started : os.Started) (H : Type) (enc : TypeId × Value → H) :
    ReturnsInHanded {} Try.checked os 6 .any (Rows.rangingLineSpec.pre6 enc Try.prog Try.f6 Rows.rangingLineRow.domain false) (Rows.rangingLineSpec.post enc Try.prog Try.f6 false true false false) := by
  refine returnsInHanded_of_change (C := Try.checked) own started (by kernel_rfl) Try.func6
    (ChangeSpec.witness6 (enc := enc) (C := Try.checked) false ⟨#[], #[.int .i16 0, .int .i16 0, .slice none 0 0], []⟩ 8 (by kernel_rfl) (by kernel_rfl) (by kernel_rfl) (by kernel_rfl)) ?_
  intro W base args ds gs before hval0 hW hcnd _hsz
  have hval : ∀ (j : Nat) t v, Try.f6.params[j]? = some t → args[j]? = some v → Value.okWide Try.prog W .any base t v := hval0
  have hW' := hW
  obtain ⟨p, q, hA0, hV, rfl, hfz, hnd⟩ := hW
  have hA : DataW.TrodAll enc Try.prog W 0 (fun _ => true) true Try.f6.params.toList args.toList ds p := hA0
  rw [Try.params6] at hA hval
  obtain ⟨v0, vs0, d0, ds0, p0, q0, hargs, rfl, rfl, h0, r0⟩ := trodAll_cons hA
  obtain ⟨v1, vs1, d1, ds1, p1, q1, rfl, rfl, rfl, h1, r1⟩ := trodAll_cons r0
  obtain ⟨v2, vs2, d2, ds2, p2, q2, rfl, rfl, rfl, h2, r2⟩ := trodAll_cons r1
  obtain ⟨rfl, rfl, rfl⟩ := trodAll_nil r2
  obtain rfl : args = #[v0, v1, v2] := by cases args; simp_all
  obtain ⟨rfl, rfl⟩ := trodVars_none hV
  have k0 := h0
  have lt0 : ∀ x ∈ p0, x.block < W.heap.size := by obtain ⟨m, hm⟩ := k0; exact DataW.trod_lt m _ _ _ hm
  have k1 := h1
  have lt1 : ∀ x ∈ p1, x.block < W.heap.size := by obtain ⟨m, hm⟩ := k1; exact DataW.trod_lt m _ _ _ hm
  have k2 := h2
  have lt2 : ∀ x ∈ p2, x.block < W.heap.size := by obtain ⟨m, hm⟩ := k2; exact DataW.trod_lt m _ _ _ hm
  obtain ⟨a0, rfl, -, -, w0⟩ := open_int Try.underlying44 (hval 0 44 v0 rfl rfl) h0
  obtain ⟨a1, rfl, -, -, w1⟩ := open_int Try.underlying44 (hval 1 44 v1 rfl rfl) h1
  obtain ⟨a2, len2, cap2, rfl⟩ := okWide_slice Try.underlying45 (hval 2 45 v2 rfl rfl)
  obtain ⟨m2, w2, l2⟩ : ∃ ms : List Bool, IsB W W.heap.size a2 ms ∧ ms.length = len2 := by
    obtain ⟨fuel, hf⟩ := h2
    rcases Go.Deep.open_bools Try.underlying45 Try.underlying4 (by kernel_rfl) hf with ⟨hcs, _⟩ | ⟨x, l, c, B, hcs, _, hl, hm, _, hcell⟩
    · simp [Value.cells] at hcs
      obtain ⟨rfl, rfl, rfl⟩ := hcs
      exact ⟨[], fun h => by simp at h, rfl⟩
    · simp [Value.cells] at hcs
      obtain ⟨rfl, rfl, rfl⟩ := hcs
      exact ⟨(List.range _).map B, IsB.of W _ _ _ B hl x rfl hcell, by simp⟩
  clear hA0 hval0
  refine (line_ a0 a1 a2 len2 cap2 m2 w0 w1 w2 l2).mono fun e W' ⟨he, bel⟩ => ?_
  subst he
  exact ⟨_, rfl, _, _, _, [], _, [], hW', trodAll_mk1 (shut_bool Try.underlying4 _), (trodAll_cons_mk (Below.trod laidOut (by kernel_rfl) (of_decide_eq_true (by kernel_rfl)) k0 bel lt0) (trodAll_cons_mk (Below.trod laidOut (by kernel_rfl) (of_decide_eq_true (by kernel_rfl)) k1 bel lt1) (trodAll_cons_mk (Below.trod laidOut (by kernel_rfl) (of_decide_eq_true (by kernel_rfl)) k2 bel lt2) trodAll_mk0))), rfl, bel.frame _, fun h => by cases h⟩

theorem over : Rows.rangingLineRow.holds Try.pinned (OpenSpec.ofChange Rows.rangingLineSpec) :=
  OpenClaim.holds_of_wide 6 Try.f6 rfl rfl rfl rfl rfl rfl rfl ⟨rfl, rfl, rfl, rfl, rfl⟩ rfl rfl rfl rfl rfl (by kernel_rfl) Try.func6 (by kernel_rfl)
    (of_decide_eq_true (by kernel_rfl)) (by unfold Func.isWrapper; first | (rw [if_pos (by decide +kernel)]; kernel_rfl) | (rw [if_neg (by decide +kernel)]; exact ⟨rfl, rfl⟩))
    (fun os started H enc _ => lifted os started H enc)
theorem proved : Rows.RangingLineSaid := over
end rangingLineRow
end Go.Proofs.Ytephkhaebkajkaa
