/- WhisperMore returns true for every input. -/
import Derived.Test.YtlbchidgadcmpaaRows
import Derived.WalkKit
import Derived.WalkLawsBesides
import Derived.WalkSpells
import Derived.ProofKit
import Derived.Below
import Derived.Outline
import Derived.Lib.Hide
import Derived.Deep.RegionWith
import Derived.Deep.RegionHeld3
import Derived.Deep.DrawnRows
import Derived.StillTailTactics
import Derived.BigQuiet
import Derived.Deep.QuietTactic
import Derived.Deep.LoopGhost
import Derived.IntWalk
import Derived.Test.YtlbchidgadcmpaaWhR
import Derived.Test.YtlbchidgadcmpaaWhO
import Derived.Test.YtlbchidgadcmpaaKS
import Derived.Deep.DeepCutAuto
import Derived.WalkKit
import Derived.ProofKit
import Derived.OpenShut
import Derived.ShutString
import Derived.ChangeOld
import Derived.Below
import Derived.Lib.SmallJoins
namespace Go.Proofs.Ytlbchidgadcmpaa
open Go.RowKit
attribute [local go_sem ↓] Go.wp_at_zero Go.wp_at_succ
attribute [local go_sem] wrap_lit

theorem nth_mem {xs : List Int} {k : Nat} (h : k < xs.length) : nth xs k ∈ xs := by
  unfold nth; rw [List.getD_eq_getElem?_getD, List.getElem?_eq_getElem h]; exact List.getElem_mem h
theorem mem_nth {xs : List Int} {z : Int} (h : z ∈ xs) : ∃ k, k < xs.length ∧ nth xs k = z := by
  obtain ⟨k, hk, e⟩ := List.mem_iff_getElem.1 h
  exact ⟨k, hk, by unfold nth; rw [List.getD_eq_getElem?_getD, List.getElem?_eq_getElem hk]; exact e⟩
theorem snOk_all {xs : List Int} : snOk xs xs.length = true ↔ ∀ z ∈ xs, 1 ≤ z ∧ z ≤ 255 := by
  constructor
  · intro h z hz
    obtain ⟨k, hk, e⟩ := mem_nth hz
    rw [← e]; exact snOk_at h hk
  · intro h
    exact snOk_of fun k hk => h _ (nth_mem hk)
theorem ckN_rev (xs : List Int) : ckN xs.reverse = ckN xs := by
  unfold ckN
  rw [List.length_reverse]
  by_cases h64 : 64 < xs.length
  · rw [if_pos h64, if_pos h64]
  · rw [if_neg h64, if_neg h64]
    have e : (snOk xs.reverse xs.length = true) ↔ (snOk xs xs.length = true) := by
      have h1 := @snOk_all xs.reverse
      rw [List.length_reverse] at h1
      rw [h1, snOk_all]
      exact ⟨fun h z hz => h z (List.mem_reverse.2 hz), fun h z hz => h z (List.mem_reverse.1 hz)⟩
    by_cases g : snOk xs xs.length = true
    · rw [if_pos g, if_pos (e.2 g)]
    · rw [if_neg g, if_neg fun q => g (e.1 q)]
theorem Al_rev (xs : List Int) (most : Int) : Al xs.reverse most = Al xs most := by
  funext x y; unfold Al; rw [cnt_rev]
theorem plE_rev (xs : List Int) (most : Int) : plE xs.reverse most = plE xs most := by
  unfold plE
  rw [ckN_rev, Al_rev]
  simp only [cnt_rev]
theorem plL_rev (xs : List Int) (most : Int) : plL xs.reverse most = plL xs most := by
  unfold plL
  rw [plE_rev, Al_rev]
theorem pl_wider {xs : List Int} {most : Int} (h : plE xs most = 0) : plE xs (most + 1) = 0 ∧ (plL xs (most + 1)).length ≤ (plL xs most).length := by
  obtain ⟨a, b, c, d⟩ := plE_ok.1 h
  have c' : ∀ s : Nat, s < 255 → (cnt xs s (s + 1) : Int) ≤ most + 1 := fun s hs => by have := c s hs; omega
  have hF := F_more (Al_anti (fits_of c)) (Al_anti (fits_of c')) (fun x y hxy => decide_eq_true (by have := of_decide_eq_true hxy; omega)) _ 0 (Nat.le_refl _) (by omega)
  have h' : plE xs (most + 1) = 0 := plE_ok.2 ⟨a, by omega, c', by omega⟩
  exact ⟨h', by rw [pl_len h, pl_len h']; exact hF⟩
theorem pl_more {xs : List Int} {most s : Int} (h : plE xs most = 0) (h' : plE (xs ++ [s]) most = 0) : (plL xs most).length ≤ (plL (xs ++ [s]) most).length := by
  obtain ⟨-, -, c, -⟩ := plE_ok.1 h
  obtain ⟨-, -, c', -⟩ := plE_ok.1 h'
  rw [pl_len h, pl_len h']
  exact F_more (Al_anti (fits_of c')) (Al_anti (fits_of c)) (fun x y hxy => decide_eq_true (by
    have := of_decide_eq_true hxy
    rw [cnt_snoc] at this
    push_cast at this
    split at this <;> omega)) _ 0 (Nat.le_refl _) (by omega)
/-- The first k of the turned numbers, zeros behind. -/
def tvL (xs : List Int) (k : Nat) : List Int := (List.range xs.length).map fun j => if j < k then nth xs (xs.length - 1 - j) else 0
theorem tvL_len (xs : List Int) (k : Nat) : (tvL xs k).length = xs.length := by unfold tvL; rw [List.length_map, List.length_range]
theorem tvL_nth (xs : List Int) (k j : Nat) (h : j < xs.length) : nth (tvL xs k) j = if j < k then nth xs (xs.length - 1 - j) else 0 := nth_map_range _ _ _ h
theorem tvL_zero (xs : List Int) : tvL xs 0 = List.replicate xs.length 0 := by
  apply nth_ext (by rw [tvL_len, List.length_replicate])
  intro j hj
  rw [tvL_len] at hj
  rw [tvL_nth _ _ _ hj, nth_zero, if_neg (by omega)]
theorem tvL_step (xs : List Int) (k : Nat) (h : k < xs.length) : tvL xs (k + 1) = (tvL xs k).set k (nth xs (xs.length - 1 - k)) := by
  apply nth_ext (by rw [tvL_len, List.length_set, tvL_len])
  intro j hj
  rw [tvL_len] at hj
  rw [tvL_nth _ _ _ hj, nth_set _ _ _ _ (by rw [tvL_len]; exact h), tvL_nth _ _ _ hj]
  by_cases e : j = k
  · rw [if_pos (by omega), if_pos e, e]
  · rw [if_neg e]
    by_cases g : j < k
    · rw [if_pos g, if_pos (by omega)]
    · rw [if_neg g, if_neg (by omega)]
theorem tvL_all (xs : List Int) : tvL xs xs.length = xs.reverse := by
  apply nth_ext (by rw [tvL_len, List.length_reverse])
  intro j hj
  rw [tvL_len] at hj
  rw [tvL_nth _ _ _ hj, if_pos hj]
  unfold nth
  rw [List.getD_eq_getElem?_getD, List.getD_eq_getElem?_getD, List.getElem?_reverse hj]

set_option maxRecDepth 100000 in
set_option maxHeartbeats 8000000 in
theorem whMore (A : Option Addr) (cap : Nat) (xs : List Int) (most : Int) (s : Int) (w : World) (hA : Is .i64 w w.heap.size A xs) (hm : xs.length ≤ maxLen) (hs : 0 ≤ s ∧ s ≤ 255) :
    Calls Try.prog 7 #[.slice A xs.length cap, .int .i64 most, .int .u8 s] w fun e w' => e = .returned (.bool true) ∧ Below w.heap.size w w' := by
  have L := long9 none A 0 cap 0 xs.length w (by unfold maxLen; decide) hm
  by_cases hl : 80 < xs.length
  · rw [decide_eq_true (.inr hl)] at L
    have L := Lib.hid L
    clear hA hm hl
    go_enter Try.func7, Try.ntmps7
    go_wp2_with fail
    refine L.out.mono ?_
    rintro e w1 ⟨rfl, rfl⟩
    go_wp2_with fail
    refine (awake10 _).mono ?_
    rintro e w2 ⟨rfl, hb2⟩
    go_wp2_with fail
    go_ret
    exact ⟨rfl, hb2⟩
  · rw [decide_eq_false (by omega)] at L
    have L := Lib.hid L
    have l2 : xs.length ≤ 80 := by omega
    have Cw := Lib.hid hA
    clear hA hm hl
    obtain ⟨s0, s1⟩ := hs
    by_cases hmost : 1000 < most
    · have hmI : decide (1000 < most) = true := decide_eq_true hmost
      go_enter Try.func7, Try.ntmps7
      go_wp2_with fail
      refine L.out.mono ?_
      rintro e w1 ⟨rfl, rfl⟩
      clear L
      go_wp2_with fail
      refine (awake10 _).mono ?_
      rintro e w2 ⟨rfl, hb2⟩
      go_wp2_with fail
      go_ret
      exact ⟨rfl, hb2⟩
    · have hmI : decide (1000 < most) = false := decide_eq_false hmost
      have hmI2 : most ≤ 1000 := by omega
      go_enter Try.func7, Try.ntmps7
      go_wp2_with fail
      refine L.out.mono ?_
      rintro e w1 ⟨rfl, rfl⟩
      clear L
      go_wp2_with fail
      have Bw := Lib.hid (Below.refl w.heap.size w)
      refine (awake10 _).mono ?_
      rintro e w1 ⟨rfl, hb1⟩
      have Bw1 := Lib.hid (Bw.out.trans ((hb1).mono Bw.out.size))
      have Sw1 := (hb1).size
      have Cw1 := Lib.hid (Cw.out.nxt (hb1))
      clear Bw Cw
      clear hb1
      go_wp2_with fail
      refine (plan25 A cap xs most w1.heap.size w1 (Nat.le_refl _) Cw1.out (by omega)).mono ?_
      rintro e w2 ⟨v2, rfl, hv2, hb2⟩
      have Bw2 := Lib.hid (Bw1.out.trans ((hb2).mono Bw1.out.size))
      have Sw2 := (hb2).size
      have Cw2 := Lib.hid (Cw1.out.nxt (hb2))
      clear Bw1 Cw1
      clear hb2
      obtain ⟨A2, C2, rfl, own2⟩ := hv2.own
      have Ow2 := Lib.hid (own2.is)
      clear hv2 own2 hmI
      by_cases hE : plE xs most = 0
      · have hb0 : (plE xs most != 0) = false := by simp [hE]
        have hm1 := (plE_ok.1 hE).2.1
        have wt : IntKind.i64.wrap (most + 1) = most + 1 := IntWalk.i64_in _ (by omega)
        have hwd := pl_wider hE
        have h32 := pl_len hE
        have h33 := (plE_ok.1 hE).2.2.2
        have HE := Lib.hid hE
        obtain ⟨hE1, hlw⟩ := hwd
        have hb1 : (plE xs (most + 1) != 0) = false := by simp [hE1]
        have K1 := fun (W : World) (h1 : Is .i64 W W.heap.size A xs) => plan25 A cap xs (most + 1) W.heap.size W (Nat.le_refl _) h1 (by omega)
        rw [hE1] at K1
        have K1 := Lib.hid K1
        have K2 := fun (A5 : Option Addr) (C5 : Nat) (W : World) (h1 : Is .i64 W W.heap.size A5 xs.reverse) => plan25 A5 C5 xs.reverse most W.heap.size W (Nat.le_refl _) h1 (by rw [List.length_reverse]; omega)
        rw [plE_rev, plL_rev, hE, List.length_reverse] at K2
        have K2 := Lib.hid K2
        have HM := Lib.hid (fun h' => pl_more (xs := xs) (most := most) (s := s) hE h')
        obtain ⟨l, hl⟩ : ∃ l, l = plL xs most := ⟨_, rfl⟩
        obtain ⟨l1, hl1⟩ : ∃ l, l = plL xs (most + 1) := ⟨_, rfl⟩
        rw [← hl] at hlw h32 K2 HM Ow2 ⊢
        rw [← hl1] at hlw K1
        have hlI : (l1.length : Int) ≤ (l.length : Int) := by omega
        have l32 : l.length ≤ 32 := by omega
        obtain ⟨i0, hi0, hz0, hz1, hz2⟩ := info_parts int_info
        have hmk : ∀ W : World, (Instr.makeSlice 23 (.int .i64 (xs.length : Int)) (.int .i64 (xs.length : Int))).run Try.prog W = .ok (.slice (some ⟨W.heap.size, 0, none⟩) xs.length xs.length) (W.alloc (.cells (madeCells #[.int .i64 0] xs.length) 3)) := fun W => by
          have h := run_makeN (P := Try.prog) 23 3 i0 _ Try.underlying23 hi0 hz0 xs.length (by omega) (by omega) W
          rw [hz1, Nat.mul_one] at h
          simpa [Value.cells] using h
        have Hmk := Lib.hid hmk
        clear hE h32 h33 hl hl1 hE1 hb1 hmk hlw
        go_wp2_with fail
        refine (K1.out w2 Cw2.out).mono ?_
        rintro e w3 ⟨v3, rfl, hv3, hb3⟩
        have Bw3 := Lib.hid (Bw2.out.trans ((hb3).mono Bw2.out.size))
        have Sw3 := (hb3).size
        have Cw3 := Lib.hid (Cw2.out.nxt (hb3))
        have Ow3 := Lib.hid (Ow2.out.nxt (hb3))
        clear Bw2 Cw2 Ow2
        clear hb3
        obtain ⟨A3, C3, rfl, -⟩ := hv3.own
        clear hv3 wt hb0
        have hmk := Hmk.out
        go_wp2_with fail
        clear hmk Hmk hlI
        obtain ⟨g, hg⟩ : ∃ g, g = w3.heap.size := ⟨_, rfl⟩
        have O0 := OutB.made w3 xs.length
        rw [← tvL_zero] at O0
        have B0 : Below w3.heap.size w3 (w3.alloc (.cells (madeCells #[.int .i64 0] xs.length) 3)) := (Below.refl _ _).alloc (Nat.le_refl _) _
        have HI := Lib.hid (show OutB (w3.alloc (.cells (madeCells #[.int .i64 0] xs.length) 3)) g 3 (tvL xs 0) ∧ Below g w3 (w3.alloc (.cells (madeCells #[.int .i64 0] xs.length) 3)) from ⟨by rw [hg]; exact O0, by rw [hg]; exact B0⟩)
        have hg1 : w3.heap.size ≤ g := by omega
        have hg2 : g ≤ w3.heap.size := by omega
        rw [← hg]
        clear hg O0 B0
        go_loopw [12] (fun i wr => ∃ k : Nat, k ≤ xs.length ∧ i = .int .i64 k ∧ OutB wr g 3 (tvL xs k) ∧ Below g w3 wr) (fun i _ => xs.length - (intOf i).toNat)
        case atStart => exact ⟨0, Nat.zero_le _, rfl, HI.out⟩
        case round =>
          clear HI
          obtain ⟨k, hk, rfl, hO, hb⟩ := hrel
          have HO := Lib.hid hO
          have HB := Lib.hid hb
          by_cases hlt : k < xs.length
          · obtain ⟨b, off, rfl, hbb, hc⟩ := (Cw3.out.below (hb.mono hg1)) (by omega)
            have c1 := hc (xs.length - 1 - k) (by omega)
            have HS := Lib.hid (tvL_step xs k hlt)
            have o1 := hO.cell (j := k) (by rw [tvL_len]; omega)
            have o2 := hO.frozen k
            obtain ⟨m, hm⟩ : ∃ m, m = xs.length - 1 - k := ⟨_, rfl⟩
            rw [← hm] at c1 HS
            have ei : (xs.length : Int) - 1 - (k : Int) = (m : Int) := by omega
            have hkI : (k : Int) < (xs.length : Int) := by omega
            have hk0 : (0 : Int) ≤ (k : Int) := by omega
            have hm0 : (0 : Int) ≤ (m : Int) := by omega
            have hm1 : (m : Int) < (xs.length : Int) := by omega
            clear hc hm hO hb
            go_wp2_with fail
            exact ⟨⟨k + 1, by omega, by go_num, by rw [HS.out]; exact HO.out.set k _ (by rw [tvL_len]; omega), HB.out.setCell (p := ⟨g, k, none⟩) (Nat.le_refl _) _⟩, by simp [intOf]; omega⟩
          · obtain rfl : k = xs.length := by omega
            have Tr := Lib.hid (show Is .i64 wr wr.heap.size (some ⟨g, 0, none⟩) xs.reverse by
              have := hO.is xs.length (by rw [tvL_len]; exact Nat.le_refl _)
              rw [tvL_all, List.take_of_length_le (by rw [List.length_reverse]; exact Nat.le_refl _)] at this
              exact this)
            have hb := hb.mono hg1
            have Sr := hb.size
            have HBr := Lib.hid hb
            obtain ⟨X, hX⟩ : ∃ X : World, X = wr := ⟨_, rfl⟩
            subst hX
            have BX := Lib.hid (Bw3.out.trans (HBr.out.mono Bw3.out.size))
            have CX := Lib.hid (Cw3.out.nxt HBr.out)
            have OX := Lib.hid (Ow3.out.nxt HBr.out)
            have TX := Lib.hid (show Is .i64 X X.heap.size (some ⟨g, 0, none⟩) xs.reverse from Tr.out)
            have hb0 : ((0 : Int) != 0) = false := by decide
            clear hO hb HO HB Tr HBr
            go_wp2_with fail
            refine (K2.out (some ⟨g, 0, none⟩) xs.length X TX.out).mono ?_
            rintro e w4 ⟨v4, rfl, hv4, hb4⟩
            have Bw4 := Lib.hid (BX.out.trans ((hb4).mono BX.out.size))
            have Sw4 := (hb4).size
            have Cw4 := Lib.hid (CX.out.nxt (hb4))
            have Ow4 := Lib.hid (OX.out.nxt (hb4))
            clear BX CX OX
            clear hb4
            obtain ⟨A4, C4, rfl, own4⟩ := hv4.own
            have Pw4 := Lib.hid (own4.is)
            clear hv4 own4 TX
            go_wp2_with fail
            refine (equalSteps A4 A2 C4 C2 l l w4.heap.size w4 Pw4.out Ow4.out (by omega)).mono ?_
            rintro e w5 ⟨rfl, hd5⟩
            have Bw5 := Lib.hid (Bw4.out.trans ((hd5.below).mono Bw4.out.size))
            have Sw5 := (hd5.below).size
            have Cw5 := Lib.hid (Cw4.out.nxt (hd5.below))
            have Ow5 := Lib.hid (Ow4.out.nxt (hd5.below))
            have Pw5 := Lib.hid (Pw4.out.nxt (hd5.below))
            clear Bw4 Cw4 Ow4 Pw4
            clear hd5
            have d1 : decide (l = l) = true := by simp
            go_wp2_with fail
            clear d1
            clear Pw5
            refine (copyInts A cap xs w5 Cw5.out (by omega)).mono ?_
            rintro e w6 ⟨v6, rfl, hv6, hb6⟩
            have Bw6 := Lib.hid (Bw5.out.trans ((hb6).mono Bw5.out.size))
            have Sw6 := (hb6).size
            have Cw6 := Lib.hid (Cw5.out.nxt (hb6))
            have Ow6 := Lib.hid (Ow5.out.nxt (hb6))
            clear Bw5 Cw5 Ow5
            clear hb6
            have hv6' := Lib.hid (show Acc .i64 w6 w5.heap.size 3 1 v6 xs.length xs from hv6)
            have hbs6 : w5.heap.size ≤ w6.heap.size := Sw6
            obtain ⟨A6, C6, rfl, -⟩ := hv6.own
            clear hv6
            go_wp2_with (at_builtin; refine wpList_app rfl _ _ 23 rfl .i64 w5.heap.size 3 i0 _ 1 8 Try.underlying23 hi0 hz0 hz1 hz2 rfl (by decide) _ _ _ [s] rfl hv6'.out _ rfl rfl rfl (by omega) (by decide) hbs6 ?_; intro v7 w7 hown7 hb7; obtain ⟨A7, C7, rfl, own7⟩ := hown7.own; have S7 := hb7.size; have H7 := Lib.hid (And.intro own7.is hb7); clear own7 hown7 hb7)
            have hm7 := Lib.hid (show Below w.heap.size w w7 from Bw6.out.trans (H7.out.2.mono (by omega)))
            have C7' := plan25 A7 C7 (xs ++ [s]) most w7.heap.size w7 (Nat.le_refl _) H7.out.1 (by simp; omega)
            rw [List.length_append] at C7'
            have C7' := Lib.hid C7'
            refine C7'.out.mono ?_
            rintro e w8 ⟨v8, rfl, hv8, hb8⟩
            obtain ⟨A8, C8, rfl, -⟩ := hv8.own
            have B8 := Lib.hid (hm7.out.trans (hb8.mono hm7.out.size))
            clear hv8 hb8
            by_cases hE8 : plE (xs ++ [s]) most = 0
            · have hb8 : (plE (xs ++ [s]) most != 0) = false := by simp [hE8]
              have hle := HM.out hE8
              have hleI : (l.length : Int) ≤ ((plL (xs ++ [s]) most).length : Int) := by omega
              clear hE8 hle
              go_wp2_with fail
              go_ret
              exact ⟨ret_bool (by first | rfl | (simp; omega)), B8.out⟩
            · have hb8 : (plE (xs ++ [s]) most != 0) = true := by simp [hE8]
              clear hE8
              go_wp2_with fail
              go_ret
              exact ⟨rfl, B8.out⟩
      · have hb0 : (plE xs most != 0) = true := by simp [hE]
        have hl0 := plL_bad hE
        rw [hl0]
        clear hE hl0
        go_wp2_with fail
        go_ret
        exact ⟨rfl, Bw2.out⟩
theorem whWhisperMoreL (A : Option Addr) (len cap : Nat) (zs : List Int) (most s : Int) (w : World) (h2 : IsRow .i64 w A len cap zs) (hs : (Lit.int .u8 s).wf = true) :
    Calls Try.prog 7 #[.slice A len cap, .int .i64 most, .int .u8 s] w fun e w' => e = .returned (.bool true) ∧ Below w.heap.size w w' := by
  obtain ⟨k1, k2, k3, -⟩ := Is.of_row h2
  generalize zs.take len = xs at k1 k2
  subst k2
  exact whMore A cap xs most s w k1 k3 (by simpa [Lit.wf, IntKind.min, IntKind.max, IntKind.signed, IntKind.bits] using hs)

namespace whisperMoreRow
open Go.ChangeShapes Go.WideShapes Go.ChangeAt Go.RowKit
open Go.ChangeMaps (open_string shut_string)
set_option linter.unusedVariables false
theorem own : ownKnob Try.prog.godebug = none := by kernel_rfl
theorem laidOut : laidOutB Try.prog = true := by kernel_rfl
set_option maxRecDepth 100000 in
theorem lifted (os : Os) (started : os.Started) (H : Type) (enc : TypeId × Value → H) :
    ReturnsInHanded {} Try.checked os 7 .any (Rows.whisperMoreSpec.pre6 enc Try.prog Try.f7 Rows.whisperMoreRow.domain false) (Rows.whisperMoreSpec.post enc Try.prog Try.f7 false true false false) := by
  refine returnsInHanded_of_change (C := Try.checked) own started (by kernel_rfl) Try.func7
    (ChangeSpec.witness6 (enc := enc) (C := Try.checked) false ⟨#[], #[.slice none 0 0, .int .i64 0, .int .u8 0], []⟩ 8 (by kernel_rfl) (by kernel_rfl) (by kernel_rfl) (by kernel_rfl)) ?_
  intro W base args ds gs before hval0 hW hcnd _hsz
  have hval : ∀ (j : Nat) t v, Try.f7.params[j]? = some t → args[j]? = some v → Value.okWide Try.prog W .any base t v := hval0
  have hW' := hW
  obtain ⟨p, q, hA0, hV, rfl, hfz, hnd⟩ := hW
  have hA : DataW.TrodAll enc Try.prog W 0 (fun _ => true) true Try.f7.params.toList args.toList ds p := hA0
  rw [Try.params7] at hA hval
  obtain ⟨v0, vs0, d0, ds0, p0, q0, hargs, rfl, rfl, h0, r0⟩ := trodAll_cons hA
  obtain ⟨v1, vs1, d1, ds1, p1, q1, rfl, rfl, rfl, h1, r1⟩ := trodAll_cons r0
  obtain ⟨v2, vs2, d2, ds2, p2, q2, rfl, rfl, rfl, h2, r2⟩ := trodAll_cons r1
  obtain ⟨rfl, rfl, rfl⟩ := trodAll_nil r2
  obtain rfl : args = #[v0, v1, v2] := by cases args; simp_all
  obtain ⟨rfl, rfl⟩ := trodVars_none hV
  have k0 := h0
  have lt0 : ∀ x ∈ p0, x.block < W.heap.size := by obtain ⟨m, hm⟩ := k0; exact DataW.trod_lt m _ _ _ hm
  have k1 := h1
  have lt1 : ∀ x ∈ p1, x.block < W.heap.size := by obtain ⟨m, hm⟩ := k1; exact DataW.trod_lt m _ _ _ hm
  have k2 := h2
  have lt2 : ∀ x ∈ p2, x.block < W.heap.size := by obtain ⟨m, hm⟩ := k2; exact DataW.trod_lt m _ _ _ hm
  obtain ⟨a0, len0, cap0, rfl⟩ := okWide_slice Try.underlying23 (hval 0 23 v0 rfl rfl)
  obtain ⟨z0, w0⟩ : ∃ zs, IsRow .i64 W a0 len0 cap0 zs := by
    obtain ⟨fuel, hf⟩ := h0
    rcases open_ints Try.underlying23 Try.underlying3 (by kernel_rfl) hf with ⟨hcs, _⟩ | ⟨x, l, c, zs, hcs, _, hl, hm, hz, _, hcell, hwz⟩
    · simp [Value.cells] at hcs
      obtain ⟨rfl, rfl, rfl⟩ := hcs
      exact ⟨[], .inl ⟨rfl, rfl, rfl, rfl⟩⟩
    · simp [Value.cells] at hcs
      obtain ⟨rfl, rfl, rfl⟩ := hcs
      exact ⟨zs, .inr ⟨_, rfl, hl, hm, by simpa using hz, hcell, hwz⟩⟩
  obtain ⟨a1, rfl, -, -, w1⟩ := open_int Try.underlying3 (hval 1 3 v1 rfl rfl) h1
  obtain ⟨a2, rfl, -, -, w2⟩ := open_int Try.underlying5 (hval 2 5 v2 rfl rfl) h2
  clear hA0 hval0
  refine (whWhisperMoreL a0 len0 cap0 z0 a1 a2 W w0 w2).mono fun e W' ⟨he, bel⟩ => ?_
  subst he
  exact ⟨_, rfl, _, _, _, [], _, [], hW', trodAll_mk1 (shut_bool Try.underlying4 _), (trodAll_cons_mk (Below.trod laidOut (by kernel_rfl) (of_decide_eq_true (by kernel_rfl)) k0 bel lt0) (trodAll_cons_mk (Below.trod laidOut (by kernel_rfl) (of_decide_eq_true (by kernel_rfl)) k1 bel lt1) (trodAll_cons_mk (Below.trod laidOut (by kernel_rfl) (of_decide_eq_true (by kernel_rfl)) k2 bel lt2) trodAll_mk0))), rfl, bel.frame _, fun h => by cases h⟩

theorem over : Rows.whisperMoreRow.holds Try.pinned (OpenSpec.ofChange Rows.whisperMoreSpec) :=
  OpenClaim.holds_of_wide 7 Try.f7 rfl rfl rfl rfl rfl rfl rfl ⟨rfl, rfl, rfl, rfl, rfl⟩ rfl rfl rfl rfl rfl (by kernel_rfl) Try.func7 (by kernel_rfl)
    (of_decide_eq_true (by kernel_rfl)) (by unfold Func.isWrapper; first | (rw [if_pos (by decide +kernel)]; kernel_rfl) | (rw [if_neg (by decide +kernel)]; exact ⟨rfl, rfl⟩))
    (fun os started H enc _ => lifted os started H enc)
theorem proved : Rows.WhisperMoreSaid := over
end whisperMoreRow
end Go.Proofs.Ytlbchidgadcmpaa
