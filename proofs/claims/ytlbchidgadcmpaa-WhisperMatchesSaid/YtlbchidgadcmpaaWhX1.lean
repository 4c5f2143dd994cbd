/- WhisperMatches returns true for every input. -/
import Derived.Test.YtlbchidgadcmpaaRows
import Derived.WalkKit
import Derived.WalkLawsBesides
import Derived.WalkSpells
import Derived.ProofKit
import Derived.Below
import Derived.Outline
import Derived.Lib.Hide
import Derived.Deep.RegionWith
import Derived.Deep.RegionHeld3
import Derived.Deep.DrawnRows
import Derived.StillTailTactics
import Derived.BigQuiet
import Derived.Deep.QuietTactic
import Derived.Deep.LoopGhost
import Derived.IntWalk
import Derived.Test.YtlbchidgadcmpaaWhO
import Derived.Test.YtlbchidgadcmpaaKS
import Derived.Deep.DeepCutAuto
import Derived.WalkKit
import Derived.ProofKit
import Derived.OpenShut
import Derived.ShutString
import Derived.ChangeOld
import Derived.Below
import Derived.Lib.SmallJoins
namespace Go.Proofs.Ytlbchidgadcmpaa
open Go.RowKit
attribute [local go_sem ↓] Go.wp_at_zero Go.wp_at_succ
attribute [local go_sem] wrap_lit

set_option maxRecDepth 100000 in
set_option maxHeartbeats 8000000 in
theorem whMatches (A A' : Option Addr) (cap cap' : Nat) (st : List (Int × Int)) (xs : List Int) (w : World) (hA : Is .i64 w w.heap.size A (flatS st)) (hn : A = none → cap = 0) (hA' : Is .i64 w w.heap.size A' xs) (hm : st.length ≤ maxLen) (hm' : xs.length ≤ maxLen) :
    Calls Try.prog 3 #[.slice A st.length cap, .slice A' xs.length cap'] w fun e w' => e = .returned (.bool true) ∧ Below w.heap.size w w' := by
  have L := long9 A A' cap cap' st.length xs.length w hm hm'
  by_cases hl : 40 < st.length ∨ 80 < xs.length
  · rw [decide_eq_true hl] at L
    have L := Lib.hid L
    clear hA hA' hm hm' hl
    go_enter Try.func3, Try.ntmps3
    go_wp2_with fail
    refine L.out.mono ?_
    rintro e w1 ⟨rfl, rfl⟩
    go_wp2_with fail
    refine (awake10 _).mono ?_
    rintro e w2 ⟨rfl, hb2⟩
    go_wp2_with fail
    go_ret
    exact ⟨rfl, hb2⟩
  · rw [decide_eq_false hl] at L
    have L := Lib.hid L
    have l1 : st.length ≤ 40 := by omega
    have l2 : xs.length ≤ 80 := by omega
    have Aw := Lib.hid hA
    have Cw := Lib.hid hA'
    have Hn := Lib.hid hn
    have q1 : (rpE st xs != rpE st xs) = false := by simp
    have q2 : (ckT st != ckT st) = false := by simp
    have q3 : (wsV st xs != wsV st xs) = false := by simp
    have q4 : (tlB st != tlB st) = false := by simp
    have r32 := rpL_len st xs
    have R64 := Lib.hid (fun r => rpL_row64 st xs r)
    clear hA hA' hm hm' hl hn
    go_enter Try.func3, Try.ntmps3
    go_wp2_with fail
    refine L.out.mono ?_
    rintro e w1 ⟨rfl, rfl⟩
    clear L
    go_wp2_with fail
    have Bw := Lib.hid (Below.refl w.heap.size w)
    refine (copySteps A cap st w Aw.out Hn.out (by omega)).mono ?_
    rintro e w1 ⟨v1, rfl, hv1, hb1⟩
    have Bw1 := Lib.hid (Bw.out.trans ((hb1).mono Bw.out.size))
    have Sw1 := (hb1).size
    have Aw1 := Lib.hid (Aw.out.nxt (hb1))
    have Cw1 := Lib.hid (Cw.out.nxt (hb1))
    clear Bw Aw Cw
    clear hb1
    obtain ⟨A1, C1, rfl, own1⟩ := hv1.own
    have Pw1 := Lib.hid (own1.is)
    clear hv1 own1
    go_wp2_with fail
    refine (copyInts A' cap' xs w1 Cw1.out (by omega)).mono ?_
    rintro e w2 ⟨v2, rfl, hv2, hb2⟩
    have Bw2 := Lib.hid (Bw1.out.trans ((hb2).mono Bw1.out.size))
    have Sw2 := (hb2).size
    have Aw2 := Lib.hid (Aw1.out.nxt (hb2))
    have Cw2 := Lib.hid (Cw1.out.nxt (hb2))
    have Pw2 := Lib.hid (Pw1.out.nxt (hb2))
    clear Bw1 Aw1 Cw1 Pw1
    clear hb2
    obtain ⟨A2, C2, rfl, own2⟩ := hv2.own
    have Qw2 := Lib.hid (own2.is)
    clear hv2 own2
    go_wp2_with fail
    have LKw2 : w2.heap.size ≤ w2.heap.size := by omega
    have Akw2 := Aw2
    have Ckw2 := Cw2
    have Pkw2 := Pw2
    have Qkw2 := Qw2
    refine (rep13 A1 A2 C1 C2 st xs w2.heap.size w2 (Nat.le_refl _) Pw2.out Qw2.out (by omega) (by omega)).mono ?_
    rintro e w3 ⟨A3, C3, rfl, ro3, hb3⟩
    have Bw3 := Lib.hid (Bw2.out.trans ((hb3).mono Bw2.out.size))
    have Sw3 := (hb3).size
    have Aw3 := Lib.hid (Aw2.out.nxt (hb3))
    have Cw3 := Lib.hid (Cw2.out.nxt (hb3))
    have Pw3 := Lib.hid (Pw2.out.nxt (hb3))
    have Qw3 := Lib.hid (Qw2.out.nxt (hb3))
    have Akw3 := Lib.hid (Akw2.out.below ((hb3).mono LKw2))
    have Ckw3 := Lib.hid (Ckw2.out.below ((hb3).mono LKw2))
    have Pkw3 := Lib.hid (Pkw2.out.below ((hb3).mono LKw2))
    have Qkw3 := Lib.hid (Qkw2.out.below ((hb3).mono LKw2))
    have LKw3 : w2.heap.size ≤ w3.heap.size := by omega
    clear Bw2 Aw2 Cw2 Pw2 Qw2 Akw2 Ckw2 Pkw2 Qkw2
    have Ow3 := Lib.hid (ro3)
    clear hb3 ro3
    go_wp2_with fail
    refine (rep14 A A' cap cap' st xs w3.heap.size w3 (Nat.le_refl _) Aw3.out Cw3.out (by omega) (by omega)).mono ?_
    rintro e w4 ⟨A4, C4, rfl, ro4, hb4⟩
    have Bw4 := Lib.hid (Bw3.out.trans ((hb4).mono Bw3.out.size))
    have Sw4 := (hb4).size
    have Aw4 := Lib.hid (Aw3.out.nxt (hb4))
    have Cw4 := Lib.hid (Cw3.out.nxt (hb4))
    have Pw4 := Lib.hid (Pw3.out.nxt (hb4))
    have Qw4 := Lib.hid (Qw3.out.nxt (hb4))
    have Akw4 := Lib.hid (Akw3.out.below ((hb4).mono LKw3))
    have Ckw4 := Lib.hid (Ckw3.out.below ((hb4).mono LKw3))
    have Pkw4 := Lib.hid (Pkw3.out.below ((hb4).mono LKw3))
    have Qkw4 := Lib.hid (Qkw3.out.below ((hb4).mono LKw3))
    have Ow4 := Lib.hid (Ow3.out.below (hb4))
    have LKw4 : w2.heap.size ≤ w4.heap.size := by omega
    clear Bw3 Aw3 Cw3 Pw3 Qw3 Akw3 Ckw3 Pkw3 Qkw3 Ow3
    have Rw4 := Lib.hid (ro4)
    clear hb4 ro4
    go_wp2_with fail
    refine (worst15 A1 A2 C1 C2 st xs w4.heap.size w4 (Nat.le_refl _) Pw4.out Qw4.out (by omega) (by omega)).mono ?_
    rintro e w5 ⟨rfl, hb5⟩
    have Bw5 := Lib.hid (Bw4.out.trans ((hb5).mono Bw4.out.size))
    have Sw5 := (hb5).size
    have Aw5 := Lib.hid (Aw4.out.nxt (hb5))
    have Cw5 := Lib.hid (Cw4.out.nxt (hb5))
    have Pw5 := Lib.hid (Pw4.out.nxt (hb5))
    have Qw5 := Lib.hid (Qw4.out.nxt (hb5))
    have Akw5 := Lib.hid (Akw4.out.below ((hb5).mono LKw4))
    have Ckw5 := Lib.hid (Ckw4.out.below ((hb5).mono LKw4))
    have Pkw5 := Lib.hid (Pkw4.out.below ((hb5).mono LKw4))
    have Qkw5 := Lib.hid (Qkw4.out.below ((hb5).mono LKw4))
    have Ow5 := Lib.hid (Ow4.out.below (hb5))
    have Rw5 := Lib.hid (Rw4.out.nxt (hb5))
    have LKw5 : w2.heap.size ≤ w5.heap.size := by omega
    clear Bw4 Aw4 Cw4 Pw4 Qw4 Akw4 Ckw4 Pkw4 Qkw4 Ow4 Rw4
    clear hb5
    go_wp2_with fail
    refine (worst16 A A' cap cap' st xs w5.heap.size w5 (Nat.le_refl _) Aw5.out Cw5.out (by omega) (by omega)).mono ?_
    rintro e w6 ⟨rfl, hb6⟩
    have Bw6 := Lib.hid (Bw5.out.trans ((hb6).mono Bw5.out.size))
    have Sw6 := (hb6).size
    have Aw6 := Lib.hid (Aw5.out.nxt (hb6))
    have Cw6 := Lib.hid (Cw5.out.nxt (hb6))
    have Pw6 := Lib.hid (Pw5.out.nxt (hb6))
    have Qw6 := Lib.hid (Qw5.out.nxt (hb6))
    have Akw6 := Lib.hid (Akw5.out.below ((hb6).mono LKw5))
    have Ckw6 := Lib.hid (Ckw5.out.below ((hb6).mono LKw5))
    have Pkw6 := Lib.hid (Pkw5.out.below ((hb6).mono LKw5))
    have Qkw6 := Lib.hid (Qkw5.out.below ((hb6).mono LKw5))
    have Ow6 := Lib.hid (Ow5.out.below (hb6))
    have Rw6 := Lib.hid (Rw5.out.nxt (hb6))
    have LKw6 : w2.heap.size ≤ w6.heap.size := by omega
    clear Bw5 Aw5 Cw5 Pw5 Qw5 Akw5 Ckw5 Pkw5 Qkw5 Ow5 Rw5
    clear hb6
    go_wp2_with fail
    refine (tiles17 A1 C1 st w6.heap.size w6 (Nat.le_refl _) Pw6.out (by omega)).mono ?_
    rintro e w7 ⟨rfl, hb7⟩
    have Bw7 := Lib.hid (Bw6.out.trans ((hb7).mono Bw6.out.size))
    have Sw7 := (hb7).size
    have Aw7 := Lib.hid (Aw6.out.nxt (hb7))
    have Cw7 := Lib.hid (Cw6.out.nxt (hb7))
    have Pw7 := Lib.hid (Pw6.out.nxt (hb7))
    have Qw7 := Lib.hid (Qw6.out.nxt (hb7))
    have Akw7 := Lib.hid (Akw6.out.below ((hb7).mono LKw6))
    have Ckw7 := Lib.hid (Ckw6.out.below ((hb7).mono LKw6))
    have Pkw7 := Lib.hid (Pkw6.out.below ((hb7).mono LKw6))
    have Qkw7 := Lib.hid (Qkw6.out.below ((hb7).mono LKw6))
    have Ow7 := Lib.hid (Ow6.out.below (hb7))
    have Rw7 := Lib.hid (Rw6.out.nxt (hb7))
    have LKw7 : w2.heap.size ≤ w7.heap.size := by omega
    clear Bw6 Aw6 Cw6 Pw6 Qw6 Akw6 Ckw6 Pkw6 Qkw6 Ow6 Rw6
    clear hb7
    go_wp2_with fail
    refine (tiles18 A cap st w7.heap.size w7 (Nat.le_refl _) Aw7.out (by omega)).mono ?_
    rintro e w8 ⟨rfl, hb8⟩
    have Bw8 := Lib.hid (Bw7.out.trans ((hb8).mono Bw7.out.size))
    have Sw8 := (hb8).size
    have Aw8 := Lib.hid (Aw7.out.nxt (hb8))
    have Cw8 := Lib.hid (Cw7.out.nxt (hb8))
    have Pw8 := Lib.hid (Pw7.out.nxt (hb8))
    have Qw8 := Lib.hid (Qw7.out.nxt (hb8))
    have Akw8 := Lib.hid (Akw7.out.below ((hb8).mono LKw7))
    have Ckw8 := Lib.hid (Ckw7.out.below ((hb8).mono LKw7))
    have Pkw8 := Lib.hid (Pkw7.out.below ((hb8).mono LKw7))
    have Qkw8 := Lib.hid (Qkw7.out.below ((hb8).mono LKw7))
    have Ow8 := Lib.hid (Ow7.out.below (hb8))
    have Rw8 := Lib.hid (Rw7.out.nxt (hb8))
    have LKw8 : w2.heap.size ≤ w8.heap.size := by omega
    clear Bw7 Aw7 Cw7 Pw7 Qw7 Akw7 Ckw7 Pkw7 Qkw7 Ow7 Rw7
    clear hb8
    go_wp2_with fail
    refine (check19 A1 C1 st w8.heap.size w8 (Nat.le_refl _) Pw8.out (by omega)).mono ?_
    rintro e w9 ⟨rfl, hb9⟩
    have Bw9 := Lib.hid (Bw8.out.trans ((hb9).mono Bw8.out.size))
    have Sw9 := (hb9).size
    have Aw9 := Lib.hid (Aw8.out.nxt (hb9))
    have Cw9 := Lib.hid (Cw8.out.nxt (hb9))
    have Pw9 := Lib.hid (Pw8.out.nxt (hb9))
    have Qw9 := Lib.hid (Qw8.out.nxt (hb9))
    have Akw9 := Lib.hid (Akw8.out.below ((hb9).mono LKw8))
    have Ckw9 := Lib.hid (Ckw8.out.below ((hb9).mono LKw8))
    have Pkw9 := Lib.hid (Pkw8.out.below ((hb9).mono LKw8))
    have Qkw9 := Lib.hid (Qkw8.out.below ((hb9).mono LKw8))
    have Ow9 := Lib.hid (Ow8.out.below (hb9))
    have Rw9 := Lib.hid (Rw8.out.nxt (hb9))
    have LKw9 : w2.heap.size ≤ w9.heap.size := by omega
    clear Bw8 Aw8 Cw8 Pw8 Qw8 Akw8 Ckw8 Pkw8 Qkw8 Ow8 Rw8
    clear hb9
    go_wp2_with fail
    refine (check20 A cap st w9.heap.size w9 (Nat.le_refl _) Aw9.out (by omega)).mono ?_
    rintro e x0 ⟨rfl, hbx0⟩
    have Bx0 := Lib.hid (Bw9.out.trans ((hbx0).mono Bw9.out.size))
    have Sx0 := (hbx0).size
    have Ax0 := Lib.hid (Aw9.out.nxt (hbx0))
    have Cx0 := Lib.hid (Cw9.out.nxt (hbx0))
    have Px0 := Lib.hid (Pw9.out.nxt (hbx0))
    have Qx0 := Lib.hid (Qw9.out.nxt (hbx0))
    have Akx0 := Lib.hid (Akw9.out.below ((hbx0).mono LKw9))
    have Ckx0 := Lib.hid (Ckw9.out.below ((hbx0).mono LKw9))
    have Pkx0 := Lib.hid (Pkw9.out.below ((hbx0).mono LKw9))
    have Qkx0 := Lib.hid (Qkw9.out.below ((hbx0).mono LKw9))
    have Ox0 := Lib.hid (Ow9.out.below (hbx0))
    have Rx0 := Lib.hid (Rw9.out.nxt (hbx0))
    have LKx0 : w2.heap.size ≤ x0.heap.size := by omega
    clear Bw9 Aw9 Cw9 Pw9 Qw9 Akw9 Ckw9 Pkw9 Qkw9 Ow9 Rw9
    clear hbx0
    go_wp2_with fail
    refine (equalRows A3 A4 C3 C4 (rpL st xs) x0.heap.size x0 Ox0.out.ris Rx0.out (by omega) (fun r _ => Nat.le_trans (R64.out r) (by decide))).mono ?_
    rintro e x1 ⟨rfl, hdx1⟩
    have Bx1 := Lib.hid (Bx0.out.trans ((hdx1.below).mono Bx0.out.size))
    have Sx1 := (hdx1.below).size
    have Ax1 := Lib.hid (Ax0.out.nxt (hdx1.below))
    have Cx1 := Lib.hid (Cx0.out.nxt (hdx1.below))
    have Px1 := Lib.hid (Px0.out.nxt (hdx1.below))
    have Qx1 := Lib.hid (Qx0.out.nxt (hdx1.below))
    have Akx1 := Lib.hid (Akx0.out.below ((hdx1.below).mono LKx0))
    have Ckx1 := Lib.hid (Ckx0.out.below ((hdx1.below).mono LKx0))
    have Pkx1 := Lib.hid (Pkx0.out.below ((hdx1.below).mono LKx0))
    have Qkx1 := Lib.hid (Qkx0.out.below ((hdx1.below).mono LKx0))
    have Ox1 := Lib.hid (Ox0.out.below (hdx1.below))
    have Rx1 := Lib.hid (Rx0.out.nxt (hdx1.below))
    have LKx1 : w2.heap.size ≤ x1.heap.size := by omega
    clear Bx0 Ax0 Cx0 Px0 Qx0 Akx0 Ckx0 Pkx0 Qkx0 Ox0 Rx0
    clear hdx1
    go_wp2_with fail
    refine (overRows A3 C3 (rpL st xs) w2.heap.size x1 Ox1.out (by omega) (fun r => Nat.le_trans (R64.out r) (by decide))).mono ?_
    rintro e x2 ⟨rfl, hbx2⟩
    have Bx2 := Lib.hid (Bx1.out.trans ((hbx2).mono (by omega)))
    have Sx2 := (hbx2).size
    have Akx2 := Lib.hid (Akx1.out.below (hbx2))
    have Ckx2 := Lib.hid (Ckx1.out.below (hbx2))
    have Pkx2 := Lib.hid (Pkx1.out.below (hbx2))
    have Qkx2 := Lib.hid (Qkx1.out.below (hbx2))
    have LKx2 : w2.heap.size ≤ x2.heap.size := by omega
    clear Bx1 Ax1 Cx1 Px1 Qx1 Akx1 Ckx1 Pkx1 Qkx1 Ox1 Rx1
    clear hbx2
    go_wp2_with fail
    refine (equalSteps A1 A C1 cap st st w2.heap.size x2 Pkx2.out Akx2.out (by omega)).mono ?_
    rintro e x3 ⟨rfl, hdx3⟩
    have Bx3 := Lib.hid (Bx2.out.trans ((hdx3.below).mono Bx2.out.size))
    have Sx3 := (hdx3.below).size
    have Akx3 := Lib.hid (Akx2.out.below ((hdx3.below).mono LKx2))
    have Ckx3 := Lib.hid (Ckx2.out.below ((hdx3.below).mono LKx2))
    have Pkx3 := Lib.hid (Pkx2.out.below ((hdx3.below).mono LKx2))
    have Qkx3 := Lib.hid (Qkx2.out.below ((hdx3.below).mono LKx2))
    have LKx3 : w2.heap.size ≤ x3.heap.size := by omega
    clear Bx2 Akx2 Ckx2 Pkx2 Qkx2
    clear hdx3
    have d1 : decide (st = st) = true := by simp
    go_wp2_with fail
    refine (equalInts A2 A' C2 cap' xs xs w2.heap.size x3 Qkx3.out Ckx3.out (by omega)).mono ?_
    rintro e x4 ⟨rfl, hdx4⟩
    have Bx4 := Lib.hid (Bx3.out.trans (((show DrN x3 x4 from hdx4).below).mono Bx3.out.size))
    have Sx4 := ((show DrN x3 x4 from hdx4).below).size
    have Akx4 := Lib.hid (Akx3.out.below (((show DrN x3 x4 from hdx4).below).mono LKx3))
    have Ckx4 := Lib.hid (Ckx3.out.below (((show DrN x3 x4 from hdx4).below).mono LKx3))
    have Pkx4 := Lib.hid (Pkx3.out.below (((show DrN x3 x4 from hdx4).below).mono LKx3))
    have Qkx4 := Lib.hid (Qkx3.out.below (((show DrN x3 x4 from hdx4).below).mono LKx3))
    have LKx4 : w2.heap.size ≤ x4.heap.size := by omega
    clear Bx3 Akx3 Ckx3 Pkx3 Qkx3
    clear hdx4
    have d2 : decide (xs = xs) = true := by simp
    go_wp2_with fail
    refine (awake10 _).mono ?_
    rintro e x5 ⟨rfl, hbx5⟩
    have Bx5 := Lib.hid (Bx4.out.trans ((hbx5).mono Bx4.out.size))
    have Sx5 := (hbx5).size
    have Akx5 := Lib.hid (Akx4.out.below ((hbx5).mono LKx4))
    have Ckx5 := Lib.hid (Ckx4.out.below ((hbx5).mono LKx4))
    have Pkx5 := Lib.hid (Pkx4.out.below ((hbx5).mono LKx4))
    have Qkx5 := Lib.hid (Qkx4.out.below ((hbx5).mono LKx4))
    have LKx5 : w2.heap.size ≤ x5.heap.size := by omega
    clear Bx4 Akx4 Ckx4 Pkx4 Qkx4
    clear hbx5
    go_wp2_with fail
    go_ret
    exact ⟨rfl, Bx5.out⟩
theorem whWhisperMatchesL (A : Option Addr) (len cap : Nat) (st : List (Int × Int)) (A' : Option Addr) (len' cap' : Nat) (zs : List Int) (w : World) (hA : Is .i64 w w.heap.size A (flatS st)) (hl : st.length = len) (hn : A = none → cap = 0) (hm : st.length ≤ maxLen) (h2 : IsRow .i64 w A' len' cap' zs) :
    Calls Try.prog 3 #[.slice A len cap, .slice A' len' cap'] w fun e w' => e = .returned (.bool true) ∧ Below w.heap.size w w' := by
  subst hl
  obtain ⟨k1, k2, k3, -⟩ := Is.of_row h2
  generalize zs.take len' = xs at k1 k2
  subst k2
  exact whMatches A A' cap cap' st xs w hA hn k1 hm k3

namespace whisperMatchesRow
open Go.ChangeShapes Go.WideShapes Go.ChangeAt Go.RowKit
open Go.ChangeMaps (open_string shut_string)
set_option linter.unusedVariables false
theorem own : ownKnob Try.prog.godebug = none := by kernel_rfl
theorem laidOut : laidOutB Try.prog = true := by kernel_rfl
set_option maxRecDepth 100000 in
theorem lifted (os : Os) (started : os.Started) (H : Type) (enc : TypeId × Value → H) :
    ReturnsInHanded {} Try.checked os 3 .any (Rows.whisperMatchesSpec.pre6 enc Try.prog Try.f3 Rows.whisperMatchesRow.domain false) (Rows.whisperMatchesSpec.post enc Try.prog Try.f3 false true false false) := by
  refine returnsInHanded_of_change (C := Try.checked) own started (by kernel_rfl) Try.func3
    (ChangeSpec.witness6 (enc := enc) (C := Try.checked) false ⟨#[], #[.slice none 0 0, .slice none 0 0], []⟩ 8 (by kernel_rfl) (by kernel_rfl) (by kernel_rfl) (by kernel_rfl)) ?_
  intro W base args ds gs before hval0 hW hcnd _hsz
  have hval : ∀ (j : Nat) t v, Try.f3.params[j]? = some t → args[j]? = some v → Value.okWide Try.prog W .any base t v := hval0
  have hW' := hW
  obtain ⟨p, q, hA0, hV, rfl, hfz, hnd⟩ := hW
  have hA : DataW.TrodAll enc Try.prog W 0 (fun _ => true) true Try.f3.params.toList args.toList ds p := hA0
  rw [Try.params3] at hA hval
  obtain ⟨v0, vs0, d0, ds0, p0, q0, hargs, rfl, rfl, h0, r0⟩ := trodAll_cons hA
  obtain ⟨v1, vs1, d1, ds1, p1, q1, rfl, rfl, rfl, h1, r1⟩ := trodAll_cons r0
  obtain ⟨rfl, rfl, rfl⟩ := trodAll_nil r1
  obtain rfl : args = #[v0, v1] := by cases args; simp_all
  obtain ⟨rfl, rfl⟩ := trodVars_none hV
  have k0 := h0
  have lt0 : ∀ x ∈ p0, x.block < W.heap.size := by obtain ⟨m, hm⟩ := k0; exact DataW.trod_lt m _ _ _ hm
  have k1 := h1
  have lt1 : ∀ x ∈ p1, x.block < W.heap.size := by obtain ⟨m, hm⟩ := k1; exact DataW.trod_lt m _ _ _ hm
  obtain ⟨a0, len0, cap0, rfl⟩ := okWide_slice Try.underlying22 (hval 0 22 v0 rfl rfl)
  obtain ⟨m0, w0, l0, n0, x0⟩ : ∃ st : List (Int × Int), Is .i64 W W.heap.size a0 (flatS st) ∧ st.length = len0 ∧ (a0 = none → cap0 = 0) ∧ st.length ≤ maxLen := by
    obtain ⟨fuel, hf⟩ := h0
    rcases open_flat (n := 9) .i64 2 (by decide) (by kernel_rfl) (by kernel_rfl) Try.underlying22 hf with hcs | ⟨x, l, c, xs, hcs, hl, hm, hx, hi, -⟩
    · simp [Value.cells] at hcs
      obtain ⟨rfl, rfl, rfl⟩ := hcs
      exact ⟨[], fun h => by simp [flatS] at h, rfl, fun _ => rfl, Nat.zero_le _⟩
    · simp [Value.cells] at hcs
      obtain ⟨rfl, rfl, rfl⟩ := hcs
      have hu := unflat_len xs len0
      exact ⟨unflat xs len0, by rw [unflat_flat xs len0 (by omega), List.take_of_length_le (by omega)]; exact hi, hu, fun h => by simp at h, by omega⟩
  obtain ⟨a1, len1, cap1, rfl⟩ := okWide_slice Try.underlying23 (hval 1 23 v1 rfl rfl)
  obtain ⟨z1, w1⟩ : ∃ zs, IsRow .i64 W a1 len1 cap1 zs := by
    obtain ⟨fuel, hf⟩ := h1
    rcases open_ints Try.underlying23 Try.underlying3 (by kernel_rfl) hf with ⟨hcs, _⟩ | ⟨x, l, c, zs, hcs, _, hl, hm, hz, _, hcell, hwz⟩
    · simp [Value.cells] at hcs
      obtain ⟨rfl, rfl, rfl⟩ := hcs
      exact ⟨[], .inl ⟨rfl, rfl, rfl, rfl⟩⟩
    · simp [Value.cells] at hcs
      obtain ⟨rfl, rfl, rfl⟩ := hcs
      exact ⟨zs, .inr ⟨_, rfl, hl, hm, by simpa using hz, hcell, hwz⟩⟩
  clear hA0 hval0
  refine (whWhisperMatchesL a0 len0 cap0 m0 a1 len1 cap1 z1 W w0 l0 n0 x0 w1).mono fun e W' ⟨he, bel⟩ => ?_
  subst he
  exact ⟨_, rfl, _, _, _, [], _, [], hW', trodAll_mk1 (shut_bool Try.underlying4 _), (trodAll_cons_mk (Below.trod laidOut (by kernel_rfl) (of_decide_eq_true (by kernel_rfl)) k0 bel lt0) (trodAll_cons_mk (Below.trod laidOut (by kernel_rfl) (of_decide_eq_true (by kernel_rfl)) k1 bel lt1) trodAll_mk0)), rfl, bel.frame _, fun h => by cases h⟩

theorem over : Rows.whisperMatchesRow.holds Try.pinned (OpenSpec.ofChange Rows.whisperMatchesSpec) :=
  OpenClaim.holds_of_wide 3 Try.f3 rfl rfl rfl rfl rfl rfl rfl ⟨rfl, rfl, rfl, rfl, rfl⟩ rfl rfl rfl rfl rfl (by kernel_rfl) Try.func3 (by kernel_rfl)
    (of_decide_eq_true (by kernel_rfl)) (by unfold Func.isWrapper; first | (rw [if_pos (by decide +kernel)]; kernel_rfl) | (rw [if_neg (by decide +kernel)]; exact ⟨rfl, rfl⟩))
    (fun os started H enc _ => lifted os started H enc)
theorem proved : Rows.WhisperMatchesSaid := over
end whisperMatchesRow
end Go.Proofs.Ytlbchidgadcmpaa
