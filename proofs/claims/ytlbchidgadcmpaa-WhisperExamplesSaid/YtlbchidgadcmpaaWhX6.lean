/- WhisperExamples returns true. -/
import Derived.Test.YtlbchidgadcmpaaRows
import Derived.WalkKit
import Derived.WalkLawsBesides
import Derived.WalkSpells
import Derived.ProofKit
import Derived.Below
import Derived.Outline
import Derived.Lib.Hide
import Derived.Deep.RegionWith
import Derived.Deep.RegionHeld3
import Derived.Deep.DrawnRows
import Derived.StillTailTactics
import Derived.BigQuiet
import Derived.Deep.QuietTactic
import Derived.Deep.LoopGhost
import Derived.IntWalk
import Derived.Test.YtlbchidgadcmpaaWhV
import Derived.Deep.DeepCutAuto
import Derived.Deep.CutBlock
import Derived.WalkKit
import Derived.ProofKit
import Derived.OpenShut
import Derived.ShutString
import Derived.ChangeOld
import Derived.Below
import Derived.Lib.SmallJoins
namespace Go.Proofs.Ytlbchidgadcmpaa
open Go.RowKit
attribute [local go_sem ↓] Go.wp_at_zero Go.wp_at_succ
attribute [local go_sem] wrap_lit

set_option maxRecDepth 100000 in
set_option maxHeartbeats 16000000 in
theorem whExamples (w : World) : Calls Try.prog 8 #[] w fun e w' => e = .returned (.bool true) ∧ Below w.heap.size w w' := by
  obtain ⟨i0, hi0, hz0, hz1, hz2⟩ := info_parts int_info
  obtain ⟨i1, hj0, hy0, hy1, hy2⟩ := info_parts Step_info
  have k65 : ∀ W : World, (Instr.makeSlice 23 (.int .i64 65) (.int .i64 65)).run Try.prog W = .ok (.slice (some ⟨W.heap.size, 0, none⟩) 65 65) (W.alloc (.cells (madeCells #[.int .i64 0] 65) 3)) := fun W => by
    have h := run_makeN (P := Try.prog) 23 3 i0 _ Try.underlying23 hi0 hz0 65 (by omega) (by omega) W
    rw [hz1, Nat.mul_one] at h
    simpa [Value.cells] using h
  have k33 : ∀ W : World, (Instr.makeSlice 22 (.int .i64 33) (.int .i64 33)).run Try.prog W = .ok (.slice (some ⟨W.heap.size, 0, none⟩) 33 33) (W.alloc (.cells (madeCells #[.int .i64 0, .int .i64 0] 66) 44)) := fun W => by
    have h := run_makeN (P := Try.prog) 22 44 i1 _ Try.underlying22 hj0 hy0 33 (by omega) (by omega) W
    rw [hy1] at h
    simpa [Value.cells] using h
  have K := Lib.hid (And.intro k65 k33)
  clear k65 k33 hj0 hy0 hy1 hy2
  go_enter Try.func8, Try.ntmps8
  go_wp2_with fail
  have Bw := Lib.hid (Below.refl w.heap.size w)
  refine (awake10 _).mono ?_
  rintro e w1 ⟨rfl, hb1⟩
  have Bw1 := Lib.hid (Bw.out.trans ((hb1).mono Bw.out.size))
  have Sw1 := (hb1).size
  clear Bw
  clear hb1
  go_upto_block 0 with fail
  obtain ⟨x0, hx0⟩ : ∃ x0, x0 = w1.alloc (.cells #[.int .i64 0, .int .i64 255] 44) := ⟨_, rfl⟩
  have bx0 : Below w1.heap.size w1 x0 := by rw [hx0]; exact (Below.refl _ _).alloc (Nat.le_refl _) _
  have ex0 : x0.heap[w1.heap.size]? = some (.cells #[.int .i64 0, .int .i64 255] 44 (0, 0)) := by rw [hx0]; exact heap_alloc_new w1 _
  have zx0 : x0.heap.size = w1.heap.size + 1 := by rw [hx0]; simp
  rw [← hx0]
  try rw [← zx0]
  have lx0 : w1.heap.size < x0.heap.size := by omega
  clear hx0 zx0
  have Bx0 := Lib.hid (Bw1.out.trans ((bx0).mono Bw1.out.size))
  have Sx0 := (bx0).size
  clear Bw1
  clear bx0
  have Wx0 := Lib.hid (show Is .i64 x0 x0.heap.size (some ⟨w1.heap.size, 0, none⟩) (flatS whole) from Is.lit (T := 44) ex0 (by omega))
  clear ex0
  obtain ⟨X, hX⟩ : ∃ X : World, X = x0 := ⟨_, rfl⟩
  subst hX
  go_cut [2, 4] (fun s t wx => ∃ g cp, s = .slice (some ⟨g, 0, none⟩) 33 cp ∧ t = .int .i64 33 ∧ 33 ≤ cp ∧ Is .i64 wx wx.heap.size (some ⟨g, 0, none⟩) (lad 33) ∧ Below X.heap.size X wx)
  case first =>
    as_aux_lemma =>
    go_wp2_with fail
    obtain ⟨Q, hQ⟩ : ∃ Q, Q = X.heap.size := ⟨_, rfl⟩
    have HQ := Lib.hid hQ
    have q0 : Q ≤ X.heap.size := by omega
    clear hQ
    go_loopw [2, 4] (fun v i wr => ∃ k : Nat, k ≤ 33 ∧ i = .int .i64 k ∧ Acc .i64 wr Q 3 1 v k (lad k) ∧ Below Q X wr) (fun _ i _ => 33 - (intOf i).toNat)
    case atStart => exact ⟨0, by omega, rfl, Acc.nil _ _ _ _ _, Below.refl _ _⟩
    case round =>
      obtain ⟨k, hk, rfl, hacc, hb⟩ := hrel
      have HB := Lib.hid hb
      have sB := hb.size
      by_cases hlt : k < 33
      · have hkI : (k : Int) < 33 := by omega
        have hk0 : (0 : Int) ≤ (k : Int) := by omega
        have hsQ : Q ≤ wr.heap.size := by omega
        have HAcc := Lib.hid hacc
        obtain ⟨A5, C5, rfl, -⟩ := hacc.own
        clear hb hacc
        go_wp2_with (at_builtin; refine wpList_app rfl _ _ 23 rfl .i64 Q 3 i0 _ 1 8 Try.underlying23 hi0 hz0 hz1 hz2 rfl (by decide) _ _ _ [3 * (k : Int) + 1] rfl HAcc.out _ rfl rfl rfl (by omega) (by decide) hsQ ?_; intro v' w5 hown5 hb5)
        exact ⟨⟨k + 1, by omega, by go_num, by rw [lad_step]; exact hown5, HB.out.trans hb5⟩, by simp [intOf]; omega⟩
      · obtain rfl : k = 33 := by omega
        rw [show ((33 : Nat) : Int) = 33 from rfl]
        obtain ⟨gL, cL, rfl, hcL, il⟩ := acc_cap hacc (by decide)
        have Hil := Lib.hid il
        clear hb hacc il
        go_wp2_with fail
        go_meet
        exact ⟨_, _, rfl, rfl, hcL, Hil.out, HB.out.mono (by have := HQ.out; omega)⟩
  case rest =>
  obtain ⟨gL, cL, rfl, rfl, hcL, il, hb⟩ := hcut
  have Lwc := Lib.hid il
  have Bwc := Lib.hid (Bx0.out.trans (hb.mono Bx0.out.size))
  have Wwc := Lib.hid (Wx0.out.nxt hb)
  clear il hb Bx0 Wx0
  go_upto_block 2 with fail
  obtain ⟨X, hX⟩ : ∃ X : World, X = wc := ⟨_, rfl⟩
  rw [← hX] at Lwc Bwc Wwc ⊢
  clear hX
  go_cut [3, 5] (fun s t wx => ∃ g cp, s = .slice (some ⟨g, 0, none⟩) 64 cp ∧ t = .int .i64 64 ∧ 64 ≤ cp ∧ Is .i64 wx wx.heap.size (some ⟨g, 0, none⟩) (ste 64) ∧ Below X.heap.size X wx)
  case first =>
    as_aux_lemma =>
    go_wp2_with fail
    obtain ⟨Q, hQ⟩ : ∃ Q, Q = X.heap.size := ⟨_, rfl⟩
    have HQ := Lib.hid hQ
    have q0 : Q ≤ X.heap.size := by omega
    clear hQ
    go_loopw [3, 5] (fun v i wr => ∃ k : Nat, k ≤ 64 ∧ i = .int .i64 k ∧ Acc .i64 wr Q 3 1 v k (ste k) ∧ Below Q X wr) (fun _ i _ => 64 - (intOf i).toNat)
    case atStart => exact ⟨0, by omega, rfl, Acc.nil _ _ _ _ _, Below.refl _ _⟩
    case round =>
      obtain ⟨k, hk, rfl, hacc, hb⟩ := hrel
      have HB := Lib.hid hb
      have sB := hb.size
      by_cases hlt : k < 64
      · have hkI : (k : Int) < 64 := by omega
        have hk0 : (0 : Int) ≤ (k : Int) := by omega
        have hsQ : Q ≤ wr.heap.size := by omega
        have HAcc := Lib.hid hacc
        obtain ⟨A5, C5, rfl, -⟩ := hacc.own
        clear hb hacc
        go_wp2_with (at_builtin; refine wpList_app rfl _ _ 23 rfl .i64 Q 3 i0 _ 1 8 Try.underlying23 hi0 hz0 hz1 hz2 rfl (by decide) _ _ _ [4 * (k : Int) + 3] rfl HAcc.out _ rfl rfl rfl (by omega) (by decide) hsQ ?_; intro v' w5 hown5 hb5)
        exact ⟨⟨k + 1, by omega, by go_num, by rw [ste_step]; exact hown5, HB.out.trans hb5⟩, by simp [intOf]; omega⟩
      · obtain rfl : k = 64 := by omega
        rw [show ((64 : Nat) : Int) = 64 from rfl]
        obtain ⟨gL, cL, rfl, hcL, il⟩ := acc_cap hacc (by decide)
        have Hil := Lib.hid il
        clear hb hacc il
        go_wp2_with fail
        go_meet
        exact ⟨_, _, rfl, rfl, hcL, Hil.out, HB.out.mono (by have := HQ.out; omega)⟩
  case rest =>
  obtain ⟨gS, cS, rfl, rfl, hcS, is, hb⟩ := hcut
  obtain ⟨Y, hY⟩ : ∃ Y : World, Y = wc := ⟨_, rfl⟩
  rw [← hY] at is hb ⊢
  have SY := Lib.hid is
  have BY := Lib.hid (Bwc.out.trans (hb.mono Bwc.out.size))
  have LY := Lib.hid (Lwc.out.nxt hb)
  have WY := Lib.hid (Wwc.out.nxt hb)
  clear is hb hY Bwc Lwc Wwc
  go_wp2_with fail
  obtain ⟨a1, ha1⟩ : ∃ a1, a1 = Y.alloc (.cells #[.int .i64 0] 3) := ⟨_, rfl⟩
  have ba1 : Below Y.heap.size Y a1 := by rw [ha1]; exact (Below.refl _ _).alloc (Nat.le_refl _) _
  have ea1 : a1.heap[Y.heap.size]? = some (.cells #[.int .i64 0] 3 (0, 0)) := by rw [ha1]; exact heap_alloc_new Y _
  have za1 : a1.heap.size = Y.heap.size + 1 := by rw [ha1]; simp
  rw [← ha1]
  try rw [← za1]
  have la1 : Y.heap.size < a1.heap.size := by omega
  clear ha1 za1
  have Ba1 := Lib.hid (BY.out.trans ((ba1).mono BY.out.size))
  have Sa1 := (ba1).size
  have Sa1 := Lib.hid (SY.out.nxt (ba1))
  have La1 := Lib.hid (LY.out.nxt (ba1))
  have Wa1 := Lib.hid (WY.out.nxt (ba1))
  clear BY SY LY WY
  clear ba1
  have Ta1 := Lib.hid (show Is .i64 a1 a1.heap.size (some ⟨Y.heap.size, 0, none⟩) [0] from Is.lit (T := 3) ea1 (by omega))
  clear ea1
  refine (rep13L none (some ⟨Y.heap.size, 0, none⟩) 0 1 0 1 [] [0] 3 [] rfl rfl yE_a (rpL_bad (by rw [yE_a]; decide)) a1 (fun h => by simp [flatS] at h) Ta1.out (by decide) (by decide)).mono ?_
  rintro e a2 ⟨A1, C1, rfl, -, hba2⟩
  have Ba2 := Lib.hid (Ba1.out.trans ((hba2).mono Ba1.out.size))
  have Sa2 := (hba2).size
  have Sa2 := Lib.hid (Sa1.out.nxt (hba2))
  have La2 := Lib.hid (La1.out.nxt (hba2))
  have Wa2 := Lib.hid (Wa1.out.nxt (hba2))
  have Ta2 := Lib.hid (Ta1.out.nxt (hba2))
  clear Ba1 Sa1 La1 Wa1 Ta1
  clear hba2
  have k65 := K.out.1
  have k33 := K.out.2
  go_wp2_with fail
  clear k65 k33
  clear Ta2
  obtain ⟨b1, hb1e⟩ : ∃ b1, b1 = a2.alloc (.cells (madeCells #[.int .i64 0, .int .i64 0] 66) 44) := ⟨_, rfl⟩
  have bb1 : Below a2.heap.size a2 b1 := by rw [hb1e]; exact (Below.refl _ _).alloc (Nat.le_refl _) _
  have ib1 : Is .i64 b1 b1.heap.size (some ⟨a2.heap.size, 0, none⟩) (flatS s33) := by rw [hb1e]; have := made33 a2; exact this.mono (by simp)
  rw [← hb1e]
  clear hb1e
  have Bb1 := Lib.hid (Ba2.out.trans ((bb1).mono Ba2.out.size))
  have Sb1 := (bb1).size
  have Sb1 := Lib.hid (Sa2.out.nxt (bb1))
  have Lb1 := Lib.hid (La2.out.nxt (bb1))
  have Wb1 := Lib.hid (Wa2.out.nxt (bb1))
  clear Ba2 Sa2 La2 Wa2
  clear bb1
  have Tb1 := Lib.hid (ib1)
  clear ib1
  refine (rep13L (some ⟨a2.heap.size, 0, none⟩) none 33 0 33 0 s33 [] 4 [] rfl rfl yE_b (rpL_bad (by rw [yE_b]; decide)) b1 Tb1.out Is.none_ (by decide) (by decide)).mono ?_
  rintro e b2 ⟨A2, C2, rfl, -, hbb2⟩
  have Bb2 := Lib.hid (Bb1.out.trans ((hbb2).mono Bb1.out.size))
  have Sb2 := (hbb2).size
  have Sb2 := Lib.hid (Sb1.out.nxt (hbb2))
  have Lb2 := Lib.hid (Lb1.out.nxt (hbb2))
  have Wb2 := Lib.hid (Wb1.out.nxt (hbb2))
  have Tb2 := Lib.hid (Tb1.out.nxt (hbb2))
  clear Bb1 Sb1 Lb1 Wb1 Tb1
  clear hbb2
  have k65 := K.out.1
  have k33 := K.out.2
  go_wp2_with fail
  clear k65 k33
  clear Tb2
  obtain ⟨c1, hc1⟩ : ∃ c1, c1 = b2.alloc (.cells #[.int .i64 3, .int .i64 3] 44) := ⟨_, rfl⟩
  have bc1 : Below b2.heap.size b2 c1 := by rw [hc1]; exact (Below.refl _ _).alloc (Nat.le_refl _) _
  have ec1 : c1.heap[b2.heap.size]? = some (.cells #[.int .i64 3, .int .i64 3] 44 (0, 0)) := by rw [hc1]; exact heap_alloc_new b2 _
  have zc1 : c1.heap.size = b2.heap.size + 1 := by rw [hc1]; simp
  rw [← hc1]
  try rw [← zc1]
  have lc1 : b2.heap.size < c1.heap.size := by omega
  clear hc1 zc1
  have Bc1 := Lib.hid (Bb2.out.trans ((bc1).mono Bb2.out.size))
  have Sc1 := (bc1).size
  have Sc1 := Lib.hid (Sb2.out.nxt (bc1))
  have Lc1 := Lib.hid (Lb2.out.nxt (bc1))
  have Wc1 := Lib.hid (Wb2.out.nxt (bc1))
  clear Bb2 Sb2 Lb2 Wb2
  clear bc1
  have Uc1 := Lib.hid (show Is .i64 c1 c1.heap.size (some ⟨b2.heap.size, 0, none⟩) (flatS [(3, 3)]) from Is.lit (T := 44) ec1 (by omega))
  clear ec1
  obtain ⟨c2, hc2⟩ : ∃ c2, c2 = c1.alloc (.cells (madeCells #[.int .i64 0] 65) 3) := ⟨_, rfl⟩
  have bc2 : Below c1.heap.size c1 c2 := by rw [hc2]; exact (Below.refl _ _).alloc (Nat.le_refl _) _
  have ic2 : Is .i64 c2 c2.heap.size (some ⟨c1.heap.size, 0, none⟩) z65 := by rw [hc2]; exact ((OutB.made c1 65).is 65 (by decide))
  rw [← hc2]
  clear hc2
  have Bc2 := Lib.hid (Bc1.out.trans ((bc2).mono Bc1.out.size))
  have Sc2 := (bc2).size
  have Sc2 := Lib.hid (Sc1.out.nxt (bc2))
  have Lc2 := Lib.hid (Lc1.out.nxt (bc2))
  have Wc2 := Lib.hid (Wc1.out.nxt (bc2))
  have Uc2 := Lib.hid (Uc1.out.nxt (bc2))
  clear Bc1 Sc1 Lc1 Wc1 Uc1
  clear bc2
  have Tc2 := Lib.hid (ic2)
  clear ic2
  refine (rep13L (some ⟨b2.heap.size, 0, none⟩) (some ⟨c1.heap.size, 0, none⟩) 1 65 1 65 [(3, 3)] z65 1 [] rfl rfl yE_c (rpL_bad (by rw [yE_c]; decide)) c2 Uc2.out Tc2.out (by decide) (by decide)).mono ?_
  rintro e c3 ⟨A3, C3, rfl, -, hbc3⟩
  have Bc3 := Lib.hid (Bc2.out.trans ((hbc3).mono Bc2.out.size))
  have Sc3 := (hbc3).size
  have Sc3 := Lib.hid (Sc2.out.nxt (hbc3))
  have Lc3 := Lib.hid (Lc2.out.nxt (hbc3))
  have Wc3 := Lib.hid (Wc2.out.nxt (hbc3))
  have Uc3 := Lib.hid (Uc2.out.nxt (hbc3))
  have Tc3 := Lib.hid (Tc2.out.nxt (hbc3))
  clear Bc2 Sc2 Lc2 Wc2 Uc2 Tc2
  clear hbc3
  have k65 := K.out.1
  have k33 := K.out.2
  go_wp2_with fail
  clear k65 k33
  clear Tc3
  clear Uc3
  obtain ⟨d1, hd1⟩ : ∃ d1, d1 = c3.alloc (.cells (madeCells #[.int .i64 0] 65) 3) := ⟨_, rfl⟩
  have bd1 : Below c3.heap.size c3 d1 := by rw [hd1]; exact (Below.refl _ _).alloc (Nat.le_refl _) _
  have id1 : Is .i64 d1 d1.heap.size (some ⟨c3.heap.size, 0, none⟩) z65 := by rw [hd1]; exact ((OutB.made c3 65).is 65 (by decide))
  rw [← hd1]
  clear hd1
  have Bd1 := Lib.hid (Bc3.out.trans ((bd1).mono Bc3.out.size))
  have Sd1 := (bd1).size
  have Sd1 := Lib.hid (Sc3.out.nxt (bd1))
  have Ld1 := Lib.hid (Lc3.out.nxt (bd1))
  have Wd1 := Lib.hid (Wc3.out.nxt (bd1))
  clear Bc3 Sc3 Lc3 Wc3
  clear bd1
  have Td1 := Lib.hid (id1)
  clear id1
  refine (rep13L (some ⟨w1.heap.size, 0, none⟩) (some ⟨c3.heap.size, 0, none⟩) 1 65 1 65 whole z65 4 [] rfl rfl yE_d (rpL_bad (by rw [yE_d]; decide)) d1 Wd1.out Td1.out (by decide) (by decide)).mono ?_
  rintro e d2 ⟨A4, C4, rfl, -, hbd2⟩
  have Bd2 := Lib.hid (Bd1.out.trans ((hbd2).mono Bd1.out.size))
  have Sd2 := (hbd2).size
  have Sd2 := Lib.hid (Sd1.out.nxt (hbd2))
  have Ld2 := Lib.hid (Ld1.out.nxt (hbd2))
  have Wd2 := Lib.hid (Wd1.out.nxt (hbd2))
  have Td2 := Lib.hid (Td1.out.nxt (hbd2))
  clear Bd1 Sd1 Ld1 Wd1 Td1
  clear hbd2
  go_wp2_with fail
  clear Td2
  obtain ⟨e1, he1⟩ : ∃ e1, e1 = d2.alloc (.cells #[.int .i64 255, .int .i64 256] 3) := ⟨_, rfl⟩
  have be1 : Below d2.heap.size d2 e1 := by rw [he1]; exact (Below.refl _ _).alloc (Nat.le_refl _) _
  have ee1 : e1.heap[d2.heap.size]? = some (.cells #[.int .i64 255, .int .i64 256] 3 (0, 0)) := by rw [he1]; exact heap_alloc_new d2 _
  have ze1 : e1.heap.size = d2.heap.size + 1 := by rw [he1]; simp
  rw [← he1]
  try rw [← ze1]
  have le1 : d2.heap.size < e1.heap.size := by omega
  clear he1 ze1
  have Be1 := Lib.hid (Bd2.out.trans ((be1).mono Bd2.out.size))
  have Se1 := (be1).size
  have Se1 := Lib.hid (Sd2.out.nxt (be1))
  have Le1 := Lib.hid (Ld2.out.nxt (be1))
  have We1 := Lib.hid (Wd2.out.nxt (be1))
  clear Bd2 Sd2 Ld2 Wd2
  clear be1
  have Te1 := Lib.hid (show Is .i64 e1 e1.heap.size (some ⟨d2.heap.size, 0, none⟩) [255, 256] from Is.lit (T := 3) ee1 (by omega))
  clear ee1
  refine (worst15L (some ⟨w1.heap.size, 0, none⟩) (some ⟨d2.heap.size, 0, none⟩) 1 2 1 2 whole [255, 256] 1 0 rfl rfl yE_e yV_e e1 We1.out Te1.out (by decide) (by decide)).mono ?_
  rintro e e2 ⟨rfl, hbe2⟩
  have Be2 := Lib.hid (Be1.out.trans ((hbe2).mono Be1.out.size))
  have Se2 := (hbe2).size
  have Se2 := Lib.hid (Se1.out.nxt (hbe2))
  have Le2 := Lib.hid (Le1.out.nxt (hbe2))
  have We2 := Lib.hid (We1.out.nxt (hbe2))
  have Te2 := Lib.hid (Te1.out.nxt (hbe2))
  clear Be1 Se1 Le1 We1 Te1
  clear hbe2
  go_wp2_with fail
  clear Te2
  obtain ⟨f1, hf1⟩ : ∃ f1, f1 = e2.alloc (.cells #[.int .i64 0, .int .i64 256] 44) := ⟨_, rfl⟩
  have bf1 : Below e2.heap.size e2 f1 := by rw [hf1]; exact (Below.refl _ _).alloc (Nat.le_refl _) _
  have ef1 : f1.heap[e2.heap.size]? = some (.cells #[.int .i64 0, .int .i64 256] 44 (0, 0)) := by rw [hf1]; exact heap_alloc_new e2 _
  have zf1 : f1.heap.size = e2.heap.size + 1 := by rw [hf1]; simp
  rw [← hf1]
  try rw [← zf1]
  have lf1 : e2.heap.size < f1.heap.size := by omega
  clear hf1 zf1
  have Bf1 := Lib.hid (Be2.out.trans ((bf1).mono Be2.out.size))
  have Sf1 := (bf1).size
  have Sf1 := Lib.hid (Se2.out.nxt (bf1))
  have Lf1 := Lib.hid (Le2.out.nxt (bf1))
  have Wf1 := Lib.hid (We2.out.nxt (bf1))
  clear Be2 Se2 Le2 We2
  clear bf1
  have Tf1 := Lib.hid (show Is .i64 f1 f1.heap.size (some ⟨e2.heap.size, 0, none⟩) (flatS [(0, 256)]) from Is.lit (T := 44) ef1 (by omega))
  clear ef1
  refine (tiles17L (some ⟨e2.heap.size, 0, none⟩) 1 1 [(0, 256)] 1 false rfl yE_f yB_f f1 Tf1.out (by decide)).mono ?_
  rintro e f2 ⟨rfl, hbf2⟩
  have Bf2 := Lib.hid (Bf1.out.trans ((hbf2).mono Bf1.out.size))
  have Sf2 := (hbf2).size
  have Sf2 := Lib.hid (Sf1.out.nxt (hbf2))
  have Lf2 := Lib.hid (Lf1.out.nxt (hbf2))
  have Wf2 := Lib.hid (Wf1.out.nxt (hbf2))
  have Tf2 := Lib.hid (Tf1.out.nxt (hbf2))
  clear Bf1 Sf1 Lf1 Wf1 Tf1
  clear hbf2
  go_wp2_with fail
  clear Tf2
  obtain ⟨g1, hg1⟩ : ∃ g1, g1 = f2.alloc (.cells #[.int .i64 (-1), .int .i64 5] 44) := ⟨_, rfl⟩
  have bg1 : Below f2.heap.size f2 g1 := by rw [hg1]; exact (Below.refl _ _).alloc (Nat.le_refl _) _
  have eg1 : g1.heap[f2.heap.size]? = some (.cells #[.int .i64 (-1), .int .i64 5] 44 (0, 0)) := by rw [hg1]; exact heap_alloc_new f2 _
  have zg1 : g1.heap.size = f2.heap.size + 1 := by rw [hg1]; simp
  rw [← hg1]
  try rw [← zg1]
  have lg1 : f2.heap.size < g1.heap.size := by omega
  clear hg1 zg1
  have Bg1 := Lib.hid (Bf2.out.trans ((bg1).mono Bf2.out.size))
  have Sg1 := (bg1).size
  have Sg1 := Lib.hid (Sf2.out.nxt (bg1))
  have Lg1 := Lib.hid (Lf2.out.nxt (bg1))
  have Wg1 := Lib.hid (Wf2.out.nxt (bg1))
  clear Bf2 Sf2 Lf2 Wf2
  clear bg1
  have Tg1 := Lib.hid (show Is .i64 g1 g1.heap.size (some ⟨f2.heap.size, 0, none⟩) (flatS [(-1, 5)]) from Is.lit (T := 44) eg1 (by omega))
  clear eg1
  refine (tiles17L (some ⟨f2.heap.size, 0, none⟩) 1 1 [(-1, 5)] 1 false rfl yE_g yB_g g1 Tg1.out (by decide)).mono ?_
  rintro e g2 ⟨rfl, hbg2⟩
  have Bg2 := Lib.hid (Bg1.out.trans ((hbg2).mono Bg1.out.size))
  have Sg2 := (hbg2).size
  have Sg2 := Lib.hid (Sg1.out.nxt (hbg2))
  have Lg2 := Lib.hid (Lg1.out.nxt (hbg2))
  have Wg2 := Lib.hid (Wg1.out.nxt (hbg2))
  have Tg2 := Lib.hid (Tg1.out.nxt (hbg2))
  clear Bg1 Sg1 Lg1 Wg1 Tg1
  clear hbg2
  have k65 := K.out.1
  have k33 := K.out.2
  go_wp2_with fail
  clear k65 k33
  clear Tg2
  obtain ⟨h1, hh1⟩ : ∃ h1, h1 = g2.alloc (.cells (madeCells #[.int .i64 0] 65) 3) := ⟨_, rfl⟩
  have bh1 : Below g2.heap.size g2 h1 := by rw [hh1]; exact (Below.refl _ _).alloc (Nat.le_refl _) _
  have ih1 : Is .i64 h1 h1.heap.size (some ⟨g2.heap.size, 0, none⟩) z65 := by rw [hh1]; exact ((OutB.made g2 65).is 65 (by decide))
  rw [← hh1]
  clear hh1
  have Bh1 := Lib.hid (Bg2.out.trans ((bh1).mono Bg2.out.size))
  have Sh1 := (bh1).size
  have Sh1 := Lib.hid (Sg2.out.nxt (bh1))
  have Lh1 := Lib.hid (Lg2.out.nxt (bh1))
  have Wh1 := Lib.hid (Wg2.out.nxt (bh1))
  clear Bg2 Sg2 Lg2 Wg2
  clear bh1
  have Th1 := Lib.hid (ih1)
  clear ih1
  refine (plan25L (some ⟨g2.heap.size, 0, none⟩) 65 65 z65 0 4 [] rfl yE_h (plL_bad (by rw [yE_h]; decide)) h1 Th1.out (by decide)).mono ?_
  rintro e h2 ⟨A5, C5, rfl, -, hbh2⟩
  have Bh2 := Lib.hid (Bh1.out.trans ((hbh2).mono Bh1.out.size))
  have Sh2 := (hbh2).size
  have Sh2 := Lib.hid (Sh1.out.nxt (hbh2))
  have Lh2 := Lib.hid (Lh1.out.nxt (hbh2))
  have Wh2 := Lib.hid (Wh1.out.nxt (hbh2))
  have Th2 := Lib.hid (Th1.out.nxt (hbh2))
  clear Bh1 Sh1 Lh1 Wh1 Th1
  clear hbh2
  go_wp2_with fail
  clear Th2
  obtain ⟨i1, hi1⟩ : ∃ i1, i1 = h2.alloc (.cells #[.int .i64 0] 3) := ⟨_, rfl⟩
  have bi1 : Below h2.heap.size h2 i1 := by rw [hi1]; exact (Below.refl _ _).alloc (Nat.le_refl _) _
  have ei1 : i1.heap[h2.heap.size]? = some (.cells #[.int .i64 0] 3 (0, 0)) := by rw [hi1]; exact heap_alloc_new h2 _
  have zi1 : i1.heap.size = h2.heap.size + 1 := by rw [hi1]; simp
  rw [← hi1]
  try rw [← zi1]
  have li1 : h2.heap.size < i1.heap.size := by omega
  clear hi1 zi1
  have Bi1 := Lib.hid (Bh2.out.trans ((bi1).mono Bh2.out.size))
  have Si1 := (bi1).size
  have Si1 := Lib.hid (Sh2.out.nxt (bi1))
  have Li1 := Lib.hid (Lh2.out.nxt (bi1))
  have Wi1 := Lib.hid (Wh2.out.nxt (bi1))
  clear Bh2 Sh2 Lh2 Wh2
  clear bi1
  have Ti1 := Lib.hid (show Is .i64 i1 i1.heap.size (some ⟨h2.heap.size, 0, none⟩) [0] from Is.lit (T := 3) ei1 (by omega))
  clear ei1
  refine (plan25L (some ⟨h2.heap.size, 0, none⟩) 1 1 [0] 0 1 [] rfl yE_i (plL_bad (by rw [yE_i]; decide)) i1 Ti1.out (by decide)).mono ?_
  rintro e i2 ⟨A6, C6, rfl, -, hbi2⟩
  have Bi2 := Lib.hid (Bi1.out.trans ((hbi2).mono Bi1.out.size))
  have Si2 := (hbi2).size
  have Si2 := Lib.hid (Si1.out.nxt (hbi2))
  have Li2 := Lib.hid (Li1.out.nxt (hbi2))
  have Wi2 := Lib.hid (Wi1.out.nxt (hbi2))
  have Ti2 := Lib.hid (Ti1.out.nxt (hbi2))
  clear Bi1 Si1 Li1 Wi1 Ti1
  clear hbi2
  go_wp2_with fail
  clear Ti2
  refine (plan25L none 0 0 [] 0 1 [] rfl yE_j (plL_bad (by rw [yE_j]; decide)) i2 Is.none_ (by decide)).mono ?_
  rintro e j2 ⟨A7, C7, rfl, -, hbj2⟩
  have Bj2 := Lib.hid (Bi2.out.trans ((hbj2).mono Bi2.out.size))
  have Sj2 := (hbj2).size
  have Sj2 := Lib.hid (Si2.out.nxt (hbj2))
  have Lj2 := Lib.hid (Li2.out.nxt (hbj2))
  have Wj2 := Lib.hid (Wi2.out.nxt (hbj2))
  clear Bi2 Si2 Li2 Wi2
  clear hbj2
  go_wp2_with fail
  refine (plan25L (some ⟨gL, 0, none⟩) cL 33 (lad 33) 1 4 [] (by decide) yE_k (plL_bad (by rw [yE_k]; decide)) j2 Lj2.out (by decide)).mono ?_
  rintro e k2 ⟨A8, C8, rfl, -, hbk2⟩
  have Bk2 := Lib.hid (Bj2.out.trans ((hbk2).mono Bj2.out.size))
  have Sk2 := (hbk2).size
  have Sk2 := Lib.hid (Sj2.out.nxt (hbk2))
  have Lk2 := Lib.hid (Lj2.out.nxt (hbk2))
  have Wk2 := Lib.hid (Wj2.out.nxt (hbk2))
  clear Bj2 Sj2 Lj2 Wj2
  clear hbk2
  go_wp2_with fail
  obtain ⟨l9, hl9, hl31⟩ := yL_l
  refine (plan25L (some ⟨gS, 0, none⟩) cS 64 (ste 64) 2 0 _ (by decide) yE_l hl9 k2 Sk2.out (by decide)).mono ?_
  rintro e l2 ⟨A9, C9, rfl, own9, hbl2⟩
  have Bl2 := Lib.hid (Bk2.out.trans ((hbl2).mono Bk2.out.size))
  have Sl2 := (hbl2).size
  have Sl2 := Lib.hid (Sk2.out.nxt (hbl2))
  have Ll2 := Lib.hid (Lk2.out.nxt (hbl2))
  have Wl2 := Lib.hid (Wk2.out.nxt (hbl2))
  clear Bk2 Sk2 Lk2 Wk2
  clear hbl2
  have Pl2 := Lib.hid (own9.is)
  clear own9
  have h32 : ((0, 7) :: l9 : List (Int × Int)).length = 32 := by simp [hl31]
  rw [h32]
  have H32 := Lib.hid h32
  clear h32 hl9 hl31
  go_wp2_with fail
  obtain ⟨m1, hm1⟩ : ∃ m1, m1 = l2.alloc (.cells #[.int .i64 7, .int .i64 7] 3) := ⟨_, rfl⟩
  have bm1 : Below l2.heap.size l2 m1 := by rw [hm1]; exact (Below.refl _ _).alloc (Nat.le_refl _) _
  have em1 : m1.heap[l2.heap.size]? = some (.cells #[.int .i64 7, .int .i64 7] 3 (0, 0)) := by rw [hm1]; exact heap_alloc_new l2 _
  have zm1 : m1.heap.size = l2.heap.size + 1 := by rw [hm1]; simp
  rw [← hm1]
  try rw [← zm1]
  have lm1 : l2.heap.size < m1.heap.size := by omega
  clear hm1 zm1
  have Bm1 := Lib.hid (Bl2.out.trans ((bm1).mono Bl2.out.size))
  have Sm1 := (bm1).size
  have Sm1 := Lib.hid (Sl2.out.nxt (bm1))
  have Lm1 := Lib.hid (Ll2.out.nxt (bm1))
  have Wm1 := Lib.hid (Wl2.out.nxt (bm1))
  have Pm1 := Lib.hid (Pl2.out.nxt (bm1))
  clear Bl2 Sl2 Ll2 Wl2 Pl2
  clear bm1
  have Tm1 := Lib.hid (show Is .i64 m1 m1.heap.size (some ⟨l2.heap.size, 0, none⟩) [7, 7] from Is.lit (T := 3) em1 (by omega))
  clear em1
  refine (plan25L (some ⟨l2.heap.size, 0, none⟩) 2 2 [7, 7] 1 9 [] rfl yE_m (plL_bad (by rw [yE_m]; decide)) m1 Tm1.out (by decide)).mono ?_
  rintro e m2 ⟨B1, D1, rfl, -, hbm2⟩
  have Bm2 := Lib.hid (Bm1.out.trans ((hbm2).mono Bm1.out.size))
  have Sm2 := (hbm2).size
  have Sm2 := Lib.hid (Sm1.out.nxt (hbm2))
  have Lm2 := Lib.hid (Lm1.out.nxt (hbm2))
  have Wm2 := Lib.hid (Wm1.out.nxt (hbm2))
  have Pm2 := Lib.hid (Pm1.out.nxt (hbm2))
  have Tm2 := Lib.hid (Tm1.out.nxt (hbm2))
  clear Bm1 Sm1 Lm1 Wm1 Pm1 Tm1
  clear hbm2
  go_wp2_with fail
  clear Tm2
  refine (worst15L (some ⟨w1.heap.size, 0, none⟩) none 1 0 1 0 whole [] 0 0 rfl rfl yE_o yV_o m2 Wm2.out Is.none_ (by decide) (by decide)).mono ?_
  rintro e o2 ⟨rfl, hbo2⟩
  have Bo2 := Lib.hid (Bm2.out.trans ((hbo2).mono Bm2.out.size))
  have So2 := (hbo2).size
  have So2 := Lib.hid (Sm2.out.nxt (hbo2))
  have Lo2 := Lib.hid (Lm2.out.nxt (hbo2))
  have Wo2 := Lib.hid (Wm2.out.nxt (hbo2))
  have Po2 := Lib.hid (Pm2.out.nxt (hbo2))
  clear Bm2 Sm2 Lm2 Wm2 Pm2
  clear hbo2
  have f2 := flatS_len ((0, 7) :: l9)
  obtain ⟨b9, f9, rfl, hb9, hc9⟩ := Po2.out (by have := H32.out; omega)
  have c1 := hc9 0 (by have := H32.out; omega)
  have c2 := hc9 1 (by have := H32.out; omega)
  rw [show nth (flatS ((0, 7) :: l9)) 0 = 0 from rfl, Nat.add_zero] at c1
  rw [show nth (flatS ((0, 7) :: l9)) 1 = 7 from rfl] at c2
  clear hc9 f2
  have hcLI : (3 : Int) ≤ (cL : Int) := by omega
  have hcLN : 3 ≤ cL := by omega
  have hcLD : ¬ cL < 3 := by omega
  go_wp2_with fail
  clear c1 c2
  clear Po2
  obtain ⟨z0, hz0⟩ : ∃ z0, z0 = o2.alloc (.cells #[.int .i64 255] 3) := ⟨_, rfl⟩
  have bz0 : Below o2.heap.size o2 z0 := by rw [hz0]; exact (Below.refl _ _).alloc (Nat.le_refl _) _
  have ez0 : z0.heap[o2.heap.size]? = some (.cells #[.int .i64 255] 3 (0, 0)) := by rw [hz0]; exact heap_alloc_new o2 _
  have zz0 : z0.heap.size = o2.heap.size + 1 := by rw [hz0]; simp
  rw [← hz0]
  try rw [← zz0]
  have lz0 : o2.heap.size < z0.heap.size := by omega
  clear hz0 zz0
  have Bz0 := Lib.hid (Bo2.out.trans ((bz0).mono Bo2.out.size))
  have Sz0 := (bz0).size
  have Sz0 := Lib.hid (So2.out.nxt (bz0))
  have Lz0 := Lib.hid (Lo2.out.nxt (bz0))
  have Wz0 := Lib.hid (Wo2.out.nxt (bz0))
  clear Bo2 So2 Lo2 Wo2
  clear bz0
  have Hz0 := Lib.hid (show Is .i64 z0 z0.heap.size (some ⟨o2.heap.size, 0, none⟩) [255] from Is.lit (T := 3) ez0 (by omega))
  clear ez0
  refine (planned29L none (some ⟨o2.heap.size, 0, none⟩) 0 1 0 1 [] [255] 1 _ rfl rfl z0 Is.none_ Hz0.out (by decide) yE_p yL_p rfl (by decide) (fun k hk => by have hk' : k < 1 := hk; rcases (by omega : k = 0) with rfl <;> decide)).mono ?_
  rintro e v0 ⟨rfl, hbv0⟩
  have Bv0 := Lib.hid (Bz0.out.trans ((hbv0).mono Bz0.out.size))
  have Sv0 := (hbv0).size
  have Sv0 := Lib.hid (Sz0.out.nxt (hbv0))
  have Lv0 := Lib.hid (Lz0.out.nxt (hbv0))
  have Wv0 := Lib.hid (Wz0.out.nxt (hbv0))
  have Hv0 := Lib.hid (Hz0.out.nxt (hbv0))
  clear Bz0 Sz0 Lz0 Wz0 Hz0
  clear hbv0
  go_wp2_with fail
  clear Hv0
  have L3v0 := Lib.hid (show Is .i64 v0 v0.heap.size (some ⟨gL, 0, none⟩) (lad 3) from (by obtain ⟨b, off, e, hb, hc⟩ := Lv0.out (by decide); exact fun _ => ⟨b, off, e, hb, fun j hj => by have hj3 : j < 3 := hj; rw [hc j (by show j < 33; omega)]; rcases (by omega : j = 0 ∨ j = 1 ∨ j = 2) with rfl | rfl | rfl <;> rfl⟩))
  obtain ⟨z1, hz1⟩ : ∃ z1, z1 = v0.alloc (.cells #[.int .i64 1, .int .i64 4, .int .i64 255] 3) := ⟨_, rfl⟩
  have bz1 : Below v0.heap.size v0 z1 := by rw [hz1]; exact (Below.refl _ _).alloc (Nat.le_refl _) _
  have ez1 : z1.heap[v0.heap.size]? = some (.cells #[.int .i64 1, .int .i64 4, .int .i64 255] 3 (0, 0)) := by rw [hz1]; exact heap_alloc_new v0 _
  have zz1 : z1.heap.size = v0.heap.size + 1 := by rw [hz1]; simp
  rw [← hz1]
  try rw [← zz1]
  have lz1 : v0.heap.size < z1.heap.size := by omega
  clear hz1 zz1
  have Bz1 := Lib.hid (Bv0.out.trans ((bz1).mono Bv0.out.size))
  have Sz1 := (bz1).size
  have Sz1 := Lib.hid (Sv0.out.nxt (bz1))
  have Lz1 := Lib.hid (Lv0.out.nxt (bz1))
  have Wz1 := Lib.hid (Wv0.out.nxt (bz1))
  have L3z1 := Lib.hid (L3v0.out.nxt (bz1))
  clear Bv0 Sv0 Lv0 Wv0 L3v0
  clear bz1
  have Hz1 := Lib.hid (show Is .i64 z1 z1.heap.size (some ⟨v0.heap.size, 0, none⟩) [1, 4, 255] from Is.lit (T := 3) ez1 (by omega))
  clear ez1
  refine (planned29L (some ⟨gL, 0, none⟩) (some ⟨v0.heap.size, 0, none⟩) cL 3 3 3 (lad 3) [1, 4, 255] 1 _ (by decide) rfl z1 L3z1.out Hz1.out (by decide) yE_q yL_q rfl (by decide) (fun k hk => by have hk' : k < 3 := hk; rcases (by omega : k = 0 ∨ k = 1 ∨ k = 2) with rfl | rfl | rfl <;> decide)).mono ?_
  rintro e v1 ⟨rfl, hbv1⟩
  have Bv1 := Lib.hid (Bz1.out.trans ((hbv1).mono Bz1.out.size))
  have Sv1 := (hbv1).size
  have Sv1 := Lib.hid (Sz1.out.nxt (hbv1))
  have Lv1 := Lib.hid (Lz1.out.nxt (hbv1))
  have Wv1 := Lib.hid (Wz1.out.nxt (hbv1))
  have L3v1 := Lib.hid (L3z1.out.nxt (hbv1))
  have Hv1 := Lib.hid (Hz1.out.nxt (hbv1))
  clear Bz1 Sz1 Lz1 Wz1 L3z1 Hz1
  clear hbv1
  go_wp2_with fail
  clear Hv1
  obtain ⟨y5, hy5⟩ : ∃ y5, y5 = v1.alloc (.cells #[.int .i64 255, .int .i64 1] 3) := ⟨_, rfl⟩
  have by5 : Below v1.heap.size v1 y5 := by rw [hy5]; exact (Below.refl _ _).alloc (Nat.le_refl _) _
  have ey5 : y5.heap[v1.heap.size]? = some (.cells #[.int .i64 255, .int .i64 1] 3 (0, 0)) := by rw [hy5]; exact heap_alloc_new v1 _
  have zy5 : y5.heap.size = v1.heap.size + 1 := by rw [hy5]; simp
  rw [← hy5]
  try rw [← zy5]
  have ly5 : v1.heap.size < y5.heap.size := by omega
  clear hy5 zy5
  have By5 := Lib.hid (Bv1.out.trans ((by5).mono Bv1.out.size))
  have Sy5 := (by5).size
  have Sy5 := Lib.hid (Sv1.out.nxt (by5))
  have Ly5 := Lib.hid (Lv1.out.nxt (by5))
  have Wy5 := Lib.hid (Wv1.out.nxt (by5))
  have L3y5 := Lib.hid (L3v1.out.nxt (by5))
  clear Bv1 Sv1 Lv1 Wv1 L3v1
  clear by5
  have Ty5 := Lib.hid (show Is .i64 y5 y5.heap.size (some ⟨v1.heap.size, 0, none⟩) [255, 1] from Is.lit (T := 3) ey5 (by omega))
  clear ey5
  obtain ⟨z2, hz2⟩ : ∃ z2, z2 = y5.alloc (.cells #[.int .i64 1, .int .i64 255] 3) := ⟨_, rfl⟩
  have bz2 : Below y5.heap.size y5 z2 := by rw [hz2]; exact (Below.refl _ _).alloc (Nat.le_refl _) _
  have ez2 : z2.heap[y5.heap.size]? = some (.cells #[.int .i64 1, .int .i64 255] 3 (0, 0)) := by rw [hz2]; exact heap_alloc_new y5 _
  have zz2 : z2.heap.size = y5.heap.size + 1 := by rw [hz2]; simp
  rw [← hz2]
  try rw [← zz2]
  have lz2 : y5.heap.size < z2.heap.size := by omega
  clear hz2 zz2
  have Bz2 := Lib.hid (By5.out.trans ((bz2).mono By5.out.size))
  have Sz2 := (bz2).size
  have Sz2 := Lib.hid (Sy5.out.nxt (bz2))
  have Lz2 := Lib.hid (Ly5.out.nxt (bz2))
  have Wz2 := Lib.hid (Wy5.out.nxt (bz2))
  have L3z2 := Lib.hid (L3y5.out.nxt (bz2))
  have Tz2 := Lib.hid (Ty5.out.nxt (bz2))
  clear By5 Sy5 Ly5 Wy5 L3y5 Ty5
  clear bz2
  have Hz2 := Lib.hid (show Is .i64 z2 z2.heap.size (some ⟨y5.heap.size, 0, none⟩) [1, 255] from Is.lit (T := 3) ez2 (by omega))
  clear ez2
  refine (planned29L (some ⟨v1.heap.size, 0, none⟩) (some ⟨y5.heap.size, 0, none⟩) 2 2 2 2 [255, 1] [1, 255] 1 _ rfl rfl z2 Tz2.out Hz2.out (by decide) yE_r yL_r rfl (by decide) (fun k hk => by have hk' : k < 2 := hk; rcases (by omega : k = 0 ∨ k = 1) with rfl | rfl <;> decide)).mono ?_
  rintro e v2 ⟨rfl, hbv2⟩
  have Bv2 := Lib.hid (Bz2.out.trans ((hbv2).mono Bz2.out.size))
  have Sv2 := (hbv2).size
  have Sv2 := Lib.hid (Sz2.out.nxt (hbv2))
  have Lv2 := Lib.hid (Lz2.out.nxt (hbv2))
  have Wv2 := Lib.hid (Wz2.out.nxt (hbv2))
  have L3v2 := Lib.hid (L3z2.out.nxt (hbv2))
  have Tv2 := Lib.hid (Tz2.out.nxt (hbv2))
  have Hv2 := Lib.hid (Hz2.out.nxt (hbv2))
  clear Bz2 Sz2 Lz2 Wz2 L3z2 Tz2 Hz2
  clear hbv2
  go_wp2_with fail
  clear Hv2
  go_ret
  exact ⟨rfl, Bv2.out⟩

namespace whisperExamplesRow
open Go.ChangeShapes Go.WideShapes Go.ChangeAt Go.RowKit
open Go.ChangeMaps (open_string shut_string)
set_option linter.unusedVariables false
theorem own : ownKnob Try.prog.godebug = none := by kernel_rfl
theorem laidOut : laidOutB Try.prog = true := by kernel_rfl
set_option maxRecDepth 100000 in
theorem lifted (os : Os) (started : os.Started) (H : Type) (enc : TypeId × Value → H) :
    ReturnsInHanded {} Try.checked os 8 .any (Rows.whisperExamplesSpec.pre6 enc Try.prog Try.f8 Rows.whisperExamplesRow.domain false) (Rows.whisperExamplesSpec.post enc Try.prog Try.f8 false true false false) := by
  refine returnsInHanded_of_change (C := Try.checked) own started (by kernel_rfl) Try.func8
    (ChangeSpec.witness6 (enc := enc) (C := Try.checked) false ⟨#[], #[], []⟩ 8 (by kernel_rfl) (by kernel_rfl) (by kernel_rfl) (by kernel_rfl)) ?_
  intro W base args ds gs before hval0 hW hcnd _hsz
  have hval : ∀ (j : Nat) t v, Try.f8.params[j]? = some t → args[j]? = some v → Value.okWide Try.prog W .any base t v := hval0
  have hW' := hW
  obtain ⟨p, q, hA0, hV, rfl, hfz, hnd⟩ := hW
  have hA : DataW.TrodAll enc Try.prog W 0 (fun _ => true) true Try.f8.params.toList args.toList ds p := hA0
  obtain ⟨rfl, rfl, rfl⟩ := trodAll_none hA
  obtain ⟨rfl, rfl⟩ := trodVars_none hV
  clear hA0 hval0
  refine (whExamples  W).mono fun e W' ⟨he, bel⟩ => ?_
  subst he
  exact ⟨_, rfl, _, _, _, [], _, [], hW', trodAll_mk1 (shut_bool Try.underlying4 _), trodAll_mk0, rfl, bel.frame _, fun h => by cases h⟩

theorem over : Rows.whisperExamplesRow.holds Try.pinned (OpenSpec.ofChange Rows.whisperExamplesSpec) :=
  OpenClaim.holds_of_wide 8 Try.f8 rfl rfl rfl rfl rfl rfl rfl ⟨rfl, rfl, rfl, rfl, rfl⟩ rfl rfl rfl rfl rfl (by kernel_rfl) Try.func8 (by kernel_rfl)
    (of_decide_eq_true (by kernel_rfl)) (by unfold Func.isWrapper; first | (rw [if_pos (by decide +kernel)]; kernel_rfl) | (rw [if_neg (by decide +kernel)]; exact ⟨rfl, rfl⟩))
    (fun os started H enc _ => lifted os started H enc)
theorem proved : Rows.WhisperExamplesSaid := over
end whisperExamplesRow
end Go.Proofs.Ytlbchidgadcmpaa
