/- WhisperOnce returns true for every input. -/
import Derived.Test.YtlbchidgadcmpaaRows
import Derived.WalkKit
import Derived.WalkLawsBesides
import Derived.WalkSpells
import Derived.ProofKit
import Derived.Below
import Derived.Outline
import Derived.Lib.Hide
import Derived.Deep.RegionWith
import Derived.Deep.RegionHeld3
import Derived.Deep.DrawnRows
import Derived.StillTailTactics
import Derived.BigQuiet
import Derived.Deep.QuietTactic
import Derived.Deep.LoopGhost
import Derived.IntWalk
import Derived.Test.YtlbchidgadcmpaaWhS
import Derived.Test.YtlbchidgadcmpaaKS
import Derived.Deep.DeepCutAuto
import Derived.WalkKit
import Derived.ProofKit
import Derived.OpenShut
import Derived.ShutString
import Derived.ChangeOld
import Derived.Below
import Derived.Lib.SmallJoins
namespace Go.Proofs.Ytlbchidgadcmpaa
open Go.RowKit
attribute [local go_sem ↓] Go.wp_at_zero Go.wp_at_succ
attribute [local go_sem] wrap_lit

theorem beg_at {l : List (Int × Int)} (h : Chn 0 l) {k : Nat} (hk : k < l.length) : stl l k = beg l k := by
  obtain ⟨a, -⟩ := chn_at h k hk
  rw [a]
  cases k with
  | zero => rfl
  | succ k => rfl
theorem beg_end {l : List (Int × Int)} (h : Chn 0 l) (hl : 0 < l.length) : beg l l.length = 255 := by
  have := chn_end h hl
  obtain ⟨m, hm⟩ : ∃ m, l.length = m + 1 := ⟨l.length - 1, by omega⟩
  rw [hm] at this ⊢
  exact this
set_option maxRecDepth 100000 in
set_option maxHeartbeats 16000000 in
theorem whOnce (A A' : Option Addr) (cap cap' : Nat) (st : List (Int × Int)) (xs : List Int) (most : Int) (w : World) (hA : Is .i64 w w.heap.size A (flatS st)) (hA' : Is .i64 w w.heap.size A' xs) (hm : st.length ≤ maxLen) (hm' : xs.length ≤ maxLen) :
    Calls Try.prog 5 #[.slice A st.length cap, .slice A' xs.length cap', .int .i64 most] w fun e w' => e = .returned (.bool true) ∧ Below w.heap.size w w' := by
  have L := long9 A A' cap cap' st.length xs.length w hm hm'
  by_cases hl : 40 < st.length ∨ 80 < xs.length
  · rw [decide_eq_true hl] at L
    have L := Lib.hid L
    clear hA hA' hm hm' hl
    go_enter Try.func5, Try.ntmps5
    go_wp2_with fail
    refine L.out.mono ?_
    rintro e w1 ⟨rfl, rfl⟩
    go_wp2_with fail
    refine (awake10 _).mono ?_
    rintro e w2 ⟨rfl, hb2⟩
    go_wp2_with fail
    go_ret
    exact ⟨rfl, hb2⟩
  · rw [decide_eq_false hl] at L
    have L := Lib.hid L
    have l1 : st.length ≤ 40 := by omega
    have l2 : xs.length ≤ 80 := by omega
    have Aw := Lib.hid hA
    have Cw := Lib.hid hA'
    clear hA hA' hm hm' hl
    go_enter Try.func5, Try.ntmps5
    go_wp2_with fail
    refine L.out.mono ?_
    rintro e w1 ⟨rfl, rfl⟩
    clear L
    go_wp2_with fail
    have Bw := Lib.hid (Below.refl w.heap.size w)
    refine (awake10 _).mono ?_
    rintro e w1 ⟨rfl, hb1⟩
    have Bw1 := Lib.hid (Bw.out.trans ((hb1).mono Bw.out.size))
    have Sw1 := (hb1).size
    have Aw1 := Lib.hid (Aw.out.nxt (hb1))
    have Cw1 := Lib.hid (Cw.out.nxt (hb1))
    clear Bw Aw Cw
    clear hb1
    go_wp2_with fail
    refine (tiles17 A cap st w1.heap.size w1 (Nat.le_refl _) Aw1.out (by omega)).mono ?_
    rintro e w2 ⟨rfl, hb2⟩
    have Bw2 := Lib.hid (Bw1.out.trans ((hb2).mono Bw1.out.size))
    have Sw2 := (hb2).size
    have Aw2 := Lib.hid (Aw1.out.nxt (hb2))
    have Cw2 := Lib.hid (Cw1.out.nxt (hb2))
    clear Bw1 Aw1 Cw1
    clear hb2
    by_cases h0 : ckT st = 0
    · by_cases hT : tlK st 255 = true
      · as_aux_lemma =>
        have b1 : (ckT st == 0) = true := by simp [h0]
        have b2 : tlB st = true := by unfold tlB; rw [decide_eq_true h0, hT]; rfl
        have H0 := Lib.hid (And.intro h0 hT)
        clear h0 hT
        go_wp2_with fail
        refine (once27 A A' cap cap' st xs w2.heap.size w2 (Nat.le_refl _) Aw2.out Cw2.out (by omega) (by omega) H0.out.1 H0.out.2).mono ?_
        rintro e w3 ⟨rfl, hb3⟩
        have Bw3 := Lib.hid (Bw2.out.trans ((hb3).mono Bw2.out.size))
        have Sw3 := (hb3).size
        have Aw3 := Lib.hid (Aw2.out.nxt (hb3))
        have Cw3 := Lib.hid (Cw2.out.nxt (hb3))
        clear Bw2 Aw2 Cw2
        clear hb3 b1 b2
        go_wp2_with fail
        by_cases hE : plE xs most = 0
        · as_aux_lemma =>
          have hch := pl_chn hE
          have HCh := Lib.hid hch
          have p0 := pl_pos hE
          have pc := pl_ckT hE
          have pt := pl_tlB hE
          have pw := pl_most hE
          have hr : rpE (plL xs most) xs = 0 := rpE_ok.2 ⟨pc, (plE_ok.1 hE).1⟩
          have p32 : (plL xs most).length ≤ 32 := (ckT_ok.1 pc).1.2
          have pk : tlK (plL xs most) 255 = true := chn_tiles hch 255 (Nat.le_refl _)
          have hb0 : (plE xs most != 0) = false := by simp [hE]
          obtain ⟨l, hlL⟩ : ∃ l, l = plL xs most := ⟨_, rfl⟩
          have P := plan25 A' cap' xs most w3.heap.size w3 (Nat.le_refl _) Cw3.out (by omega)
          rw [hE, ← hlL] at P
          rw [← hlL] at hch HCh p0 pc pt pw hr p32 pk
          have P := Lib.hid P
          have T0 := Lib.hid (And.intro pc pk)
          have wv : wsV l xs = wsV9 (rpL l xs) := rfl
          obtain ⟨v, hv⟩ : ∃ v, v = wsV l xs := ⟨_, rfl⟩
          rw [← wv, ← hv] at pw
          have K1 := Lib.hid (fun (A2 : Option Addr) (C2 : Nat) (W : World) (h1 : Is .i64 W W.heap.size A2 (flatS l)) (h2 : Is .i64 W W.heap.size A' xs) => (show Calls Try.prog 15 #[.slice A2 l.length C2, .slice A' xs.length cap'] W fun e w' => e = .returned (.tuple #[.int .i64 v, .int .i64 0]) ∧ Below W.heap.size W w' by have := worst15 A2 A' C2 cap' l xs W.heap.size W (Nat.le_refl _) h1 h2 (by omega) (by omega); rw [hr, ← hv] at this; exact this))
          have K2 := Lib.hid (fun (A2 : Option Addr) (C2 : Nat) (W : World) (h1 : Is .i64 W W.heap.size A2 (flatS l)) => (show Calls Try.prog 17 #[.slice A2 l.length C2] W fun e w' => e = .returned (.tuple #[.bool true, .int .i64 0]) ∧ Below W.heap.size W w' by have := tiles17 A2 C2 l W.heap.size W (Nat.le_refl _) h1 (by omega); rw [pc, pt] at this; exact this))
          clear hE hch pc pt hr pk hb0 hlL wv hv
          go_wp2_with fail
          refine (P.out).mono ?_
          rintro e u1 ⟨v1, rfl, hv1, hbu1⟩
          have Bu1 := Lib.hid (Bw3.out.trans ((hbu1).mono Bw3.out.size))
          have Su1 := (hbu1).size
          have Au1 := Lib.hid (Aw3.out.nxt (hbu1))
          have Cu1 := Lib.hid (Cw3.out.nxt (hbu1))
          clear Bw3 Aw3 Cw3
          clear hbu1
          obtain ⟨A2, C2, rfl, own2⟩ := hv1.own
          have Ou1 := Lib.hid (own2.is)
          clear hv1 own2 P
          go_wp2_with fail
          refine (K1.out A2 C2 u1 Ou1.out Cu1.out).mono ?_
          rintro e u2 ⟨rfl, hbu2⟩
          have Bu2 := Lib.hid (Bu1.out.trans ((hbu2).mono Bu1.out.size))
          have Su2 := (hbu2).size
          have Au2 := Lib.hid (Au1.out.nxt (hbu2))
          have Cu2 := Lib.hid (Cu1.out.nxt (hbu2))
          have Ou2 := Lib.hid (Ou1.out.nxt (hbu2))
          clear Bu1 Au1 Cu1 Ou1
          clear hbu2
          go_wp2_with fail
          refine (K2.out A2 C2 u2 Ou2.out).mono ?_
          rintro e u3 ⟨rfl, hbu3⟩
          have Bu3 := Lib.hid (Bu2.out.trans ((hbu3).mono Bu2.out.size))
          have Su3 := (hbu3).size
          have Au3 := Lib.hid (Au2.out.nxt (hbu3))
          have Cu3 := Lib.hid (Cu2.out.nxt (hbu3))
          have Ou3 := Lib.hid (Ou2.out.nxt (hbu3))
          clear Bu2 Au2 Cu2 Ou2
          clear hbu3
          go_wp2_with fail
          clear K1 K2
          go_loop [6, 15, 16] (fun r b i => ∃ k : Nat, k ≤ l.length ∧ i = .int .i64 k ∧ b = .int .i64 (beg l k) ∧ r = .bool false) (fun _ _ i => l.length - (intOf i).toNat)
          case atStart => exact ⟨0, Nat.zero_le _, rfl, rfl, rfl⟩
          case round =>
            obtain ⟨k, hk, rfl, rfl, rfl⟩ := hrel
            by_cases hlt : k < l.length
            · obtain ⟨b, off, rfl, hbb, c1, c2⟩ := step_at Ou3.out hlt
              rw [beg_at HCh.out hlt] at c1
              have hst := Lib.hid (show beg l (k + 1) = sth l k from rfl)
              obtain ⟨z, hz⟩ : ∃ z, z = beg l k := ⟨_, rfl⟩
              rw [← hz] at c1 ⊢
              have hkI : (k : Int) < (l.length : Int) := by omega
              have hk0 : (0 : Int) ≤ (k : Int) := by omega
              clear hz
              go_wp2_with fail
              exact ⟨⟨k + 1, by omega, by go_num, by rw [hst.out], rfl⟩, by simp [intOf]; omega⟩
            · obtain rfl : k = l.length := by omega
              rw [beg_end HCh.out p0]
              go_wp2_with fail
              refine (once27 A2 A' C2 cap' l xs u3.heap.size u3 (Nat.le_refl _) Ou3.out Cu3.out (by omega) (by omega) T0.out.1 T0.out.2).mono ?_
              rintro e u4 ⟨rfl, hbu4⟩
              have B4 := Lib.hid (Bu3.out.trans (hbu4.mono Bu3.out.size))
              clear hbu4
              go_wp2_with fail
              go_ret
              exact ⟨rfl, B4.out⟩
        · as_aux_lemma =>
          have hb0 : (plE xs most != 0) = true := by simp [hE]
          have hl0 := plL_bad hE
          have P := plan25 A' cap' xs most w3.heap.size w3 (Nat.le_refl _) Cw3.out (by omega)
          rw [hl0] at P
          have P := Lib.hid P
          clear hE hl0
          go_wp2_with fail
          refine (P.out).mono ?_
          rintro e u1 ⟨v1, rfl, hv1, hbu1⟩
          have Bu1 := Lib.hid (Bw3.out.trans ((hbu1).mono Bw3.out.size))
          have Su1 := (hbu1).size
          have Au1 := Lib.hid (Aw3.out.nxt (hbu1))
          have Cu1 := Lib.hid (Cw3.out.nxt (hbu1))
          clear Bw3 Aw3 Cw3
          clear hbu1
          obtain ⟨A2, C2, rfl, own2⟩ := hv1.own
          clear hv1 own2 P
          go_wp2_with fail
          go_ret
          exact ⟨rfl, Bu1.out⟩
      · as_aux_lemma =>
        have b1 : (ckT st == 0) = true := by simp [h0]
        have b2 : tlB st = false := by unfold tlB; rw [decide_eq_true h0]; simpa using hT
        clear h0 hT
        go_wp2_with fail
        clear b1 b2
        by_cases hE : plE xs most = 0
        · as_aux_lemma =>
          have hch := pl_chn hE
          have HCh := Lib.hid hch
          have p0 := pl_pos hE
          have pc := pl_ckT hE
          have pt := pl_tlB hE
          have pw := pl_most hE
          have hr : rpE (plL xs most) xs = 0 := rpE_ok.2 ⟨pc, (plE_ok.1 hE).1⟩
          have p32 : (plL xs most).length ≤ 32 := (ckT_ok.1 pc).1.2
          have pk : tlK (plL xs most) 255 = true := chn_tiles hch 255 (Nat.le_refl _)
          have hb0 : (plE xs most != 0) = false := by simp [hE]
          obtain ⟨l, hlL⟩ : ∃ l, l = plL xs most := ⟨_, rfl⟩
          have P := plan25 A' cap' xs most w2.heap.size w2 (Nat.le_refl _) Cw2.out (by omega)
          rw [hE, ← hlL] at P
          rw [← hlL] at hch HCh p0 pc pt pw hr p32 pk
          have P := Lib.hid P
          have T0 := Lib.hid (And.intro pc pk)
          have wv : wsV l xs = wsV9 (rpL l xs) := rfl
          obtain ⟨v, hv⟩ : ∃ v, v = wsV l xs := ⟨_, rfl⟩
          rw [← wv, ← hv] at pw
          have K1 := Lib.hid (fun (A2 : Option Addr) (C2 : Nat) (W : World) (h1 : Is .i64 W W.heap.size A2 (flatS l)) (h2 : Is .i64 W W.heap.size A' xs) => (show Calls Try.prog 15 #[.slice A2 l.length C2, .slice A' xs.length cap'] W fun e w' => e = .returned (.tuple #[.int .i64 v, .int .i64 0]) ∧ Below W.heap.size W w' by have := worst15 A2 A' C2 cap' l xs W.heap.size W (Nat.le_refl _) h1 h2 (by omega) (by omega); rw [hr, ← hv] at this; exact this))
          have K2 := Lib.hid (fun (A2 : Option Addr) (C2 : Nat) (W : World) (h1 : Is .i64 W W.heap.size A2 (flatS l)) => (show Calls Try.prog 17 #[.slice A2 l.length C2] W fun e w' => e = .returned (.tuple #[.bool true, .int .i64 0]) ∧ Below W.heap.size W w' by have := tiles17 A2 C2 l W.heap.size W (Nat.le_refl _) h1 (by omega); rw [pc, pt] at this; exact this))
          clear hE hch pc pt hr pk hb0 hlL wv hv
          go_wp2_with fail
          refine (P.out).mono ?_
          rintro e u1 ⟨v1, rfl, hv1, hbu1⟩
          have Bu1 := Lib.hid (Bw2.out.trans ((hbu1).mono Bw2.out.size))
          have Su1 := (hbu1).size
          have Au1 := Lib.hid (Aw2.out.nxt (hbu1))
          have Cu1 := Lib.hid (Cw2.out.nxt (hbu1))
          clear Bw2 Aw2 Cw2
          clear hbu1
          obtain ⟨A2, C2, rfl, own2⟩ := hv1.own
          have Ou1 := Lib.hid (own2.is)
          clear hv1 own2 P
          go_wp2_with fail
          refine (K1.out A2 C2 u1 Ou1.out Cu1.out).mono ?_
          rintro e u2 ⟨rfl, hbu2⟩
          have Bu2 := Lib.hid (Bu1.out.trans ((hbu2).mono Bu1.out.size))
          have Su2 := (hbu2).size
          have Au2 := Lib.hid (Au1.out.nxt (hbu2))
          have Cu2 := Lib.hid (Cu1.out.nxt (hbu2))
          have Ou2 := Lib.hid (Ou1.out.nxt (hbu2))
          clear Bu1 Au1 Cu1 Ou1
          clear hbu2
          go_wp2_with fail
          refine (K2.out A2 C2 u2 Ou2.out).mono ?_
          rintro e u3 ⟨rfl, hbu3⟩
          have Bu3 := Lib.hid (Bu2.out.trans ((hbu3).mono Bu2.out.size))
          have Su3 := (hbu3).size
          have Au3 := Lib.hid (Au2.out.nxt (hbu3))
          have Cu3 := Lib.hid (Cu2.out.nxt (hbu3))
          have Ou3 := Lib.hid (Ou2.out.nxt (hbu3))
          clear Bu2 Au2 Cu2 Ou2
          clear hbu3
          go_wp2_with fail
          clear K1 K2
          go_loop [6, 15, 16] (fun r b i => ∃ k : Nat, k ≤ l.length ∧ i = .int .i64 k ∧ b = .int .i64 (beg l k) ∧ r = .bool false) (fun _ _ i => l.length - (intOf i).toNat)
          case atStart => exact ⟨0, Nat.zero_le _, rfl, rfl, rfl⟩
          case round =>
            obtain ⟨k, hk, rfl, rfl, rfl⟩ := hrel
            by_cases hlt : k < l.length
            · obtain ⟨b, off, rfl, hbb, c1, c2⟩ := step_at Ou3.out hlt
              rw [beg_at HCh.out hlt] at c1
              have hst := Lib.hid (show beg l (k + 1) = sth l k from rfl)
              obtain ⟨z, hz⟩ : ∃ z, z = beg l k := ⟨_, rfl⟩
              rw [← hz] at c1 ⊢
              have hkI : (k : Int) < (l.length : Int) := by omega
              have hk0 : (0 : Int) ≤ (k : Int) := by omega
              clear hz
              go_wp2_with fail
              exact ⟨⟨k + 1, by omega, by go_num, by rw [hst.out], rfl⟩, by simp [intOf]; omega⟩
            · obtain rfl : k = l.length := by omega
              rw [beg_end HCh.out p0]
              go_wp2_with fail
              refine (once27 A2 A' C2 cap' l xs u3.heap.size u3 (Nat.le_refl _) Ou3.out Cu3.out (by omega) (by omega) T0.out.1 T0.out.2).mono ?_
              rintro e u4 ⟨rfl, hbu4⟩
              have B4 := Lib.hid (Bu3.out.trans (hbu4.mono Bu3.out.size))
              clear hbu4
              go_wp2_with fail
              go_ret
              exact ⟨rfl, B4.out⟩
        · as_aux_lemma =>
          have hb0 : (plE xs most != 0) = true := by simp [hE]
          have hl0 := plL_bad hE
          have P := plan25 A' cap' xs most w2.heap.size w2 (Nat.le_refl _) Cw2.out (by omega)
          rw [hl0] at P
          have P := Lib.hid P
          clear hE hl0
          go_wp2_with fail
          refine (P.out).mono ?_
          rintro e u1 ⟨v1, rfl, hv1, hbu1⟩
          have Bu1 := Lib.hid (Bw2.out.trans ((hbu1).mono Bw2.out.size))
          have Su1 := (hbu1).size
          have Au1 := Lib.hid (Aw2.out.nxt (hbu1))
          have Cu1 := Lib.hid (Cw2.out.nxt (hbu1))
          clear Bw2 Aw2 Cw2
          clear hbu1
          obtain ⟨A2, C2, rfl, own2⟩ := hv1.own
          clear hv1 own2 P
          go_wp2_with fail
          go_ret
          exact ⟨rfl, Bu1.out⟩
    · as_aux_lemma =>
      have b1 : (ckT st == 0) = false := by simp [h0]
      clear h0
      go_wp2_with fail
      clear b1
      by_cases hE : plE xs most = 0
      · as_aux_lemma =>
        have hch := pl_chn hE
        have HCh := Lib.hid hch
        have p0 := pl_pos hE
        have pc := pl_ckT hE
        have pt := pl_tlB hE
        have pw := pl_most hE
        have hr : rpE (plL xs most) xs = 0 := rpE_ok.2 ⟨pc, (plE_ok.1 hE).1⟩
        have p32 : (plL xs most).length ≤ 32 := (ckT_ok.1 pc).1.2
        have pk : tlK (plL xs most) 255 = true := chn_tiles hch 255 (Nat.le_refl _)
        have hb0 : (plE xs most != 0) = false := by simp [hE]
        obtain ⟨l, hlL⟩ : ∃ l, l = plL xs most := ⟨_, rfl⟩
        have P := plan25 A' cap' xs most w2.heap.size w2 (Nat.le_refl _) Cw2.out (by omega)
        rw [hE, ← hlL] at P
        rw [← hlL] at hch HCh p0 pc pt pw hr p32 pk
        have P := Lib.hid P
        have T0 := Lib.hid (And.intro pc pk)
        have wv : wsV l xs = wsV9 (rpL l xs) := rfl
        obtain ⟨v, hv⟩ : ∃ v, v = wsV l xs := ⟨_, rfl⟩
        rw [← wv, ← hv] at pw
        have K1 := Lib.hid (fun (A2 : Option Addr) (C2 : Nat) (W : World) (h1 : Is .i64 W W.heap.size A2 (flatS l)) (h2 : Is .i64 W W.heap.size A' xs) => (show Calls Try.prog 15 #[.slice A2 l.length C2, .slice A' xs.length cap'] W fun e w' => e = .returned (.tuple #[.int .i64 v, .int .i64 0]) ∧ Below W.heap.size W w' by have := worst15 A2 A' C2 cap' l xs W.heap.size W (Nat.le_refl _) h1 h2 (by omega) (by omega); rw [hr, ← hv] at this; exact this))
        have K2 := Lib.hid (fun (A2 : Option Addr) (C2 : Nat) (W : World) (h1 : Is .i64 W W.heap.size A2 (flatS l)) => (show Calls Try.prog 17 #[.slice A2 l.length C2] W fun e w' => e = .returned (.tuple #[.bool true, .int .i64 0]) ∧ Below W.heap.size W w' by have := tiles17 A2 C2 l W.heap.size W (Nat.le_refl _) h1 (by omega); rw [pc, pt] at this; exact this))
        clear hE hch pc pt hr pk hb0 hlL wv hv
        go_wp2_with fail
        refine (P.out).mono ?_
        rintro e u1 ⟨v1, rfl, hv1, hbu1⟩
        have Bu1 := Lib.hid (Bw2.out.trans ((hbu1).mono Bw2.out.size))
        have Su1 := (hbu1).size
        have Au1 := Lib.hid (Aw2.out.nxt (hbu1))
        have Cu1 := Lib.hid (Cw2.out.nxt (hbu1))
        clear Bw2 Aw2 Cw2
        clear hbu1
        obtain ⟨A2, C2, rfl, own2⟩ := hv1.own
        have Ou1 := Lib.hid (own2.is)
        clear hv1 own2 P
        go_wp2_with fail
        refine (K1.out A2 C2 u1 Ou1.out Cu1.out).mono ?_
        rintro e u2 ⟨rfl, hbu2⟩
        have Bu2 := Lib.hid (Bu1.out.trans ((hbu2).mono Bu1.out.size))
        have Su2 := (hbu2).size
        have Au2 := Lib.hid (Au1.out.nxt (hbu2))
        have Cu2 := Lib.hid (Cu1.out.nxt (hbu2))
        have Ou2 := Lib.hid (Ou1.out.nxt (hbu2))
        clear Bu1 Au1 Cu1 Ou1
        clear hbu2
        go_wp2_with fail
        refine (K2.out A2 C2 u2 Ou2.out).mono ?_
        rintro e u3 ⟨rfl, hbu3⟩
        have Bu3 := Lib.hid (Bu2.out.trans ((hbu3).mono Bu2.out.size))
        have Su3 := (hbu3).size
        have Au3 := Lib.hid (Au2.out.nxt (hbu3))
        have Cu3 := Lib.hid (Cu2.out.nxt (hbu3))
        have Ou3 := Lib.hid (Ou2.out.nxt (hbu3))
        clear Bu2 Au2 Cu2 Ou2
        clear hbu3
        go_wp2_with fail
        clear K1 K2
        go_loop [6, 15, 16] (fun r b i => ∃ k : Nat, k ≤ l.length ∧ i = .int .i64 k ∧ b = .int .i64 (beg l k) ∧ r = .bool false) (fun _ _ i => l.length - (intOf i).toNat)
        case atStart => exact ⟨0, Nat.zero_le _, rfl, rfl, rfl⟩
        case round =>
          obtain ⟨k, hk, rfl, rfl, rfl⟩ := hrel
          by_cases hlt : k < l.length
          · obtain ⟨b, off, rfl, hbb, c1, c2⟩ := step_at Ou3.out hlt
            rw [beg_at HCh.out hlt] at c1
            have hst := Lib.hid (show beg l (k + 1) = sth l k from rfl)
            obtain ⟨z, hz⟩ : ∃ z, z = beg l k := ⟨_, rfl⟩
            rw [← hz] at c1 ⊢
            have hkI : (k : Int) < (l.length : Int) := by omega
            have hk0 : (0 : Int) ≤ (k : Int) := by omega
            clear hz
            go_wp2_with fail
            exact ⟨⟨k + 1, by omega, by go_num, by rw [hst.out], rfl⟩, by simp [intOf]; omega⟩
          · obtain rfl : k = l.length := by omega
            rw [beg_end HCh.out p0]
            go_wp2_with fail
            refine (once27 A2 A' C2 cap' l xs u3.heap.size u3 (Nat.le_refl _) Ou3.out Cu3.out (by omega) (by omega) T0.out.1 T0.out.2).mono ?_
            rintro e u4 ⟨rfl, hbu4⟩
            have B4 := Lib.hid (Bu3.out.trans (hbu4.mono Bu3.out.size))
            clear hbu4
            go_wp2_with fail
            go_ret
            exact ⟨rfl, B4.out⟩
      · as_aux_lemma =>
        have hb0 : (plE xs most != 0) = true := by simp [hE]
        have hl0 := plL_bad hE
        have P := plan25 A' cap' xs most w2.heap.size w2 (Nat.le_refl _) Cw2.out (by omega)
        rw [hl0] at P
        have P := Lib.hid P
        clear hE hl0
        go_wp2_with fail
        refine (P.out).mono ?_
        rintro e u1 ⟨v1, rfl, hv1, hbu1⟩
        have Bu1 := Lib.hid (Bw2.out.trans ((hbu1).mono Bw2.out.size))
        have Su1 := (hbu1).size
        have Au1 := Lib.hid (Aw2.out.nxt (hbu1))
        have Cu1 := Lib.hid (Cw2.out.nxt (hbu1))
        clear Bw2 Aw2 Cw2
        clear hbu1
        obtain ⟨A2, C2, rfl, own2⟩ := hv1.own
        clear hv1 own2 P
        go_wp2_with fail
        go_ret
        exact ⟨rfl, Bu1.out⟩
theorem whWhisperOnceL (A : Option Addr) (len cap : Nat) (st : List (Int × Int)) (A' : Option Addr) (len' cap' : Nat) (zs : List Int) (most : Int) (w : World) (hA : Is .i64 w w.heap.size A (flatS st)) (hl : st.length = len) (hm : st.length ≤ maxLen) (h2 : IsRow .i64 w A' len' cap' zs) :
    Calls Try.prog 5 #[.slice A len cap, .slice A' len' cap', .int .i64 most] w fun e w' => e = .returned (.bool true) ∧ Below w.heap.size w w' := by
  subst hl
  obtain ⟨k1, k2, k3, -⟩ := Is.of_row h2
  generalize zs.take len' = xs at k1 k2
  subst k2
  exact whOnce A A' cap cap' st xs most w hA k1 hm k3

namespace whisperOnceRow
open Go.ChangeShapes Go.WideShapes Go.ChangeAt Go.RowKit
open Go.ChangeMaps (open_string shut_string)
set_option linter.unusedVariables false
theorem own : ownKnob Try.prog.godebug = none := by kernel_rfl
theorem laidOut : laidOutB Try.prog = true := by kernel_rfl
set_option maxRecDepth 100000 in
theorem lifted (os : Os) (started : os.Started) (H : Type) (enc : TypeId × Value → H) :
    ReturnsInHanded {} Try.checked os 5 .any (Rows.whisperOnceSpec.pre6 enc Try.prog Try.f5 Rows.whisperOnceRow.domain false) (Rows.whisperOnceSpec.post enc Try.prog Try.f5 false true false false) := by
  refine returnsInHanded_of_change (C := Try.checked) own started (by kernel_rfl) Try.func5
    (ChangeSpec.witness6 (enc := enc) (C := Try.checked) false ⟨#[], #[.slice none 0 0, .slice none 0 0, .int .i64 0], []⟩ 8 (by kernel_rfl) (by kernel_rfl) (by kernel_rfl) (by kernel_rfl)) ?_
  intro W base args ds gs before hval0 hW hcnd _hsz
  have hval : ∀ (j : Nat) t v, Try.f5.params[j]? = some t → args[j]? = some v → Value.okWide Try.prog W .any base t v := hval0
  have hW' := hW
  obtain ⟨p, q, hA0, hV, rfl, hfz, hnd⟩ := hW
  have hA : DataW.TrodAll enc Try.prog W 0 (fun _ => true) true Try.f5.params.toList args.toList ds p := hA0
  rw [Try.params5] at hA hval
  obtain ⟨v0, vs0, d0, ds0, p0, q0, hargs, rfl, rfl, h0, r0⟩ := trodAll_cons hA
  obtain ⟨v1, vs1, d1, ds1, p1, q1, rfl, rfl, rfl, h1, r1⟩ := trodAll_cons r0
  obtain ⟨v2, vs2, d2, ds2, p2, q2, rfl, rfl, rfl, h2, r2⟩ := trodAll_cons r1
  obtain ⟨rfl, rfl, rfl⟩ := trodAll_nil r2
  obtain rfl : args = #[v0, v1, v2] := by cases args; simp_all
  obtain ⟨rfl, rfl⟩ := trodVars_none hV
  have k0 := h0
  have lt0 : ∀ x ∈ p0, x.block < W.heap.size := by obtain ⟨m, hm⟩ := k0; exact DataW.trod_lt m _ _ _ hm
  have k1 := h1
  have lt1 : ∀ x ∈ p1, x.block < W.heap.size := by obtain ⟨m, hm⟩ := k1; exact DataW.trod_lt m _ _ _ hm
  have k2 := h2
  have lt2 : ∀ x ∈ p2, x.block < W.heap.size := by obtain ⟨m, hm⟩ := k2; exact DataW.trod_lt m _ _ _ hm
  obtain ⟨a0, len0, cap0, rfl⟩ := okWide_slice Try.underlying22 (hval 0 22 v0 rfl rfl)
  obtain ⟨m0, w0, l0, n0, x0⟩ : ∃ st : List (Int × Int), Is .i64 W W.heap.size a0 (flatS st) ∧ st.length = len0 ∧ (a0 = none → cap0 = 0) ∧ st.length ≤ maxLen := by
    obtain ⟨fuel, hf⟩ := h0
    rcases open_flat (n := 9) .i64 2 (by decide) (by kernel_rfl) (by kernel_rfl) Try.underlying22 hf with hcs | ⟨x, l, c, xs, hcs, hl, hm, hx, hi, -⟩
    · simp [Value.cells] at hcs
      obtain ⟨rfl, rfl, rfl⟩ := hcs
      exact ⟨[], fun h => by simp [flatS] at h, rfl, fun _ => rfl, Nat.zero_le _⟩
    · simp [Value.cells] at hcs
      obtain ⟨rfl, rfl, rfl⟩ := hcs
      have hu := unflat_len xs len0
      exact ⟨unflat xs len0, by rw [unflat_flat xs len0 (by omega), List.take_of_length_le (by omega)]; exact hi, hu, fun h => by simp at h, by omega⟩
  obtain ⟨a1, len1, cap1, rfl⟩ := okWide_slice Try.underlying23 (hval 1 23 v1 rfl rfl)
  obtain ⟨z1, w1⟩ : ∃ zs, IsRow .i64 W a1 len1 cap1 zs := by
    obtain ⟨fuel, hf⟩ := h1
    rcases open_ints Try.underlying23 Try.underlying3 (by kernel_rfl) hf with ⟨hcs, _⟩ | ⟨x, l, c, zs, hcs, _, hl, hm, hz, _, hcell, hwz⟩
    · simp [Value.cells] at hcs
      obtain ⟨rfl, rfl, rfl⟩ := hcs
      exact ⟨[], .inl ⟨rfl, rfl, rfl, rfl⟩⟩
    · simp [Value.cells] at hcs
      obtain ⟨rfl, rfl, rfl⟩ := hcs
      exact ⟨zs, .inr ⟨_, rfl, hl, hm, by simpa using hz, hcell, hwz⟩⟩
  obtain ⟨a2, rfl, -, -, w2⟩ := open_int Try.underlying3 (hval 2 3 v2 rfl rfl) h2
  clear hA0 hval0
  refine (whWhisperOnceL a0 len0 cap0 m0 a1 len1 cap1 z1 a2 W w0 l0 x0 w1).mono fun e W' ⟨he, bel⟩ => ?_
  subst he
  exact ⟨_, rfl, _, _, _, [], _, [], hW', trodAll_mk1 (shut_bool Try.underlying4 _), (trodAll_cons_mk (Below.trod laidOut (by kernel_rfl) (of_decide_eq_true (by kernel_rfl)) k0 bel lt0) (trodAll_cons_mk (Below.trod laidOut (by kernel_rfl) (of_decide_eq_true (by kernel_rfl)) k1 bel lt1) (trodAll_cons_mk (Below.trod laidOut (by kernel_rfl) (of_decide_eq_true (by kernel_rfl)) k2 bel lt2) trodAll_mk0))), rfl, bel.frame _, fun h => by cases h⟩

theorem over : Rows.whisperOnceRow.holds Try.pinned (OpenSpec.ofChange Rows.whisperOnceSpec) :=
  OpenClaim.holds_of_wide 5 Try.f5 rfl rfl rfl rfl rfl rfl rfl ⟨rfl, rfl, rfl, rfl, rfl⟩ rfl rfl rfl rfl rfl (by kernel_rfl) Try.func5 (by kernel_rfl)
    (of_decide_eq_true (by kernel_rfl)) (by unfold Func.isWrapper; first | (rw [if_pos (by decide +kernel)]; kernel_rfl) | (rw [if_neg (by decide +kernel)]; exact ⟨rfl, rfl⟩))
    (fun os started H enc _ => lifted os started H enc)
theorem proved : Rows.WhisperOnceSaid := over
end whisperOnceRow
end Go.Proofs.Ytlbchidgadcmpaa
