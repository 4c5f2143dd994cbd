/- Index, passes, both, Classify. -/
import Derived.Test.YtbonniladhablaaRows
import Derived.WalkKit
import Derived.WalkLawsBesides
import Derived.WalkSpells
import Derived.ProofKit
import Derived.Below
import Derived.Outline
import Derived.Lib.Hide
import Derived.Deep.RegionWith
import Derived.Deep.RegionHeld3
import Derived.Deep.DrawnRows
import Derived.StillTailTactics
import Derived.BigQuiet
import Derived.Deep.QuietTactic
import Derived.Deep.LoopGhost
import Derived.IntWalk
import Derived.Test.YtbonniladhablaaTcR
namespace Go.Proofs.Ytbonniladhablaa
open Go.RowKit
attribute [local go_sem ↓] Go.wp_at_zero Go.wp_at_succ
attribute [local go_sem] wrap_lit

theorem ret_ii {a b m n : Int} (h : a = b) (h' : m = n) : Ending.returned (.tuple #[.int .i64 a, .int .i64 m]) = .returned (.tuple #[.int .i64 b, .int .i64 n]) := by rw [h, h']

set_option maxRecDepth 100000 in
set_option maxHeartbeats 8000000 in
theorem index21 (F A B' : Option Addr) (cf na ca nb cb : Nat) (fl xa xb : List Int) (far tall : Int) (own : Int) (B : Nat) (w : World) (hB : B ≤ w.heap.size) (hF : Is .i64 w B F fl) (hA : Is .i64 w B A xa) (hB' : Is .i64 w B B' xb) (hna : xa.length = na * 4) (hnb : xb.length = nb * 4) (hlf : fl.length ≤ 1000) (hla : na ≤ 1000) (hlb : nb ≤ 1000) :
    Calls Try.prog 21 #[.agg #[.slice F fl.length cf, .slice A na ca, .slice B' nb cb, .int .i64 far, .int .i64 tall], .int .i64 own] w fun e w' => e = .returned (.tuple #[.int .i64 (ixV fl na xa nb xb far tall own), .int .i64 (ixE fl na xa nb xb far tall own)]) ∧ Below w.heap.size w w' := by
  have hS := TbS.made F A B' cf na ca nb cb fl xa xb far tall B w hB hF hA hB' 50
  have bX : Below w.heap.size w (w.alloc (.cells #[.slice F fl.length cf, .slice A na ca, .slice B' nb cb, .int .i64 far, .int .i64 tall] 50)) := (Below.refl _ _).alloc (Nat.le_refl _) _
  have C := check26 F A B' cf na ca nb cb fl xa xb far tall B (w.alloc (.cells #[.slice F fl.length cf, .slice A na ca, .slice B' nb cb, .int .i64 far, .int .i64 tall] 50)) (Nat.le_trans hB bX.size) (hF.below (bX.mono hB)) (hA.below (bX.mono hB)) (hB'.below (bX.mono hB)) hna hnb hlf hla hlb
  have HS := Lib.hid hS
  by_cases h0 : ckTb fl na xa nb xb far tall = 0
  · have hfl := (ckTb_ok.1 h0).2.1
    have h15 := (ckTb_ok.1 h0).1
    rw [h0] at C
    have C := Lib.hid C
    by_cases hw : okOwn own
    · have hE : ixE fl na xa nb xb far tall own = 0 := by unfold ixE; rw [if_pos h0, if_pos hw]
      have hV : ixV fl na xa nb xb far tall own = ixN fl own fl.length := by unfold ixV; rw [if_pos hE]
      have HV := Lib.hid (And.intro hV hE)
      have HFl := Lib.hid hfl
      have HOw := Lib.hid hw
      obtain ⟨o0, o1⟩ := hw
      clear hE hV hfl h0 hS hF hA hB' bX
      go_enter Try.func21, Try.ntmps21
      go_wp2_with fail
      obtain ⟨p, hp⟩ : ∃ p, p = w.heap.size := ⟨_, rfl⟩
      rw [← hp] at HS ⊢
      clear hp
      refine C.out.mono ?_
      rintro e w1 ⟨rfl, hb1⟩
      have HT := Lib.hid (HS.out.on hb1)
      clear hb1 HS C
      have C1 := Lib.hid (within1 own (-1000) 50000 0 w1 (by rw [if_pos ⟨o0, o1⟩]))
      go_wp2_with fail
      refine C1.out.mono ?_
      rintro e w2 ⟨rfl, hb2⟩
      have HT := Lib.hid (HT.out.on hb2)
      have e0 := HT.out.c0
      clear hb2 C1
      go_wp2_with fail
      go_loop [4, 25] (fun n i => ∃ k : Nat, k ≤ fl.length ∧ i = .int .i64 k ∧ n = .int .i64 (ixN fl own k)) (fun _ i => fl.length - (intOf i).toNat)
      case atStart => exact ⟨0, Nat.zero_le _, rfl, rfl⟩
      case round =>
        obtain ⟨k, hk, rfl, rfl⟩ := hrel
        have nb1 := ixN_bd fl own k
        by_cases hlt : k < fl.length
        · obtain ⟨b, off, rfl, hbb, hc⟩ := HT.out.f (by omega)
          have d0 := hc k hlt
          have hkI : (k : Int) < (fl.length : Int) := by omega
          have hk0 : (0 : Int) ≤ (k : Int) := by omega
          have HN := Lib.hid (show ixN fl own (k + 1) = if nth fl k ≤ own then ixN fl own k + 1 else ixN fl own k from rfl)
          obtain ⟨z, hz⟩ : ∃ z, z = nth fl k := ⟨_, rfl⟩
          obtain ⟨c, hcc⟩ : ∃ c, c = ixN fl own k := ⟨_, rfl⟩
          rw [← hz] at d0 HN
          rw [← hcc] at nb1 HN ⊢
          clear hc hz hcc
          by_cases g : z ≤ own
          · have hst := Lib.hid (show ixN fl own (k + 1) = c + 1 by rw [HN.out, if_pos g])
            go_wp2_with fail
            exact ⟨⟨k + 1, by omega, by go_num, by rw [hst.out]⟩, by simp [intOf]; omega⟩
          · have hst := Lib.hid (show ixN fl own (k + 1) = c by rw [HN.out, if_neg g])
            go_wp2_with fail
            exact ⟨⟨k + 1, by omega, by go_num, by rw [hst.out]⟩, by simp [intOf]; omega⟩
        · obtain rfl : k = fl.length := by omega
          go_wp2_with fail
          go_ret2
          exact ⟨ret_ii HV.out.1.symm HV.out.2.symm, HT.out.bw⟩
    · have hE : ixE fl na xa nb xb far tall own = 1 := by unfold ixE; rw [if_pos h0, if_neg hw]
      have hV : ixV fl na xa nb xb far tall own = 0 := by unfold ixV; rw [if_neg (by rw [hE]; decide)]
      have HV := Lib.hid (And.intro hV hE)
      have HOw := Lib.hid hw
      have ho : own < -1000 ∨ (-1000 ≤ own ∧ 50000 < own) := by unfold okOwn at hw; omega
      clear hE hV hfl h0 hS hF hA hB' bX hw
      have C1 := Lib.hid (fun W => within1 own (-1000) 50000 1 W ((if_neg (c := -1000 ≤ own ∧ own ≤ 50000) HOw.out).symm))
      clear ho
      go_enter Try.func21, Try.ntmps21
      go_wp2_with fail
      refine C.out.mono ?_
      rintro e w1 ⟨rfl, hb1⟩
      have HT := Lib.hid (HS.out.on hb1)
      clear hb1 HS C
      go_wp2_with fail
      refine (C1.out _).mono ?_
      rintro e w2 ⟨rfl, hb2⟩
      have HT := Lib.hid (HT.out.on hb2)
      clear hb2 C1
      go_wp2_with fail
      go_ret2
      exact ⟨ret_ii HV.out.1.symm HV.out.2.symm, HT.out.bw⟩
  · have hE : ixE fl na xa nb xb far tall own = ckTb fl na xa nb xb far tall := by unfold ixE; rw [if_neg h0]
    have hV : ixV fl na xa nb xb far tall own = 0 := by unfold ixV; rw [if_neg (by rw [hE]; exact h0)]
    have HV := Lib.hid (And.intro hV hE)
    have hb0 : (ckTb fl na xa nb xb far tall != 0) = true := by simp [h0]
    have C := Lib.hid C
    clear hE hV h0 hS hF hA hB' bX
    go_enter Try.func21, Try.ntmps21
    go_wp2_with fail
    refine C.out.mono ?_
    rintro e w1 ⟨rfl, hb1⟩
    have HT := Lib.hid (HS.out.on hb1)
    clear hb1 HS C
    go_wp2_with fail
    go_ret2
    exact ⟨ret_ii HV.out.1.symm HV.out.2.symm, HT.out.bw⟩

set_option maxRecDepth 100000 in
set_option maxHeartbeats 8000000 in
theorem index22 (F A B' : Option Addr) (cf na ca nb cb : Nat) (fl xa xb : List Int) (far tall : Int) (own : Int) (B : Nat) (w : World) (hB : B ≤ w.heap.size) (hF : Is .i64 w B F fl) (hA : Is .i64 w B A xa) (hB' : Is .i64 w B B' xb) (hna : xa.length = na * 4) (hnb : xb.length = nb * 4) (hlf : fl.length ≤ 1000) (hla : na ≤ 1000) (hlb : nb ≤ 1000) :
    Calls Try.prog 22 #[.agg #[.slice F fl.length cf, .slice A na ca, .slice B' nb cb, .int .i64 far, .int .i64 tall], .int .i64 own] w fun e w' => e = .returned (.tuple #[.int .i64 (ixV fl na xa nb xb far tall own), .int .i64 (ixE fl na xa nb xb far tall own)]) ∧ Below w.heap.size w w' := by
  have hS := TbS.made F A B' cf na ca nb cb fl xa xb far tall B w hB hF hA hB' 53
  have bX : Below w.heap.size w (w.alloc (.cells #[.slice F fl.length cf, .slice A na ca, .slice B' nb cb, .int .i64 far, .int .i64 tall] 53)) := (Below.refl _ _).alloc (Nat.le_refl _) _
  have C := check27 F A B' cf na ca nb cb fl xa xb far tall B (w.alloc (.cells #[.slice F fl.length cf, .slice A na ca, .slice B' nb cb, .int .i64 far, .int .i64 tall] 53)) (Nat.le_trans hB bX.size) (hF.below (bX.mono hB)) (hA.below (bX.mono hB)) (hB'.below (bX.mono hB)) hna hnb hlf hla hlb
  have HS := Lib.hid hS
  by_cases h0 : ckTb fl na xa nb xb far tall = 0
  · have hfl := (ckTb_ok.1 h0).2.1
    have h15 := (ckTb_ok.1 h0).1
    rw [h0] at C
    have C := Lib.hid C
    by_cases hw : okOwn own
    · have hE : ixE fl na xa nb xb far tall own = 0 := by unfold ixE; rw [if_pos h0, if_pos hw]
      have hV : ixV fl na xa nb xb far tall own = ixN fl own fl.length := by unfold ixV; rw [if_pos hE]
      have HV := Lib.hid (And.intro hV hE)
      have HFl := Lib.hid hfl
      have HOw := Lib.hid hw
      obtain ⟨o0, o1⟩ := hw
      clear hE hV hfl h0 hS hF hA hB' bX
      go_enter Try.func22, Try.ntmps22
      go_wp2_with fail
      obtain ⟨p, hp⟩ : ∃ p, p = w.heap.size := ⟨_, rfl⟩
      rw [← hp] at HS ⊢
      clear hp
      refine C.out.mono ?_
      rintro e w1 ⟨rfl, hb1⟩
      have HT := Lib.hid (HS.out.on hb1)
      clear hb1 HS C
      have e0 := HT.out.c0
      go_wp2_with fail
      go_loop [7] (fun n => ∃ k : Nat, k ≤ fl.length ∧ n = .int .i64 k ∧ ∀ j, j < k → nth fl j ≤ own) (fun n => fl.length - (intOf n).toNat)
      case atStart => exact ⟨0, Nat.zero_le _, rfl, fun j h => absurd h (by omega)⟩
      case round =>
        obtain ⟨k, hk, rfl, hall⟩ := hrel
        have HAll := Lib.hid hall
        clear hall
        by_cases hlt : k < fl.length
        · obtain ⟨b, off, rfl, hbb, hc⟩ := HT.out.f (by omega)
          have d0 := hc k hlt
          have hkI : (k : Int) < (fl.length : Int) := by omega
          have hk0 : (0 : Int) ≤ (k : Int) := by omega
          obtain ⟨z, hz⟩ : ∃ z, z = nth fl k := ⟨_, rfl⟩
          rw [← hz] at d0
          have HZ := Lib.hid hz
          clear hc hz
          by_cases g : z ≤ own
          · have HA2 := Lib.hid (show ∀ j, j < k + 1 → nth fl j ≤ own from fun j hj => by
              rcases Nat.lt_or_ge j k with q | q
              · exact HAll.out j q
              · obtain rfl : j = k := by omega
                rw [← HZ.out]; exact g)
            go_wp2_with fail
            exact ⟨⟨k + 1, by omega, by go_num, HA2.out⟩, by simp [intOf]; omega⟩
          · have HN := Lib.hid (show ixN fl own fl.length = k from ixN_stop HAll.out (by omega) fun j h1 h2 => by
              rcases Nat.lt_or_ge k j with q | q
              · have := fl_asc HFl.out q h2
                have := HZ.out
                omega
              · obtain rfl : j = k := by omega
                rw [← HZ.out]; omega)
            go_wp2_with fail
            go_ret2
            exact ⟨ret_ii (by rw [HV.out.1, HN.out]) HV.out.2.symm, HT.out.bw⟩
        · obtain rfl : k = fl.length := by omega
          have HN := Lib.hid (show ixN fl own fl.length = (fl.length : Nat) from ixN_all HAll.out)
          go_wp2_with fail
          go_ret2
          exact ⟨ret_ii (by rw [HV.out.1, HN.out]) HV.out.2.symm, HT.out.bw⟩
    · have hE : ixE fl na xa nb xb far tall own = 1 := by unfold ixE; rw [if_pos h0, if_neg hw]
      have hV : ixV fl na xa nb xb far tall own = 0 := by unfold ixV; rw [if_neg (by rw [hE]; decide)]
      have HV := Lib.hid (And.intro hV hE)
      have HOw := Lib.hid hw
      have ho : own < -1000 ∨ (-1000 ≤ own ∧ 50000 < own) := by unfold okOwn at hw; omega
      clear hE hV hfl h0 hS hF hA hB' bX hw
      rcases ho with g1 | ⟨g1, g2⟩
      all_goals
        go_enter Try.func22, Try.ntmps22
        go_wp2_with fail
        refine C.out.mono ?_
        rintro e w1 ⟨rfl, hb1⟩
        have HT := Lib.hid (HS.out.on hb1)
        clear hb1 HS C
        go_wp2_with fail
        go_ret2
        exact ⟨ret_ii HV.out.1.symm HV.out.2.symm, HT.out.bw⟩
  · have hE : ixE fl na xa nb xb far tall own = ckTb fl na xa nb xb far tall := by unfold ixE; rw [if_neg h0]
    have hV : ixV fl na xa nb xb far tall own = 0 := by unfold ixV; rw [if_neg (by rw [hE]; exact h0)]
    have HV := Lib.hid (And.intro hV hE)
    have hb0 : (ckTb fl na xa nb xb far tall != 0) = true := by simp [h0]
    have C := Lib.hid C
    clear hE hV h0 hS hF hA hB' bX
    go_enter Try.func22, Try.ntmps22
    go_wp2_with fail
    refine C.out.mono ?_
    rintro e w1 ⟨rfl, hb1⟩
    have HT := Lib.hid (HS.out.on hb1)
    clear hb1 HS C
    go_wp2_with fail
    go_ret2
    exact ⟨ret_ii HV.out.1.symm HV.out.2.symm, HT.out.bw⟩
end Go.Proofs.Ytbonniladhablaa
