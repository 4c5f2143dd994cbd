/- Package fruit and its reference: Steady. -/
import Derived.Test.YtmkpblfacnnnoaaRows
import Derived.WalkKit
import Derived.WalkLawsBesides
import Derived.WalkSpells
import Derived.ProofKit
import Derived.Below
import Derived.Outline
import Derived.Lib.Hide
import Derived.Deep.RegionWith
import Derived.Deep.RegionHeld3
import Derived.Deep.DrawnRows
import Derived.StillTailTactics
import Derived.BigQuiet
import Derived.Deep.QuietTactic
import Derived.Deep.LoopGhost
import Derived.IntWalk
import Derived.Test.YtmkpblfacnnnoaaFrH
namespace Go.Proofs.Ytmkpblfacnnnoaa
open Go.RowKit
attribute [local go_sem ↓] Go.wp_at_zero Go.wp_at_succ
attribute [local go_sem] wrap_lit

def stI (need : Int) (l : List Int) : Nat → List Int
  | 0 => []
  | k + 1 => if need ≤ nth l k then stI need l k ++ [(k : Int)] else stI need l k
theorem stI_len (need : Int) (l : List Int) : ∀ k, (stI need l k).length ≤ k
  | 0 => Nat.le_refl _
  | k + 1 => by
    have := stI_len need l k
    unfold stI
    split
    · rw [List.length_append]; simp; omega
    · omega
def stE (xss : List (List Int)) (u need : Int) : Int := if lfE xss u = 0 then (if 1 ≤ need ∧ need ≤ xss.length then 0 else 1) else lfE xss u
def stL (xss : List (List Int)) (u need : Int) : List Int := if stE xss u need = 0 then stI need (lfL xss u) (lfL xss u).length else []
/-- What Steady returns. -/
def StP (w : World) (n : Int) (l : List Int) (e : Ending) (w' : World) : Prop := ∃ v, e = .returned (.tuple #[v, .int .i64 n]) ∧ Acc .i64 w' w.heap.size 3 1 v l.length l ∧ Below w.heap.size w w'
theorem stp_nil {w w' : World} {n : Int} (h : Below w.heap.size w w') : StP w n [] (.returned (.tuple #[.slice none 0 0, .int .i64 n])) w' := ⟨_, rfl, Acc.nil _ _ _ _ _, h⟩
theorem lfL_len (xss : List (List Int)) (u : Int) : (lfL xss u).length ≤ 64 := by
  by_cases h : lfE xss u = 0
  · rw [lfL_ok h, lfA_len]
    obtain ⟨⟨h1, h2⟩, h3, -⟩ := lfE_ok.1 h
    obtain ⟨k, hk⟩ : ∃ k, xss.length = k + 1 := ⟨xss.length - 1, by omega⟩
    rw [hk]
    exact (ckS_ok.1 (ckR_all h3 k (by omega))).1
  · rw [lfL_bad h]; simp

set_option maxRecDepth 100000 in
set_option maxHeartbeats 4000000 in
theorem steady23 (A : Option Addr) (cap : Nat) (xss : List (List Int)) (u need : Int) (B : Nat) (w : World) (hBw : B ≤ w.heap.size) (hR : RIs .i64 w B A xss) (hlen : xss.length ≤ 1000000) (hrow : ∀ r, r < xss.length → (row xss r).length ≤ 1000000) :
    Calls Try.prog 23 #[.slice A xss.length cap, .int .i64 u, .int .i64 need] w (StP w (stE xss u need) (stL xss u need)) := by
  have C := life21 A cap xss u B w hBw hR hlen hrow
  have hl64 := lfL_len xss u
  obtain ⟨i0, hi0, hz0, hz1, hz2⟩ := info_parts int_info
  by_cases h0 : lfE xss u = 0
  · rw [h0] at C
    obtain ⟨l, hl⟩ : ∃ l, l = lfL xss u := ⟨_, rfl⟩
    rw [← hl] at C hl64
    have D := Lib.hid C
    by_cases h1 : 1 ≤ need ∧ need ≤ xss.length
    · have hE : stE xss u need = 0 := by unfold stE; rw [if_pos h0, if_pos h1]
      have hL : stL xss u need = stI need l l.length := by unfold stL; rw [if_pos hE, hl]
      rw [hE, hL]
      obtain ⟨n0, n1⟩ := h1
      clear hR hrow h0 C hl hE hL
      go_enter Try.func23, Try.ntmps23
      go_wp2_with fail
      refine D.out.mono ?_
      rintro e w1 ⟨A', cap', rfl, hown, hb1⟩
      have HW := Lib.hid hown.is
      have HB := Lib.hid hb1
      have hs1 := hb1.size
      clear hown hb1
      go_wp2_with fail
      obtain ⟨Q, hQ⟩ : ∃ Q, Q = w1.heap.size := ⟨_, rfl⟩
      have hQ1 : Q ≤ w1.heap.size := by omega
      have hQw : w.heap.size ≤ Q := by omega
      have HQ := Lib.hid hQ
      clear hQ
      go_loopw [6, 30] (fun v i wr => ∃ k : Nat, k ≤ l.length ∧ i = .int .i64 k ∧ Acc .i64 wr Q 3 1 v (stI need l k).length (stI need l k) ∧ Below Q w1 wr) (fun _ i _ => l.length - (intOf i).toNat)
      case atStart => exact ⟨0, Nat.zero_le _, rfl, Acc.nil _ _ _ _ _, Below.refl _ _⟩
      case round =>
        obtain ⟨k, hk, rfl, hown, hB⟩ := hrel
        by_cases hlt : k < l.length
        · obtain ⟨b, off, rfl, hbb, hc⟩ := HW.out (by omega)
          have x1 := (hB.cell (p := ⟨b, off + k, none⟩) (show b < Q by have := HQ.out; omega)).trans (hc k hlt)
          have hkI : (k : Int) < (l.length : Int) := by omega
          have hk0 : (0 : Int) ≤ (k : Int) := by omega
          have hsl := stI_len need l k
          have hBs := hB.size
          have HWW := Lib.hid hown
          have HBB := Lib.hid hB
          have hs2 : Q ≤ wr.heap.size := by omega
          clear hc hB
          by_cases hg : need ≤ nth l k
          · have hst := Lib.hid (show stI need l (k + 1) = stI need l k ++ [(k : Int)] by rw [stI, if_pos hg])
            go_wp2_with (at_builtin; refine wpList_app rfl _ _ 22 rfl .i64 Q 3 i0 _ 1 8 Try.underlying22 hi0 hz0 hz1 hz2 rfl (by decide) _ _ _ [(k : Int)] rfl HWW.out _ rfl rfl rfl (by omega) (by decide) hs2 ?_; intro v' w5 hown5 hb5)
            exact ⟨⟨k + 1, by omega, by go_num, by rw [hst.out, List.length_append]; exact hown5, HBB.out.trans hb5⟩, by simp [intOf]; omega⟩
          · have hst := Lib.hid (show stI need l (k + 1) = stI need l k by rw [stI, if_neg hg])
            go_wp2_with fail
            exact ⟨⟨k + 1, by omega, by go_num, by rw [hst.out]; exact HWW.out, HBB.out⟩, by simp [intOf]; omega⟩
        · obtain rfl : k = l.length := by omega
          have HWW := Lib.hid hown
          have HBB := Lib.hid hB
          clear hown hB
          go_wp2_with fail
          go_ret2
          exact ⟨_, rfl, HWW.out.mono hQw, HB.out.trans (HBB.out.mono hQw)⟩
    · have hE : stE xss u need = 1 := by unfold stE; rw [if_pos h0, if_neg h1]
      have hL : stL xss u need = [] := by unfold stL; rw [if_neg (by rw [hE]; decide)]
      rw [hE, hL]
      have hn : need < 1 ∨ (1 ≤ need ∧ (xss.length : Int) < need) := by omega
      clear hR hrow h0 C hl hE hL
      rcases hn with g | ⟨g, g'⟩
      all_goals
        clear h1
        go_enter Try.func23, Try.ntmps23
        go_wp2_with fail
        refine D.out.mono ?_
        rintro e w1 ⟨A', cap', rfl, hown, hb1⟩
        have HB := Lib.hid hb1
        clear hown hb1
        go_wp2_with fail
        go_ret2
        exact stp_nil HB.out
  · have hE : stE xss u need = lfE xss u := by unfold stE; rw [if_neg h0]
    have hL : stL xss u need = [] := by unfold stL; rw [if_neg (by rw [hE]; exact h0)]
    rw [hE, hL]
    obtain ⟨c, hc⟩ : ∃ c, c = lfE xss u := ⟨_, rfl⟩
    rw [← hc] at C h0 ⊢
    have hcb : (c != 0) = true := by simp [h0]
    have D := Lib.hid C
    clear hR hrow h0 C hE hL hc
    go_enter Try.func23, Try.ntmps23
    go_wp2_with fail
    refine D.out.mono ?_
    rintro e w1 ⟨A', cap', rfl, hown, hb1⟩
    have HB := Lib.hid hb1
    clear hown hb1
    go_wp2_with fail
    go_ret2
    exact stp_nil HB.out

set_option maxRecDepth 100000 in
set_option maxHeartbeats 4000000 in
theorem steady24 (A : Option Addr) (cap : Nat) (xss : List (List Int)) (u need : Int) (B : Nat) (w : World) (hBw : B ≤ w.heap.size) (hR : RIs .i64 w B A xss) (hlen : xss.length ≤ 1000000) (hrow : ∀ r, r < xss.length → (row xss r).length ≤ 1000000) :
    Calls Try.prog 24 #[.slice A xss.length cap, .int .i64 u, .int .i64 need] w (StP w (stE xss u need) (stL xss u need)) := by
  have C := life22 A cap xss u B w hBw hR hlen hrow
  have hl64 := lfL_len xss u
  obtain ⟨i0, hi0, hz0, hz1, hz2⟩ := info_parts int_info
  by_cases h0 : lfE xss u = 0
  · rw [h0] at C
    obtain ⟨l, hl⟩ : ∃ l, l = lfL xss u := ⟨_, rfl⟩
    rw [← hl] at C hl64
    have D := Lib.hid C
    by_cases h1 : 1 ≤ need ∧ need ≤ xss.length
    · have hE : stE xss u need = 0 := by unfold stE; rw [if_pos h0, if_pos h1]
      have hL : stL xss u need = stI need l l.length := by unfold stL; rw [if_pos hE, hl]
      rw [hE, hL]
      obtain ⟨n0, n1⟩ := h1
      clear hR hrow h0 C hl hE hL
      go_enter Try.func24, Try.ntmps24
      go_wp2_with fail
      refine D.out.mono ?_
      rintro e w1 ⟨A', cap', rfl, hown, hb1⟩
      have HW := Lib.hid hown.is
      have HB := Lib.hid hb1
      have hs1 := hb1.size
      clear hown hb1
      go_wp2_with fail
      obtain ⟨Q, hQ⟩ : ∃ Q, Q = w1.heap.size := ⟨_, rfl⟩
      have hQ1 : Q ≤ w1.heap.size := by omega
      have hQw : w.heap.size ≤ Q := by omega
      have HQ := Lib.hid hQ
      clear hQ
      go_loopw [10, 11] (fun v i wr => ∃ k : Nat, k ≤ l.length ∧ i = .int .i64 k ∧ Acc .i64 wr Q 3 1 v (stI need l k).length (stI need l k) ∧ Below Q w1 wr) (fun _ i _ => l.length - (intOf i).toNat)
      case atStart => exact ⟨0, Nat.zero_le _, rfl, Acc.nil _ _ _ _ _, Below.refl _ _⟩
      case round =>
        obtain ⟨k, hk, rfl, hown, hB⟩ := hrel
        by_cases hlt : k < l.length
        · obtain ⟨b, off, rfl, hbb, hc⟩ := HW.out (by omega)
          have x1 := (hB.cell (p := ⟨b, off + k, none⟩) (show b < Q by have := HQ.out; omega)).trans (hc k hlt)
          have hkI : (k : Int) < (l.length : Int) := by omega
          have hk0 : (0 : Int) ≤ (k : Int) := by omega
          have hsl := stI_len need l k
          have hBs := hB.size
          have HWW := Lib.hid hown
          have HBB := Lib.hid hB
          have hs2 : Q ≤ wr.heap.size := by omega
          clear hc hB
          by_cases hg : need ≤ nth l k
          · have hst := Lib.hid (show stI need l (k + 1) = stI need l k ++ [(k : Int)] by rw [stI, if_pos hg])
            go_wp2_with (at_builtin; refine wpList_app rfl _ _ 22 rfl .i64 Q 3 i0 _ 1 8 Try.underlying22 hi0 hz0 hz1 hz2 rfl (by decide) _ _ _ [(k : Int)] rfl HWW.out _ rfl rfl rfl (by omega) (by decide) hs2 ?_; intro v' w5 hown5 hb5)
            exact ⟨⟨k + 1, by omega, by go_num, by rw [hst.out, List.length_append]; exact hown5, HBB.out.trans hb5⟩, by simp [intOf]; omega⟩
          · have hst := Lib.hid (show stI need l (k + 1) = stI need l k by rw [stI, if_neg hg])
            go_wp2_with fail
            exact ⟨⟨k + 1, by omega, by go_num, by rw [hst.out]; exact HWW.out, HBB.out⟩, by simp [intOf]; omega⟩
        · obtain rfl : k = l.length := by omega
          have HWW := Lib.hid hown
          have HBB := Lib.hid hB
          clear hown hB
          go_wp2_with fail
          go_ret2
          exact ⟨_, rfl, HWW.out.mono hQw, HB.out.trans (HBB.out.mono hQw)⟩
    · have hE : stE xss u need = 1 := by unfold stE; rw [if_pos h0, if_neg h1]
      have hL : stL xss u need = [] := by unfold stL; rw [if_neg (by rw [hE]; decide)]
      rw [hE, hL]
      have hn : need < 1 ∨ (1 ≤ need ∧ (xss.length : Int) < need) := by omega
      clear hR hrow h0 C hl hE hL
      rcases hn with g | ⟨g, g'⟩
      all_goals
        clear h1
        go_enter Try.func24, Try.ntmps24
        go_wp2_with fail
        refine D.out.mono ?_
        rintro e w1 ⟨A', cap', rfl, hown, hb1⟩
        have HB := Lib.hid hb1
        clear hown hb1
        go_wp2_with fail
        go_ret2
        exact stp_nil HB.out
  · have hE : stE xss u need = lfE xss u := by unfold stE; rw [if_neg h0]
    have hL : stL xss u need = [] := by unfold stL; rw [if_neg (by rw [hE]; exact h0)]
    rw [hE, hL]
    obtain ⟨c, hc⟩ : ∃ c, c = lfE xss u := ⟨_, rfl⟩
    rw [← hc] at C h0 ⊢
    have hcb : (c != 0) = true := by simp [h0]
    have D := Lib.hid C
    clear hR hrow h0 C hE hL hc
    go_enter Try.func24, Try.ntmps24
    go_wp2_with fail
    refine D.out.mono ?_
    rintro e w1 ⟨A', cap', rfl, hown, hb1⟩
    have HB := Lib.hid hb1
    clear hown hb1
    go_wp2_with fail
    go_ret2
    exact stp_nil HB.out
end Go.Proofs.Ytmkpblfacnnnoaa
