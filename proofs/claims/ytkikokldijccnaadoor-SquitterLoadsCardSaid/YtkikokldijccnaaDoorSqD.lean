/- squitter: Tick. -/
import Derived.Test.YtkikokldijccnaaDoorRows
import Derived.WalkKit
import Derived.WalkLawsBesides
import Derived.WalkSpells
import Derived.ProofKit
import Derived.Below
import Derived.Outline
import Derived.Lib.Hide
import Derived.Deep.RegionWith
import Derived.Deep.RegionHeld3
import Derived.Deep.DrawnRows
import Derived.StillTailTactics
import Derived.BigQuiet
import Derived.Deep.QuietTactic
import Derived.Deep.LoopGhost
import Derived.IntWalk
import Derived.BigQuiet
import Derived.Test.YtkikokldijccnaaDoorSqC
namespace Go.Proofs.YtkikokldijccnaaDoor
open Go.RowKit Go.Maps
attribute [local go_sem ↓] Go.wp_at_zero Go.wp_at_succ
attribute [local go_sem] wrap_lit
set_option maxHeartbeats 1000000 in
theorem tick26 {w : World} {H mb : Nat} {t : Ts} {bk gk : Int → Nat} {O : Nat → Prop} (hok : Ok t) (now : Int) (hT : Tab w H mb t bk gk O) : Calls Tryd.prog 26 #[.pointer (some ⟨H, 0, none⟩), .int .i64 now] w fun e w' => e = .returned (.int .i64 (tickE t now)) ∧ Tab w' H mb (tickT t now) bk gk O ∧ Turn O w w' := by
  obtain ⟨c0, c1, c2, c3, c4⟩ := hT.c.cell
  have t0 := hok.t0
  have t1 := hok.t1
  by_cases h1 : now < 0 ∨ 1073741824 < now
  · have HE : Hid (tickE t now = 1 ∧ tickT t now = t) := Lib.hid (by
      have : tickE t now = 1 := by unfold tickE; rw [if_pos h1]
      exact ⟨this, by unfold tickT; rw [if_neg (by rw [this]; decide)]⟩)
    rcases h1 with h1 | h1
    · have q1 : decide (now < 0) = true := decide_eq_true h1
      go_enter Tryd.func26, Tryd.ntmps26
      go_wp2_with (first
        | (go_at_call 32; refine (none32 _ H mb c4).mono ?_; rintro e w1 ⟨rfl, rfl⟩)
        | (go_at_call 44; refine (adv44 hok HB.out.1 HB.out.2.2 hT).mono ?_; rintro e w1 ⟨rfl, hT1, hU1⟩)
        | go_in)
      go_ret
      rw [HE.out.1, HE.out.2]
      exact ⟨rfl, hT, Turn.refl _ _⟩
    · have q1 : decide (now < 0) = false := decide_eq_false (by omega)
      have q2 : decide (1073741824 < now) = true := decide_eq_true h1
      go_enter Tryd.func26, Tryd.ntmps26
      go_wp2_with (first
        | (go_at_call 32; refine (none32 _ H mb c4).mono ?_; rintro e w1 ⟨rfl, rfl⟩)
        | (go_at_call 44; refine (adv44 hok HB.out.1 HB.out.2.2 hT).mono ?_; rintro e w1 ⟨rfl, hT1, hU1⟩)
        | go_in)
      go_ret
      rw [HE.out.1, HE.out.2]
      exact ⟨rfl, hT, Turn.refl _ _⟩
  · have q1 : decide (now < 0) = false := decide_eq_false (by omega)
    have q2 : decide (1073741824 < now) = false := decide_eq_false (by omega)
    by_cases h2 : now < t.now
    · have HE : Hid (tickE t now = 12 ∧ tickT t now = t) := Lib.hid (by
        have : tickE t now = 12 := by unfold tickE; rw [if_neg h1, if_pos h2]
        exact ⟨this, by unfold tickT; rw [if_neg (by rw [this]; decide)]⟩)
      clear h1
      have q3 : decide (now < t.now) = true := decide_eq_true h2
      go_enter Tryd.func26, Tryd.ntmps26
      go_wp2_with (first
        | (go_at_call 32; refine (none32 _ H mb c4).mono ?_; rintro e w1 ⟨rfl, rfl⟩)
        | (go_at_call 44; refine (adv44 hok HB.out.1 HB.out.2.2 hT).mono ?_; rintro e w1 ⟨rfl, hT1, hU1⟩)
        | go_in)
      go_ret
      rw [HE.out.1, HE.out.2]
      exact ⟨rfl, hT, Turn.refl _ _⟩
    · have HE : Hid (tickE t now = 0 ∧ tickT t now = advT t now) := Lib.hid (by
        have : tickE t now = 0 := by unfold tickE; rw [if_neg h1, if_neg h2]
        exact ⟨this, by unfold tickT; rw [if_pos this]⟩)
      have HB : Hid (t.now ≤ now ∧ 0 ≤ now ∧ now ≤ 1073741824) := Lib.hid (by omega)
      clear h1
      have q3 : decide (now < t.now) = false := decide_eq_false h2
      go_enter Tryd.func26, Tryd.ntmps26
      go_wp2_with (first
        | (go_at_call 32; refine (none32 _ H mb c4).mono ?_; rintro e w1 ⟨rfl, rfl⟩)
        | (go_at_call 44; refine (adv44 hok HB.out.1 HB.out.2.2 hT).mono ?_; rintro e w1 ⟨rfl, hT1, hU1⟩)
        | go_in)
      go_ret
      rw [HE.out.1, HE.out.2]
      exact ⟨rfl, hT1, hU1⟩
theorem tick26z {w : World} {H : Nat} (now : Int) (c4 : w.cell? ⟨H, 4, none⟩ = some (.map none)) : Calls Tryd.prog 26 #[.pointer (some ⟨H, 0, none⟩), .int .i64 now] w fun e w' => e = .returned (.int .i64 11) ∧ w' = w := by
  go_enter Tryd.func26, Tryd.ntmps26
  go_wp2_with (first | (go_at_call 32; refine (none32z _ H c4).mono ?_; rintro e w1 ⟨rfl, rfl⟩) | go_in)
  go_ret
  exact ⟨rfl, rfl⟩
theorem tick26n {w : World} (now : Int) : Calls Tryd.prog 26 #[.pointer none, .int .i64 now] w fun e w' => e = .returned (.int .i64 11) ∧ w' = w := by
  go_enter Tryd.func26, Tryd.ntmps26
  go_wp2_with (first | (go_at_call 32; refine (none32n _).mono ?_; rintro e w1 ⟨rfl, rfl⟩) | go_in)
  go_ret
  exact ⟨rfl, rfl⟩
end Go.Proofs.YtkikokldijccnaaDoor
