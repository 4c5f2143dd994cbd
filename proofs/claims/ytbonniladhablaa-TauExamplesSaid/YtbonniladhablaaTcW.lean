/- same of the law: of equal tables. -/
import Derived.Test.YtbonniladhablaaRows
import Derived.WalkKit
import Derived.WalkLawsBesides
import Derived.WalkSpells
import Derived.ProofKit
import Derived.Below
import Derived.Outline
import Derived.Lib.Hide
import Derived.Deep.RegionWith
import Derived.Deep.RegionHeld3
import Derived.Deep.DrawnRows
import Derived.StillTailTactics
import Derived.BigQuiet
import Derived.Deep.QuietTactic
import Derived.Deep.LoopGhost
import Derived.IntWalk
import Derived.Test.YtbonniladhablaaTcV
import Derived.Test.YtbonniladhablaaKE
namespace Go.Proofs.Ytbonniladhablaa
open Go.RowKit
attribute [local go_sem ↓] Go.wp_at_zero Go.wp_at_succ
attribute [local go_sem] wrap_lit

set_option maxRecDepth 100000 in
set_option maxHeartbeats 8000000 in
theorem same28 (F A B' F' A' B'' : Option Addr) (cf na ca nb cb cf' ca' cb' : Nat) (fl xa xb : List Int) (far tall : Int) (w : World) (hF : Is .i64 w w.heap.size F fl) (hA : Is .i64 w w.heap.size A xa) (hB : Is .i64 w w.heap.size B' xb) (hF' : Is .i64 w w.heap.size F' fl) (hA' : Is .i64 w w.heap.size A' xa) (hB' : Is .i64 w w.heap.size B'' xb) (hna : xa.length = na * 4) (hnb : xb.length = nb * 4) (hlf : fl.length ≤ 1000) (hla : na ≤ 1000) (hlb : nb ≤ 1000) :
    Calls Try.prog 28 #[.agg #[.slice F fl.length cf, .slice A na ca, .slice B' nb cb, .int .i64 far, .int .i64 tall], .agg #[.slice F' fl.length cf', .slice A' na ca', .slice B'' nb cb', .int .i64 far, .int .i64 tall]] w fun e w' => e = .returned (.bool true) ∧ Below w.heap.size w w' := by
  have b1 : Below w.heap.size w (w.alloc (.cells #[.slice F fl.length cf, .slice A na ca, .slice B' nb cb, .int .i64 far, .int .i64 tall] 50)) := (Below.refl _ _).alloc (Nat.le_refl _) _
  have b2 : Below (w.alloc (.cells #[.slice F fl.length cf, .slice A na ca, .slice B' nb cb, .int .i64 far, .int .i64 tall] 50)).heap.size (w.alloc (.cells #[.slice F fl.length cf, .slice A na ca, .slice B' nb cb, .int .i64 far, .int .i64 tall] 50)) ((w.alloc (.cells #[.slice F fl.length cf, .slice A na ca, .slice B' nb cb, .int .i64 far, .int .i64 tall] 50)).alloc (.cells #[.slice F' fl.length cf', .slice A' na ca', .slice B'' nb cb', .int .i64 far, .int .i64 tall] 50)) := (Below.refl _ _).alloc (Nat.le_refl _) _
  have H1 := (TbS.made F A B' cf na ca nb cb fl xa xb far tall _ w (Nat.le_refl _) hF hA hB 50).on b2
  have H2 := TbS.made F' A' B'' cf' na ca' nb cb' fl xa xb far tall _ (w.alloc (.cells #[.slice F fl.length cf, .slice A na ca, .slice B' nb cb, .int .i64 far, .int .i64 tall] 50)) (Nat.le_refl _) ((hF'.below b1).mono b1.size) ((hA'.below b1).mono b1.size) ((hB'.below b1).mono b1.size) 50
  replace H2 : TbS w (w.heap.size + 1) F' A' B'' cf' na ca' nb cb' fl xa xb far tall ((w.alloc (.cells #[.slice F fl.length cf, .slice A na ca, .slice B' nb cb, .int .i64 far, .int .i64 tall] 50)).alloc (.cells #[.slice F' fl.length cf', .slice A' na ca', .slice B'' nb cb', .int .i64 far, .int .i64 tall] 50)) := by
    have e : (w.alloc (.cells #[.slice F fl.length cf, .slice A na ca, .slice B' nb cb, .int .i64 far, .int .i64 tall] 50)).heap.size = w.heap.size + 1 := by simp
    have c0 := H2.c0
    have c1 := H2.c1
    have c2 := H2.c2
    have c3 := H2.c3
    have c4 := H2.c4
    have lt := H2.lt
    rw [e] at c0 c1 c2 c3 c4 lt
    exact ⟨c0, c1, c2, c3, c4, H2.f, H2.a, H2.b, b1.trans (H2.bw.mono b1.size), lt⟩
  clear hF hA hB hF' hA' hB' b1 b2
  go_enter Try.func28, Try.ntmps28
  go_wp2_with fail
  obtain ⟨X, hX⟩ : ∃ X, X = (w.alloc (.cells #[.slice F fl.length cf, .slice A na ca, .slice B' nb cb, .int .i64 far, .int .i64 tall] 50)).alloc (.cells #[.slice F' fl.length cf', .slice A' na ca', .slice B'' nb cb', .int .i64 far, .int .i64 tall] 50) := ⟨_, rfl⟩
  rw [← hX] at H1 H2 ⊢
  obtain ⟨p, hp⟩ : ∃ p, p = w.heap.size := ⟨_, rfl⟩
  rw [← hp] at H1 H2 ⊢
  clear hp hX
  have E := equalInts F F' cf cf' fl fl X.heap.size X H1.f H2.f (by omega)
  rw [show decide (fl = fl) = true by simp] at E
  replace E := Lib.hid E
  refine E.out.mono ?_
  rintro e w1 ⟨rfl, n1, rfl⟩
  replace H1 := Lib.hid (H1.on (below_drewN (Below.refl _ _) n1))
  replace H2 := Lib.hid (H2.on (below_drewN (Below.refl _ _) n1))
  obtain ⟨w1, hw1⟩ : ∃ w1, w1 = X.drewN n1 := ⟨_, rfl⟩
  rw [← hw1] at H1 H2 ⊢
  clear hw1 E
  have s0 := H1.out.c0
  have t0 := H2.out.c0
  have s1 := H1.out.c1
  have t1 := H2.out.c1
  have s2 := H1.out.c2
  have t2 := H2.out.c2
  have s3 := H1.out.c3
  have t3 := H2.out.c3
  have s4 := H1.out.c4
  have t4 := H2.out.c4
  go_wp2_with fail
  go_loopw [4, 5] (fun r i wr => ∃ k : Nat, k ≤ na ∧ i = .int .i64 k ∧ r = .bool false ∧ TbS w p F A B' cf na ca nb cb fl xa xb far tall wr ∧ TbS w (p + 1) F' A' B'' cf' na ca' nb cb' fl xa xb far tall wr) (fun _ i _ => na - (intOf i).toNat)
  case atStart => exact ⟨0, Nat.zero_le _, rfl, rfl, H1.out, H2.out⟩
  case round =>
    clear H1 H2 s0 t0 s1 t1 s2 t2 s3 t3 s4 t4
    obtain ⟨k, hk, rfl, rfl, h1, h2⟩ := hrel
    have H1 := Lib.hid h1
    have H2 := Lib.hid h2
    have s := h1.c1
    have t := h2.c1
    clear h1 h2
    by_cases hlt : k < na
    · obtain ⟨b, off, rfl, hbb, d0, d1, d2, d3⟩ := lvl_at H1.out.a hna hlt
      obtain ⟨b', off', rfl, hbb', g0, g1, g2, g3⟩ := lvl_at H2.out.a hna hlt
      have hlI : (k : Int) < (na : Int) := by omega
      have hk0 : (0 : Int) ≤ (k : Int) := by omega
      go_wp2_with fail
      go_quiet (fail)
      go_wp2_with fail
      exact ⟨⟨k + 1, by omega, by go_num, rfl, H1.out.on (below_drewN (Below.refl _ _) _), H2.out.on (below_drewN (Below.refl _ _) _)⟩, by simp [intOf]; omega⟩
    · obtain rfl : na = k := by omega
      go_wp2_with fail
      have s0 := H1.out.c0
      have t0 := H2.out.c0
      have s1 := H1.out.c1
      have t1 := H2.out.c1
      have s2 := H1.out.c2
      have t2 := H2.out.c2
      have s3 := H1.out.c3
      have t3 := H2.out.c3
      have s4 := H1.out.c4
      have t4 := H2.out.c4
      clear s t
      obtain ⟨V, hV⟩ : ∃ V : World, V = wr := ⟨_, rfl⟩
      subst hV
      go_loopw [4, 6] (fun r i wr => ∃ k : Nat, k ≤ nb ∧ i = .int .i64 k ∧ r = .bool false ∧ TbS w p F A B' cf na ca nb cb fl xa xb far tall wr ∧ TbS w (p + 1) F' A' B'' cf' na ca' nb cb' fl xa xb far tall wr) (fun _ i _ => nb - (intOf i).toNat)
      case atStart => exact ⟨0, Nat.zero_le _, rfl, rfl, H1.out, H2.out⟩
      case round =>
        clear H1 H2 s0 t0 s1 t1 s2 t2 s3 t3 s4 t4
        obtain ⟨k, hk, rfl, rfl, h1, h2⟩ := hrel
        have H1 := Lib.hid h1
        have H2 := Lib.hid h2
        have s := h1.c2
        have t := h2.c2
        clear h1 h2
        by_cases hlt : k < nb
        · obtain ⟨b, off, rfl, hbb, d0, d1, d2, d3⟩ := lvl_at H1.out.b hnb hlt
          obtain ⟨b', off', rfl, hbb', g0, g1, g2, g3⟩ := lvl_at H2.out.b hnb hlt
          have hlI : (k : Int) < (nb : Int) := by omega
          have hk0 : (0 : Int) ≤ (k : Int) := by omega
          go_wp2_with fail
          go_quiet (fail)
          go_wp2_with fail
          exact ⟨⟨k + 1, by omega, by go_num, rfl, H1.out.on (below_drewN (Below.refl _ _) _), H2.out.on (below_drewN (Below.refl _ _) _)⟩, by simp [intOf]; omega⟩
        · obtain rfl : nb = k := by omega
          go_wp2_with fail
          go_ret
          exact ⟨rfl, H1.out.bw⟩
end Go.Proofs.Ytbonniladhablaa
