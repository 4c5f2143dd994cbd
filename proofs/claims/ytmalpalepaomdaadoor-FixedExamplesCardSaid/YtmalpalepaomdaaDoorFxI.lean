/- The walk of FixedMatches. -/
import Derived.Test.YtmalpalepaomdaaDoorRows
import Derived.WalkKit
import Derived.WalkLawsBesides
import Derived.WalkSpells
import Derived.ProofKit
import Derived.Below
import Derived.Outline
import Derived.Lib.Hide
import Derived.Deep.RegionWith
import Derived.Deep.RegionHeld3
import Derived.Deep.DrawnRows
import Derived.StillTailTactics
import Derived.BigQuiet
import Derived.Deep.QuietTactic
import Derived.Deep.LoopGhost
import Derived.IntWalk
import Derived.Test.YtmalpalepaomdaaDoorFxH
namespace Go.Proofs.YtmalpalepaomdaaDoor
open Go.RowKit
attribute [local go_sem ↓] Go.wp_at_zero Go.wp_at_succ
attribute [local go_sem] wrap_lit
theorem at0 {P : Program} {f : FuncId} {args : Array Value} {w : World} {R : Int × Int} {a b : Int} (hR : R = (a, b)) (h : Calls P f args w fun e w' => e = .returned (.tuple #[.int .i64 R.1, .int .i64 R.2]) ∧ w = w') : Calls P f args w fun e w' => e = .returned (.tuple #[.int .i64 a, .int .i64 b]) ∧ w = w' := by
  subst hR; exact h
set_option maxRecDepth 100000 in
set_option maxHeartbeats 4000000 in
theorem matches6 (a b c : Int) (w : World) (ht : Tab w) : Calls Tryd.prog 6 #[.int .i64 a, .int .i64 b, .int .i64 c] w fun e w' => e = .returned (.bool true) ∧ Below w.heap.size w w' := by
  have HT := Lib.hid ht
  clear ht
  obtain ⟨p1, e1, h1⟩ : ∃ p e, rA [a, b] (a + b) = (p, e) := ⟨_, _, rfl⟩
  have H1 := Lib.hid h1
  clear h1
  obtain ⟨p2, e2, h2⟩ : ∃ p e, rA [a, b] (a - b) = (p, e) := ⟨_, _, rfl⟩
  have H2 := Lib.hid h2
  clear h2
  obtain ⟨p3, e3, h3⟩ : ∃ p e, rA [a, b] (mulX a b) = (p, e) := ⟨_, _, rfl⟩
  have H3 := Lib.hid h3
  clear h3
  obtain ⟨p4, e4, h4⟩ : ∃ p e, divR a b = (p, e) := ⟨_, _, rfl⟩
  have H4 := Lib.hid h4
  clear h4
  obtain ⟨p5, e5, h5⟩ : ∃ p e, flrR a = (p, e) := ⟨_, _, rfl⟩
  have H5 := Lib.hid h5
  clear h5
  obtain ⟨p6, e6, h6⟩ : ∃ p e, rndR a = (p, e) := ⟨_, _, rfl⟩
  have H6 := Lib.hid h6
  clear h6
  obtain ⟨p7, e7, h7⟩ : ∃ p e, clmR a b c = (p, e) := ⟨_, _, rfl⟩
  have H7 := Lib.hid h7
  clear h7
  obtain ⟨V, hV⟩ : ∃ V, txV a = V := ⟨_, rfl⟩
  obtain ⟨E, hE⟩ : ∃ E, txE a = E := ⟨_, rfl⟩
  have HV := Lib.hid hV
  have HE := Lib.hid hE
  clear hV hE
  have B0 := Lib.hid (show Below w.heap.size w w from Below.refl _ _)
  go_enter Tryd.func6, Tryd.ntmps6
  go_wp2_with fail
  refine (at0 H1.out (add19 a b _)).mono ?_
  rintro e w1 ⟨rfl, rfl⟩
  go_wp2_with fail
  refine (at0 H2.out (sub20 a b _)).mono ?_
  rintro e w1 ⟨rfl, rfl⟩
  go_wp2_with fail
  refine (at0 H3.out (mul21 a b _)).mono ?_
  rintro e w1 ⟨rfl, rfl⟩
  go_wp2_with fail
  refine (at0 H4.out (div22 a b _)).mono ?_
  rintro e w1 ⟨rfl, rfl⟩
  go_wp2_with fail
  refine (at0 H5.out (floor23 a _)).mono ?_
  rintro e w1 ⟨rfl, rfl⟩
  go_wp2_with fail
  refine (at0 H6.out (round24 a _)).mono ?_
  rintro e w1 ⟨rfl, rfl⟩
  go_wp2_with fail
  refine (at0 H7.out (clamp25 a b c _)).mono ?_
  rintro e w1 ⟨rfl, rfl⟩
  go_wp2_with fail
  refine (ats_ HV.out HE.out (text26 a _)).mono ?_
  rintro e x1 ⟨rfl, hb⟩
  have B1 := Lib.hid (B0.out.trans (hb.mono B0.out.size))
  clear hb B0
  go_wp2_with fail
  refine (at_ H1.out (add17 a b _)).mono ?_
  rintro e x2 ⟨rfl, hb⟩
  have B2 := Lib.hid (B1.out.trans (hb.mono B1.out.size))
  clear hb B1
  go_wp2_with fail
  refine (at_ H2.out (sub18 a b _)).mono ?_
  rintro e x3 ⟨rfl, hb⟩
  have B3 := Lib.hid (B2.out.trans (hb.mono B2.out.size))
  clear hb B2
  go_wp2_with fail
  refine (at_ H3.out (mul12 a b _)).mono ?_
  rintro e x4 ⟨rfl, hb⟩
  have B4 := Lib.hid (B3.out.trans (hb.mono B3.out.size))
  clear hb B3
  go_wp2_with fail
  refine (at_ H4.out (div13 a b _)).mono ?_
  rintro e x5 ⟨rfl, hb⟩
  have B5 := Lib.hid (B4.out.trans (hb.mono B4.out.size))
  clear hb B4
  go_wp2_with fail
  refine (at_ H5.out (floor14 a _)).mono ?_
  rintro e x6 ⟨rfl, hb⟩
  have B6 := Lib.hid (B5.out.trans (hb.mono B5.out.size))
  clear hb B5
  go_wp2_with fail
  refine (at_ H6.out (round15 a _)).mono ?_
  rintro e x7 ⟨rfl, hb⟩
  have B7 := Lib.hid (B6.out.trans (hb.mono B6.out.size))
  clear hb B6
  go_wp2_with fail
  refine (at_ H7.out (clamp16 a b c _)).mono ?_
  rintro e x8 ⟨rfl, hb⟩
  have B8 := Lib.hid (B7.out.trans (hb.mono B7.out.size))
  clear hb B7
  go_wp2_with fail
  refine (ats_ HV.out HE.out (text27 a _ (HT.out.below B8.out))).mono ?_
  rintro e x9 ⟨rfl, hb⟩
  have B9 := Lib.hid (B8.out.trans (hb.mono B8.out.size))
  clear hb B8
  go_wp2_with fail
  refine (awake11 _ (HT.out.below B9.out)).mono ?_
  rintro e x10 ⟨rfl, hb⟩
  have B10 := Lib.hid (B9.out.trans (hb.mono B9.out.size))
  clear hb B9
  go_wp2_with fail
  go_ret
  exact ⟨rfl, B10.out⟩
end Go.Proofs.YtmalpalepaomdaaDoor
