/- awake of the statements about fixed. -/
import Derived.Test.YtmalpalepaomdaaDoorRows
import Derived.WalkKit
import Derived.WalkLawsBesides
import Derived.WalkSpells
import Derived.ProofKit
import Derived.Below
import Derived.Outline
import Derived.Lib.Hide
import Derived.Deep.RegionWith
import Derived.Deep.RegionHeld3
import Derived.Deep.DrawnRows
import Derived.StillTailTactics
import Derived.BigQuiet
import Derived.Deep.QuietTactic
import Derived.Deep.LoopGhost
import Derived.IntWalk
import Derived.Test.YtmalpalepaomdaaDoorFxF
namespace Go.Proofs.YtmalpalepaomdaaDoor
open Go.RowKit
attribute [local go_sem ↓] Go.wp_at_zero Go.wp_at_succ
attribute [local go_sem] wrap_lit
theorem at_ {P : Program} {f : FuncId} {args : Array Value} {w : World} {R : Int × Int} {a b : Int} (hR : R = (a, b)) (h : Calls P f args w fun e w' => e = .returned (.tuple #[.int .i64 R.1, .int .i64 R.2]) ∧ Below w.heap.size w w') : Calls P f args w fun e w' => e = .returned (.tuple #[.int .i64 a, .int .i64 b]) ∧ Below w.heap.size w w' := by
  subst hR; exact h
theorem ats_ {P : Program} {f : FuncId} {args : Array Value} {w : World} {V s : ByteArray} {E e0 : Int} (hV : V = s) (hE : E = e0) (h : Calls P f args w fun e w' => e = .returned (.tuple #[.string V, .int .i64 E]) ∧ Below w.heap.size w w') : Calls P f args w fun e w' => e = .returned (.tuple #[.string s, .int .i64 e0]) ∧ Below w.heap.size w w' := by
  subst hV; subst hE; exact h
theorem tx1 : txV (-221184) = ⟨#[45, 51, 46, 51, 55, 53]⟩ := by
  have h : txL (-221184) = 45 :: txt2 3 24576 := by decide +kernel
  have hv : vF (-221184) = true := by decide
  unfold txV
  rw [if_pos hv, h]
  unfold txt2
  rw [dig_dd 3 (by omega)]
  decide +kernel
theorem tx2 : txV 1 = ⟨#[48, 46, 48, 48, 48, 48, 49, 53, 50, 53, 56, 55, 56, 57, 48, 54, 50, 53]⟩ := by
  have h : txL 1 = txt2 0 1 := by decide +kernel
  have hv : vF 1 = true := by decide
  unfold txV
  rw [if_pos hv, h]
  unfold txt2
  rw [dig_dd 0 (by omega)]
  decide +kernel
set_option maxRecDepth 100000 in
set_option maxHeartbeats 4000000 in
theorem awake11 (w : World) (ht : Tab w) : Calls Tryd.prog 11 #[] w fun e w' => e = .returned (.bool true) ∧ Below w.heap.size w w' := by
  have HT := Lib.hid ht
  clear ht
  have B0 := Lib.hid (show Below w.heap.size w w from Below.refl _ _)
  go_enter Tryd.func11, Tryd.ntmps11
  go_wp2_with fail
  refine (at_ (R := froR 3) (a := 196608) (b := 0) (by decide +kernel) (from31 3 _)).mono ?_
  rintro e x1 ⟨rfl, hb⟩
  have B1 := Lib.hid (B0.out.trans (hb.mono B0.out.size))
  clear hb B0
  go_wp2_with fail
  refine (at_ (R := ratR 1 3) (a := 21845) (b := 0) (by decide +kernel) (ratio32 1 3 _)).mono ?_
  rintro e x2 ⟨rfl, hb⟩
  have B2 := Lib.hid (B1.out.trans (hb.mono B1.out.size))
  clear hb B1
  go_wp2_with fail
  refine (at_ (R := ratR (-1) 131072) (a := -1) (b := 0) (by decide +kernel) (ratio32 (-1) 131072 _)).mono ?_
  rintro e x3 ⟨rfl, hb⟩
  have B3 := Lib.hid (B2.out.trans (hb.mono B2.out.size))
  clear hb B2
  go_wp2_with fail
  refine (at_ (R := ratR 1 131073) (a := 0) (b := 0) (by decide +kernel) (ratio32 1 131073 _)).mono ?_
  rintro e x4 ⟨rfl, hb⟩
  have B4 := Lib.hid (B3.out.trans (hb.mono B3.out.size))
  clear hb B3
  go_wp2_with fail
  refine (at_ (R := rA [98304, -147456] (mulX 98304 (-147456))) (a := -221184) (b := 0) (by decide +kernel) (mul12 98304 (-147456) _)).mono ?_
  rintro e x5 ⟨rfl, hb⟩
  have B5 := Lib.hid (B4.out.trans (hb.mono B4.out.size))
  clear hb B4
  go_wp2_with fail
  refine (at_ (R := rA [1, 32768] (mulX 1 32768)) (a := 1) (b := 0) (by decide +kernel) (mul12 1 32768 _)).mono ?_
  rintro e x6 ⟨rfl, hb⟩
  have B6 := Lib.hid (B5.out.trans (hb.mono B5.out.size))
  clear hb B5
  go_wp2_with fail
  refine (at_ (R := rA [1, 32767] (mulX 1 32767)) (a := 0) (b := 0) (by decide +kernel) (mul12 1 32767 _)).mono ?_
  rintro e x7 ⟨rfl, hb⟩
  have B7 := Lib.hid (B6.out.trans (hb.mono B6.out.size))
  clear hb B6
  go_wp2_with fail
  refine (at_ (R := divR 65536 196608) (a := 21845) (b := 0) (by decide +kernel) (div13 65536 196608 _)).mono ?_
  rintro e x8 ⟨rfl, hb⟩
  have B8 := Lib.hid (B7.out.trans (hb.mono B7.out.size))
  clear hb B7
  go_wp2_with fail
  refine (at_ (R := flrR (-1)) (a := -1) (b := 0) (by decide +kernel) (floor14 (-1) _)).mono ?_
  rintro e x9 ⟨rfl, hb⟩
  have B9 := Lib.hid (B8.out.trans (hb.mono B8.out.size))
  clear hb B8
  go_wp2_with fail
  refine (at_ (R := rndR (-1)) (a := 0) (b := 0) (by decide +kernel) (round15 (-1) _)).mono ?_
  rintro e x10 ⟨rfl, hb⟩
  have B10 := Lib.hid (B9.out.trans (hb.mono B9.out.size))
  clear hb B9
  go_wp2_with fail
  refine (at_ (R := rndR (-32768)) (a := -1) (b := 0) (by decide +kernel) (round15 (-32768) _)).mono ?_
  rintro e x11 ⟨rfl, hb⟩
  have B11 := Lib.hid (B10.out.trans (hb.mono B10.out.size))
  clear hb B10
  go_wp2_with fail
  refine (ats_ tx1 (e0 := 0) (by decide) (text27 (-221184) _ (HT.out.below B11.out))).mono ?_
  rintro e x12 ⟨rfl, hb⟩
  have B12 := Lib.hid (B11.out.trans (hb.mono B11.out.size))
  clear hb B11
  go_wp2_with fail
  refine (ats_ tx2 (e0 := 0) (by decide) (text27 1 _ (HT.out.below B12.out))).mono ?_
  rintro e x13 ⟨rfl, hb⟩
  have B13 := Lib.hid (B12.out.trans (hb.mono B12.out.size))
  clear hb B12
  go_wp2_with fail
  go_ret
  exact ⟨rfl, B13.out⟩
end Go.Proofs.YtmalpalepaomdaaDoor
