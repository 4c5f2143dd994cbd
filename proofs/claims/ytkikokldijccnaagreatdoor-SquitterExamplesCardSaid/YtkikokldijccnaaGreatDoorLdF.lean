/- squitter: the law Loads. -/
import Derived.Test.YtkikokldijccnaaGreatDoorRows
import Derived.WalkKit
import Derived.WalkLawsBesides
import Derived.WalkSpells
import Derived.ProofKit
import Derived.Below
import Derived.Outline
import Derived.Lib.Hide
import Derived.Deep.RegionWith
import Derived.Deep.RegionHeld3
import Derived.Deep.DrawnRows
import Derived.StillTailTactics
import Derived.BigQuiet
import Derived.Deep.QuietTactic
import Derived.Deep.LoopGhost
import Derived.IntWalk
import Derived.Test.YtkikokldijccnaaGreatDoorLdE
import Derived.Test.YtkikokldijccnaaGreatDoorLdO
import Derived.Test.YtkikokldijccnaaGreatDoorSqAw
namespace Go.Proofs.YtkikokldijccnaaGreatDoor
open Go.RowKit Go.Maps
attribute [local go_sem ↓] Go.wp_at_zero Go.wp_at_succ
attribute [local go_sem] wrap_lit

set_option maxHeartbeats 4000000 in
set_option maxRecDepth 100000 in
theorem loads7 (s : Tx) {K : Nat} {w : World} (E : LEnv K w) (hK : K ≤ w.heap.size) : Calls Tryz.prog 13 #[.string (S s)] w fun e w' => e = .returned (.bool true) ∧ Below w.heap.size w w' := by
  have HE := Lib.hid E
  clear E
  by_cases h : 3000 < s.length
  · have hI : (3000 : Int) < (s.length : Int) := by omega
    go_enter Tryz.func13, Tryz.ntmps13
    go_wp2_with fail
    refine (awake10 HE.out.env hK).mono ?_
    rintro e w1 ⟨rfl, hb⟩
    go_wp2_with fail
    go_ret
    exact ⟨rfl, hb⟩
  · have hI : ¬ (3000 : Int) < (s.length : Int) := by omega
    go_enter Tryz.func13, Tryz.ntmps13
    go_wp2_with fail
    refine (load27 s (by omega) HE.out hK).mono ?_
    rintro e w1 ⟨⟨t, H, O, ht, rfl, hT, hO⟩ | ⟨hno, rfl⟩, hb1⟩
    · have HOK := Lib.hid (load_ok ht)
      have HAC : Hid (acceptsT s = true) := Lib.hid (by rw [accepts_load, ht]; rfl)
      have HT := Lib.hid hT
      have HB1 := Lib.hid hb1
      have hs1 := hb1.size
      clear ht hT hO hb1
      go_wp2_with fail
      refine (accepts28 s (by omega) _).mono ?_
      rintro e w2 ⟨rfl, hb2⟩
      rw [HAC.out]
      have HB2 := Lib.hid (HB1.out.trans (hb2.mono hs1))
      have hs2 := hb2.size
      obtain ⟨mb, bk, gk, hT2⟩ := HT.out.below hb2
      have HT2 := Lib.hid hT2
      clear hT2 hb2
      go_wp2_with fail
      refine (save20 (HE.out.env.below (HB2.out.mono hK)) (by omega) HOK.out.1 HT2.out).mono ?_
      rintro e w3 ⟨rfl, hb3⟩
      rw [HOK.out.2]
      have HB3 := Lib.hid (HB2.out.trans (hb3.mono (by omega)))
      have hs3 := hb3.size
      clear hb3
      go_wp2_with fail
      refine (awake10 (HE.out.env.below (HB3.out.mono hK)) (by omega)).mono ?_
      rintro e w4 ⟨rfl, hb4⟩
      go_wp2_with fail
      go_ret
      exact ⟨rfl, HB3.out.trans (hb4.mono (by omega))⟩
    · have HAC : Hid (acceptsT s = false) := Lib.hid (by rw [accepts_load, hno]; rfl)
      have HB1 := Lib.hid hb1
      have hs1 := hb1.size
      clear hno hb1
      go_wp2_with fail
      refine (accepts28 s (by omega) _).mono ?_
      rintro e w2 ⟨rfl, hb2⟩
      rw [HAC.out]
      have HB2 := Lib.hid (HB1.out.trans (hb2.mono hs1))
      have hs2 := hb2.size
      clear hb2
      go_wp2_with fail
      refine (awake10 (HE.out.env.below (HB2.out.mono hK)) (by omega)).mono ?_
      rintro e w4 ⟨rfl, hb4⟩
      go_wp2_with fail
      go_ret
      exact ⟨rfl, HB2.out.trans (hb4.mono (by omega))⟩
end Go.Proofs.YtkikokldijccnaaGreatDoor
