/- The walk of FixedExamples. -/
import Derived.Test.YtmalpalepaomdaaDoorRows
import Derived.WalkKit
import Derived.WalkLawsBesides
import Derived.WalkSpells
import Derived.ProofKit
import Derived.Below
import Derived.Outline
import Derived.Lib.Hide
import Derived.Deep.RegionWith
import Derived.Deep.RegionHeld3
import Derived.Deep.DrawnRows
import Derived.StillTailTactics
import Derived.BigQuiet
import Derived.Deep.QuietTactic
import Derived.Deep.LoopGhost
import Derived.IntWalk
import Derived.Test.YtmalpalepaomdaaDoorFxR
namespace Go.Proofs.YtmalpalepaomdaaDoor
open Go.RowKit
attribute [local go_sem ↓] Go.wp_at_zero Go.wp_at_succ
attribute [local go_sem] wrap_lit
theorem bad0 : parR [] = (0, 2) := by decide +kernel
theorem bad1 : parR [45] = (0, 2) := by decide +kernel
theorem bad2 : parR [45, 48] = (0, 2) := by decide +kernel
theorem bad3 : parR [43, 49] = (0, 2) := by decide +kernel
theorem bad4 : parR [48, 49] = (0, 2) := by decide +kernel
theorem bad5 : parR [49, 46] = (0, 2) := by decide +kernel
theorem bad6 : parR [46, 53] = (0, 2) := by decide +kernel
theorem bad7 : parR [49, 46, 48] = (0, 2) := by decide +kernel
theorem bad8 : parR [48, 46, 49] = (0, 2) := by decide +kernel
theorem bad9 : parR [52, 49, 57, 52, 51, 48, 52, 46, 53] = (0, 2) := by decide +kernel
theorem bad10 : parR [52, 49, 57, 52, 51, 48, 53] = (0, 2) := by decide +kernel
theorem bad11 : parR [49, 101, 51] = (0, 2) := by decide +kernel
theorem bad12 : parR [48, 46, 48, 48, 48, 48, 49, 53, 50, 53, 56, 55, 56, 57, 48, 54, 50, 53, 48] = (0, 2) := by decide +kernel
theorem bad13 : parR [48, 46, 48, 48, 48, 48, 48, 55, 54, 50, 57, 51, 57, 52, 53, 51, 49, 50, 53] = (0, 2) := by decide +kernel
def TXl : List (List UInt8) := [[], [45], [45, 48], [43, 49], [48, 49], [49, 46], [46, 53], [49, 46, 48], [48, 46, 49], [52, 49, 57, 52, 51, 48, 52, 46, 53], [52, 49, 57, 52, 51, 48, 53], [49, 101, 51], [48, 46, 48, 48, 48, 48, 49, 53, 50, 53, 56, 55, 56, 57, 48, 54, 50, 53, 48], [48, 46, 48, 48, 48, 48, 48, 55, 54, 50, 57, 51, 57, 52, 53, 51, 49, 50, 53]]
theorem TXl_bad (k : Nat) (hk : k < 14) : parR (TXl.getD k []) = (0, 2) := by
  rcases (by omega : k = 0 ∨ k = 1 ∨ k = 2 ∨ k = 3 ∨ k = 4 ∨ k = 5 ∨ k = 6 ∨ k = 7 ∨ k = 8 ∨ k = 9 ∨ k = 10 ∨ k = 11 ∨ k = 12 ∨ k = 13) with rfl | rfl | rfl | rfl | rfl | rfl | rfl | rfl | rfl | rfl | rfl | rfl | rfl | rfl
  · exact bad0
  · exact bad1
  · exact bad2
  · exact bad3
  · exact bad4
  · exact bad5
  · exact bad6
  · exact bad7
  · exact bad8
  · exact bad9
  · exact bad10
  · exact bad11
  · exact bad12
  · exact bad13
theorem TXl_cell {W : World} {g : Nat} {T : TypeId} (h : W.heap[g]? = some (.cells (TXl.map fun t => Value.string (S t)).toArray T (0, 0))) (k : Nat) (hk : k < 14) : W.cell? ⟨g, k, none⟩ = some (.string (S (TXl.getD k []))) := by
  have hl : TXl.length = 14 := rfl
  have hk' : k < TXl.length := by omega
  simp only [World.cell?, h]
  simp [List.getD, hk']
set_option maxRecDepth 100000 in
set_option maxHeartbeats 8000000 in
theorem examples9 (w : World) (E : Env w) : Calls Tryd.prog 9 #[] w fun e w' => e = .returned (.bool true) ∧ Below w.heap.size w w' := by
  have HE := Lib.hid E
  clear E
  have B0 := Lib.hid (show Below w.heap.size w w from Below.refl _ _)
  go_enter Tryd.func9, Tryd.ntmps9
  go_wp2_with fail
  refine (awake11 _ HE.out.tab).mono ?_
  rintro e x1 ⟨rfl, hb⟩
  have B1 := Lib.hid (B0.out.trans (hb.mono B0.out.size))
  clear hb B0
  go_wp2_with fail
  refine (at_ (R := froR 4194304) (a := 274877906944) (b := 0) (by decide +kernel) (from31 4194304 _)).mono ?_
  rintro e x2 ⟨rfl, hb⟩
  have B2 := Lib.hid (B1.out.trans (hb.mono B1.out.size))
  clear hb B1
  go_wp2_with fail
  refine (at_ (R := froR 4194305) (a := 0) (b := 7) (by decide +kernel) (from31 4194305 _)).mono ?_
  rintro e x3 ⟨rfl, hb⟩
  have B3 := Lib.hid (B2.out.trans (hb.mono B2.out.size))
  clear hb B2
  go_wp2_with fail
  refine (at_ (R := froR (-4194304)) (a := -274877906944) (b := 0) (by decide +kernel) (from31 (-4194304) _)).mono ?_
  rintro e x4 ⟨rfl, hb⟩
  have B4 := Lib.hid (B3.out.trans (hb.mono B3.out.size))
  clear hb B3
  go_wp2_with fail
  refine (at_ (R := ratR 1099511627777 0) (a := 0) (b := 1) (by decide +kernel) (ratio32 1099511627777 0 _)).mono ?_
  rintro e x5 ⟨rfl, hb⟩
  have B5 := Lib.hid (B4.out.trans (hb.mono B4.out.size))
  clear hb B4
  go_wp2_with fail
  refine (at_ (R := ratR 1099511627776 0) (a := 0) (b := 14) (by decide +kernel) (ratio32 1099511627776 0 _)).mono ?_
  rintro e x6 ⟨rfl, hb⟩
  have B6 := Lib.hid (B5.out.trans (hb.mono B5.out.size))
  clear hb B5
  go_wp2_with fail
  refine (at_ (R := ratR 1099511627776 1) (a := 0) (b := 7) (by decide +kernel) (ratio32 1099511627776 1 _)).mono ?_
  rintro e x7 ⟨rfl, hb⟩
  have B7 := Lib.hid (B6.out.trans (hb.mono B6.out.size))
  clear hb B6
  go_wp2_with fail
  refine (at_ (R := ratR 1099511627776 262144) (a := 274877906944) (b := 0) (by decide +kernel) (ratio32 1099511627776 262144 _)).mono ?_
  rintro e x8 ⟨rfl, hb⟩
  have B8 := Lib.hid (B7.out.trans (hb.mono B7.out.size))
  clear hb B7
  go_wp2_with fail
  refine (at_ (R := rA [274877906944, 1] (274877906944 + 1)) (a := 0) (b := 7) (by decide +kernel) (add17 274877906944 1 _)).mono ?_
  rintro e x9 ⟨rfl, hb⟩
  have B9 := Lib.hid (B8.out.trans (hb.mono B8.out.size))
  clear hb B8
  go_wp2_with fail
  refine (at_ (R := rA [274877906945, 0] (274877906945 + 0)) (a := 0) (b := 1) (by decide +kernel) (add17 274877906945 0 _)).mono ?_
  rintro e x10 ⟨rfl, hb⟩
  have B10 := Lib.hid (B9.out.trans (hb.mono B9.out.size))
  clear hb B9
  go_wp2_with fail
  refine (at_ (R := rA [-274877906944, 1] (-274877906944 - 1)) (a := 0) (b := 7) (by decide +kernel) (sub18 (-274877906944) 1 _)).mono ?_
  rintro e x11 ⟨rfl, hb⟩
  have B11 := Lib.hid (B10.out.trans (hb.mono B10.out.size))
  clear hb B10
  go_wp2_with fail
  refine (at_ (R := rA [274877906944, 65537] (mulX 274877906944 65537)) (a := 0) (b := 7) (by decide +kernel) (mul12 274877906944 65537 _)).mono ?_
  rintro e x12 ⟨rfl, hb⟩
  have B12 := Lib.hid (B11.out.trans (hb.mono B11.out.size))
  clear hb B11
  go_wp2_with fail
  refine (at_ (R := rA [-274877906944, 65536] (mulX (-274877906944) 65536)) (a := -274877906944) (b := 0) (by decide +kernel) (mul12 (-274877906944) 65536 _)).mono ?_
  rintro e x13 ⟨rfl, hb⟩
  have B13 := Lib.hid (B12.out.trans (hb.mono B12.out.size))
  clear hb B12
  go_wp2_with fail
  refine (at_ (R := divR 274877906945 0) (a := 0) (b := 1) (by decide +kernel) (div13 274877906945 0 _)).mono ?_
  rintro e x14 ⟨rfl, hb⟩
  have B14 := Lib.hid (B13.out.trans (hb.mono B13.out.size))
  clear hb B13
  go_wp2_with fail
  refine (at_ (R := divR 274877906944 0) (a := 0) (b := 14) (by decide +kernel) (div13 274877906944 0 _)).mono ?_
  rintro e x15 ⟨rfl, hb⟩
  have B15 := Lib.hid (B14.out.trans (hb.mono B14.out.size))
  clear hb B14
  go_wp2_with fail
  refine (at_ (R := divR 274877906944 65535) (a := 0) (b := 7) (by decide +kernel) (div13 274877906944 65535 _)).mono ?_
  rintro e x16 ⟨rfl, hb⟩
  have B16 := Lib.hid (B15.out.trans (hb.mono B15.out.size))
  clear hb B15
  go_wp2_with fail
  refine (at_ (R := flrR (-274877906945)) (a := 0) (b := 1) (by decide +kernel) (floor14 (-274877906945) _)).mono ?_
  rintro e x17 ⟨rfl, hb⟩
  have B17 := Lib.hid (B16.out.trans (hb.mono B16.out.size))
  clear hb B16
  go_wp2_with fail
  refine (at_ (R := flrR (-274877906944)) (a := -4194304) (b := 0) (by decide +kernel) (floor14 (-274877906944) _)).mono ?_
  rintro e x18 ⟨rfl, hb⟩
  have B18 := Lib.hid (B17.out.trans (hb.mono B17.out.size))
  clear hb B17
  go_wp2_with fail
  refine (at_ (R := clmR 0 1 0) (a := 0) (b := 1) (by decide +kernel) (clamp16 0 1 0 _)).mono ?_
  rintro e x19 ⟨rfl, hb⟩
  have B19 := Lib.hid (B18.out.trans (hb.mono B18.out.size))
  clear hb B18
  go_wp2_with fail
  refine (at_ (R := clmR 0 (-274877906945) 0) (a := 0) (b := 1) (by decide +kernel) (clamp16 0 (-274877906945) 0 _)).mono ?_
  rintro e x20 ⟨rfl, hb⟩
  have B20 := Lib.hid (B19.out.trans (hb.mono B19.out.size))
  clear hb B19
  go_wp2_with fail
  refine (at_ (R := clmR 9 2 5) (a := 5) (b := 0) (by decide +kernel) (clamp16 9 2 5 _)).mono ?_
  rintro e x21 ⟨rfl, hb⟩
  have B21 := Lib.hid (B20.out.trans (hb.mono B20.out.size))
  clear hb B20
  go_wp2_with fail
  refine (ats_ (V := txV 274877906945) (s := ⟨#[]⟩) (e0 := 1) (by decide +kernel) (by decide +kernel) (text27 274877906945 _ (HE.out.below B21.out).tab)).mono ?_
  rintro e x22 ⟨rfl, hb⟩
  have B22 := Lib.hid (B21.out.trans (hb.mono B21.out.size))
  clear hb B21
  go_wp2_with fail
  obtain ⟨X, hX⟩ : ∃ X, X = x22.alloc (.cells #[.string ⟨#[]⟩, .string ⟨#[45]⟩, .string ⟨#[45, 48]⟩, .string ⟨#[43, 49]⟩, .string ⟨#[48, 49]⟩, .string ⟨#[49, 46]⟩, .string ⟨#[46, 53]⟩, .string ⟨#[49, 46, 48]⟩, .string ⟨#[48, 46, 49]⟩, .string ⟨#[52, 49, 57, 52, 51, 48, 52, 46, 53]⟩, .string ⟨#[52, 49, 57, 52, 51, 48, 53]⟩, .string ⟨#[49, 101, 51]⟩, .string ⟨#[48, 46, 48, 48, 48, 48, 49, 53, 50, 53, 56, 55, 56, 57, 48, 54, 50, 53, 48]⟩, .string ⟨#[48, 46, 48, 48, 48, 48, 48, 55, 54, 50, 57, 51, 57, 52, 53, 51, 49, 50, 53]⟩] 9) := ⟨_, rfl⟩
  have BX := Lib.hid (show Below w.heap.size w X by rw [hX]; exact B22.out.alloc B22.out.size _)
  have hblk : X.heap[x22.heap.size]? = some (.cells (TXl.map fun t => Value.string (S t)).toArray 9 (0, 0)) := by rw [hX]; exact heap_alloc_new _ _
  have hg : x22.heap.size < X.heap.size := by rw [hX]; simp
  rw [← hX]
  have HB := Lib.hid hblk
  clear hX hblk
  obtain ⟨g, hgg⟩ : ∃ g, g = x22.heap.size := ⟨_, rfl⟩
  rw [← hgg] at HB hg ⊢
  clear hgg
  go_loopw [0, 199] (fun r i wr => ∃ k : Nat, k ≤ 14 ∧ r = .bool false ∧ i = .int .i64 k ∧ Below X.heap.size X wr) (fun _ i _ => 14 - (intOf i).toNat)
  case atStart => exact ⟨0, by omega, rfl, rfl, Below.refl _ _⟩
  case round =>
    obtain ⟨k, hk, rfl, rfl, hb⟩ := hrel
    have HW := Lib.hid hb
    have hs := hb.size
    by_cases hlt : k < 14
    · have hlt' : (k : Int) < 14 := by omega
      have hc : wr.cell? ⟨g, k, none⟩ = some (.string (S (TXl.getD k []))) := TXl_cell ((hb.block g hg).trans HB.out) k hlt
      obtain ⟨t, ht⟩ : ∃ t, TXl.getD k [] = t := ⟨_, rfl⟩
      have hp := TXl_bad k hlt
      rw [ht] at hc hp
      have HP := Lib.hid hp
      clear hb hp ht
      go_wp2_with fail
      refine (at_ HP.out (parse33 t _ (HE.out.below (BX.out.trans (HW.out.mono BX.out.size))))).mono ?_
      rintro e w3 ⟨rfl, hb3⟩
      have HW3 := Lib.hid (HW.out.trans (hb3.mono hs))
      clear hb3
      go_wp2_with fail
      exact ⟨⟨k + 1, by omega, rfl, by go_num, HW3.out⟩, by simp [intOf]; omega⟩
    · obtain rfl : k = 14 := by omega
      clear hb
      go_wp2_with fail
      go_ret
      exact ⟨rfl, BX.out.trans (HW.out.mono BX.out.size)⟩
end Go.Proofs.YtmalpalepaomdaaDoor
