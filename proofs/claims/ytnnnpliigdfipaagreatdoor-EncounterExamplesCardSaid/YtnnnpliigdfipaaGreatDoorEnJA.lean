/- EncounterExamples: plain, wrong. -/
import Derived.Test.YtnnnpliigdfipaaGreatDoorRows
import Derived.WalkKit
import Derived.WalkLawsBesides
import Derived.WalkSpells
import Derived.ProofKit
import Derived.Below
import Derived.Outline
import Derived.Lib.Hide
import Derived.Deep.RegionWith
import Derived.Deep.RegionHeld3
import Derived.Deep.DrawnRows
import Derived.StillTailTactics
import Derived.BigQuiet
import Derived.Deep.QuietTactic
import Derived.Deep.LoopGhost
import Derived.IntWalk
import Derived.Lib.MinMax
import Derived.Test.YtnnnpliigdfipaaGreatDoorEnDB
import Derived.Test.YtnnnpliigdfipaaGreatDoorEnHC
namespace Go.Proofs.YtnnnpliigdfipaaGreatDoor
open Go.RowKit
attribute [local go_sem ↓] Go.wp_at_zero Go.wp_at_succ
attribute [local go_sem] wrap_lit
theorem plain51 (w : World) : Calls Tryz.prog 51 #[] w fun e w' => ∃ g, e = .returned (.agg #[.int .i64 120, .int .i64 10000, .slice (some ⟨g, 0, none⟩) 1 1]) ∧ w.heap.size ≤ g ∧ w'.heap[g]? = some (.cells #[.int .i64 16777215, .int .i64 0, .int .i64 0, .int .i64 0, .int .i64 0, .int .i64 0, .int .i64 0, .int .i64 32, .slice none 0 0, .int .u8 2, .int .i64 5, .int .i64 8, .int .i64 0] 63 (0, 0)) ∧ Below w.heap.size w w' := by
  go_enter Tryz.func51, Tryz.ntmps51
  go_wp2_with fail
  exact bodyPost_ret (v := .agg #[.int .i64 120, .int .i64 10000, .slice (some ⟨w.heap.size + 1, 0, none⟩) 1 1]) (by simp [results, Tryz.results51, go_sem, c2_old]) rfl ⟨w.heap.size + 1, rfl, Nat.le_succ _, heap_alloc_at _ _ _ (by simp), ((Below.refl _ _).alloc (Nat.le_refl _) _).alloc (by simp) _⟩
theorem example85 (K : Nat) (w : World) (E : Env K w) (hK : K ≤ w.heap.size) : Calls Tryz.prog 85 #[] w fun e w' => ∃ CA ccap, e = .returned (.agg #[.int .i64 10, .int .i64 0, .slice CA 2 ccap]) ∧ 2 ≤ ccap ∧ InCr w' w'.heap.size CA exE.cs ∧ Below w.heap.size w w' := by
  have Ew := Lib.hid E
  clear E
  go_enter Tryz.func85, Tryz.ntmps85
  go_wp2_with fail
  obtain ⟨w0, hw0⟩ : ∃ w0, w0 = w.alloc (.cells #[.int .i64 0, .int .i64 0, .slice none 0 0] 24) := ⟨_, rfl⟩
  have bw0 : Below w.heap.size w w0 := by rw [hw0]; exact (Below.refl _ _).alloc (Nat.le_refl _) _
  have nw0 : w0.heap[w.heap.size]? = some (.cells #[.int .i64 0, .int .i64 0, .slice none 0 0] 24 (0, 0)) := by rw [hw0]; exact heap_alloc_new _ _
  have Bw0 : Hid (Below w.heap.size w w0) := Lib.hid ((bw0))
  have mw0 : w.heap.size ≤ w0.heap.size := (bw0).size
  have Ew0 := Lib.hid (Ew.out.below ((bw0).mono (by omega)))
  clear Ew
  rw [← hw0]
  clear hw0 bw0
  have Rw0 := Lib.hid nw0
  clear nw0
  have Rc0w0 : w0.cell? ⟨w.heap.size, 0, none⟩ = some (.int .i64 0) := by simp [World.cell?, Rw0.out]
  have Rc1w0 : w0.cell? ⟨w.heap.size, 1, none⟩ = some (.int .i64 0) := by simp [World.cell?, Rw0.out]
  have Rc2w0 : w0.cell? ⟨w.heap.size, 2, none⟩ = some (.slice none 0 0) := by simp [World.cell?, Rw0.out]
  refine (text56 w0).mono ?_
  rintro e wS ⟨rfl, rfl⟩
  go_wp2_with fail
  refine (parse_ex K w0 Ew0.out (by omega)).mono ?_
  rintro e w1 ⟨CA, ccap, lvs, Bl, rfl, hcc, hps, -, hb⟩
  have Bw1 := Lib.hid (Bw0.out.trans ((hb).mono mw0))
  have mw1 : w.heap.size ≤ w1.heap.size := Nat.le_trans mw0 (hb).size
  have Ew1 := Lib.hid (Ew0.out.below ((hb).mono (by omega)))
  have Rw1 := Lib.hid (((hb).block _ (heap_lt Rw0.out)).trans Rw0.out)
  clear Bw0 mw0 Ew0 Rw0 Rc0w0 Rc1w0 Rc2w0
  have Rc0w1 : w1.cell? ⟨w.heap.size, 0, none⟩ = some (.int .i64 0) := by simp [World.cell?, Rw1.out]
  have Rc1w1 : w1.cell? ⟨w.heap.size, 1, none⟩ = some (.int .i64 0) := by simp [World.cell?, Rw1.out]
  have Rc2w1 : w1.cell? ⟨w.heap.size, 2, none⟩ = some (.slice none 0 0) := by simp [World.cell?, Rw1.out]
  have Jw1 := Lib.hid hps
  clear hb hps
  have hcc2 : 2 ≤ ccap := hcc
  have Ra0 : ∀ ob, (w1.alloc ob).cell? ⟨w.heap.size, 0, none⟩ = some (.int .i64 0) := fun ob => (World.cell?_alloc_lt _ _ _ (heap_lt Rw1.out)).trans Rc0w1
  have Ra1 : ∀ ob, (w1.alloc ob).cell? ⟨w.heap.size, 1, none⟩ = some (.int .i64 0) := fun ob => (World.cell?_alloc_lt _ _ _ (heap_lt Rw1.out)).trans Rc1w1
  have Ra2 : ∀ ob, (w1.alloc ob).cell? ⟨w.heap.size, 2, none⟩ = some (.slice none 0 0) := fun ob => (World.cell?_alloc_lt _ _ _ (heap_lt Rw1.out)).trans Rc2w1
  have fr : ∀ ob i, (w1.alloc ob).frozen? ⟨w.heap.size, i, none⟩ = false := fun ob i => (World.frozen?_alloc_past _ _ _ (by show w.heap.size < _; exact heap_lt Rw1.out)).trans (by simp [World.frozen?, Rw1.out])
  go_wp2_with fail
  (try simp only [Exit.inBlock, Exit.then])
  have z0 := fun (ob : Obj) (X Y Z : Value) => set3_0' (w1.alloc ob) w.heap.size X Y Z (by rw [Ra0]; rfl)
  have z1 := fun (ob : Obj) (X Y Z : Value) => set3_1' (w1.alloc ob) w.heap.size X Y Z (by rw [Ra1]; rfl)
  have z2 := fun (ob : Obj) (X Y Z : Value) => set3_2' (w1.alloc ob) w.heap.size X Y Z (by rw [Ra2]; rfl)
  refine bodyPost_ret (v := .agg #[.int .i64 10, .int .i64 0, .slice CA 2 ccap]) (by simp [results, Tryz.results85, go_sem, z0, z1, z2]) rfl ⟨CA, ccap, rfl, hcc2, ?_, ?_⟩
  · have h1 : Below w1.heap.size w1 (w1.alloc (.cells #[.int .i64 10, .int .i64 0, .slice CA 2 ccap] 24)) := (Below.refl _ _).alloc (Nat.le_refl _) _
    have hR := (h1.block _ (heap_lt Rw1.out)).trans Rw1.out
    have P1 := (((Jw1.out.below h1).far (i := 0) (u := .int .i64 10) hR (by decide) (by decide)).far (i := 1) (u := .int .i64 0) (setCell_heap _ _ _ _ _ _ _ hR) (by decide) (by decide)).far (i := 2) (u := .slice CA 2 ccap) (setCell_heap _ _ _ _ _ _ _ (setCell_heap _ _ _ _ _ _ _ hR)) (by decide) (by decide)
    obtain ⟨A', cap', e, -, hin⟩ := P1.inCr
    injection e with e1 e2 e3
    subst e1
    exact hin
  · exact (((Bw1.out.alloc mw1 _).setCell (p := ⟨w.heap.size, 0, none⟩) (Nat.le_refl _) _).setCell (p := ⟨w.heap.size, 1, none⟩) (Nat.le_refl _) _).setCell (p := ⟨w.heap.size, 2, none⟩) (Nat.le_refl _) _
set_option maxRecDepth 100000 in
theorem wrong52 (K : Nat) (w : World) (E : Env K w) (hK : K ≤ w.heap.size) : Calls Tryz.prog 52 #[] w fun e w' => e = .returned (.bool true) ∧ Below w.heap.size w w' := by
  have Ew := Lib.hid E
  clear E
  go_enter Tryz.func52, Tryz.ntmps52
  go_wp2_with fail
  refine (example85 K w Ew.out hK).mono ?_
  rintro e w1 ⟨CA, ccap, rfl, hcc, hin, hb⟩
  have Bw1 : Hid (Below w.heap.size w w1) := Lib.hid ((hb))
  have mw1 : w.heap.size ≤ w1.heap.size := (hb).size
  have Ew1 := Lib.hid (Ew.out.below ((hb).mono (by omega)))
  clear Ew
  have Jw1 := Lib.hid hin
  clear hb hin
  go_wp2_with fail
  obtain ⟨w2, hw2⟩ : ∃ w2, w2 = w1.alloc (.cells #[.int .i64 10, .int .i64 0, .slice CA 2 ccap] 24) := ⟨_, rfl⟩
  have bw2 : Below w1.heap.size w1 w2 := by rw [hw2]; exact (Below.refl _ _).alloc (Nat.le_refl _) _
  have nw2 : w2.heap[w1.heap.size]? = some (.cells #[.int .i64 10, .int .i64 0, .slice CA 2 ccap] 24 (0, 0)) := by rw [hw2]; exact heap_alloc_new _ _
  have Bw2 := Lib.hid (Bw1.out.trans ((bw2).mono mw1))
  have mw2 : w.heap.size ≤ w2.heap.size := Nat.le_trans mw1 (bw2).size
  have Ew2 := Lib.hid (Ew1.out.below ((bw2).mono (by omega)))
  have Jw2 := Lib.hid ((Jw1.out.below (bw2)).mono (bw2).size)
  clear Bw1 mw1 Ew1 Jw1
  rw [← hw2]
  clear hw2 bw2
  have Xw2 := Lib.hid nw2
  clear nw2
  have Xc0w2 : w2.cell? ⟨w1.heap.size, 0, none⟩ = some (.int .i64 10) := by simp [World.cell?, Xw2.out]
  have Xc1w2 : w2.cell? ⟨w1.heap.size, 1, none⟩ = some (.int .i64 0) := by simp [World.cell?, Xw2.out]
  have Xc2w2 : w2.cell? ⟨w1.heap.size, 2, none⟩ = some (.slice CA 2 ccap) := by simp [World.cell?, Xw2.out]
  have T1 := path22 exE CA ccap 2 w2 Jw2.out hcc
  rw [show pathR exE 2 = ([], 8) by decide +kernel] at T1
  refine (T1).mono ?_
  rintro e w3 ⟨PA, pcap, rfl, -, hw3⟩
  have Bw3 := Lib.hid (Bw2.out.trans ((hw3).mono mw2))
  have mw3 : w.heap.size ≤ w3.heap.size := Nat.le_trans mw2 (hw3).size
  have Ew3 := Lib.hid (Ew2.out.below ((hw3).mono (by omega)))
  have Jw3 := Lib.hid ((Jw2.out.below (hw3)).mono (hw3).size)
  have Xw3 := Lib.hid (((hw3).block _ (heap_lt Xw2.out)).trans Xw2.out)
  clear Bw2 mw2 Ew2 Jw2 Xw2 Xc0w2 Xc1w2 Xc2w2
  have Xc0w3 : w3.cell? ⟨w1.heap.size, 0, none⟩ = some (.int .i64 10) := by simp [World.cell?, Xw3.out]
  have Xc1w3 : w3.cell? ⟨w1.heap.size, 1, none⟩ = some (.int .i64 0) := by simp [World.cell?, Xw3.out]
  have Xc2w3 : w3.cell? ⟨w1.heap.size, 2, none⟩ = some (.slice CA 2 ccap) := by simp [World.cell?, Xw3.out]
  clear hw3
  clear T1
  go_wp2_with fail
  have T1 := aim24 exE CA ccap (-1) 0 w3 Jw3.out hcc
  rw [show aimR exE (-1) 0 = (0, 8) by decide +kernel] at T1
  refine (T1).mono ?_
  rintro e w4 ⟨rfl, hw4⟩
  have Bw4 := Lib.hid (Bw3.out.trans ((hw4).mono mw3))
  have mw4 : w.heap.size ≤ w4.heap.size := Nat.le_trans mw3 (hw4).size
  have Ew4 := Lib.hid (Ew3.out.below ((hw4).mono (by omega)))
  have Jw4 := Lib.hid ((Jw3.out.below (hw4)).mono (hw4).size)
  have Xw4 := Lib.hid (((hw4).block _ (heap_lt Xw3.out)).trans Xw3.out)
  clear Bw3 mw3 Ew3 Jw3 Xw3 Xc0w3 Xc1w3 Xc2w3
  have Xc0w4 : w4.cell? ⟨w1.heap.size, 0, none⟩ = some (.int .i64 10) := by simp [World.cell?, Xw4.out]
  have Xc1w4 : w4.cell? ⟨w1.heap.size, 1, none⟩ = some (.int .i64 0) := by simp [World.cell?, Xw4.out]
  have Xc2w4 : w4.cell? ⟨w1.heap.size, 2, none⟩ = some (.slice CA 2 ccap) := by simp [World.cell?, Xw4.out]
  clear hw4
  clear T1
  go_wp2_with fail
  have T1 := aim24 exE CA ccap 0 10 w4 Jw4.out hcc
  rw [show aimR exE 0 10 = (0, 8) by decide +kernel] at T1
  refine (T1).mono ?_
  rintro e w5 ⟨rfl, hw5⟩
  have Bw5 := Lib.hid (Bw4.out.trans ((hw5).mono mw4))
  have mw5 : w.heap.size ≤ w5.heap.size := Nat.le_trans mw4 (hw5).size
  have Ew5 := Lib.hid (Ew4.out.below ((hw5).mono (by omega)))
  have Jw5 := Lib.hid ((Jw4.out.below (hw5)).mono (hw5).size)
  have Xw5 := Lib.hid (((hw5).block _ (heap_lt Xw4.out)).trans Xw4.out)
  clear Bw4 mw4 Ew4 Jw4 Xw4 Xc0w4 Xc1w4 Xc2w4
  have Xc0w5 : w5.cell? ⟨w1.heap.size, 0, none⟩ = some (.int .i64 10) := by simp [World.cell?, Xw5.out]
  have Xc1w5 : w5.cell? ⟨w1.heap.size, 1, none⟩ = some (.int .i64 0) := by simp [World.cell?, Xw5.out]
  have Xc2w5 : w5.cell? ⟨w1.heap.size, 2, none⟩ = some (.slice CA 2 ccap) := by simp [World.cell?, Xw5.out]
  clear hw5
  clear T1
  go_wp2_with fail
  have T1 := where26 exE CA ccap 0 11 w5 Jw5.out hcc
  rw [show (wheR exE 0 11).1.x = 0 by decide +kernel, show (wheR exE 0 11).1.y = 0 by decide +kernel, show (wheR exE 0 11).1.z = 0 by decide +kernel, show (wheR exE 0 11).2 = 8 by decide +kernel] at T1
  refine (T1).mono ?_
  rintro e w6 ⟨rfl, hw6⟩
  have Bw6 := Lib.hid (Bw5.out.trans ((hw6).mono mw5))
  have mw6 : w.heap.size ≤ w6.heap.size := Nat.le_trans mw5 (hw6).size
  have Ew6 := Lib.hid (Ew5.out.below ((hw6).mono (by omega)))
  have Jw6 := Lib.hid ((Jw5.out.below (hw6)).mono (hw6).size)
  have Xw6 := Lib.hid (((hw6).block _ (heap_lt Xw5.out)).trans Xw5.out)
  clear Bw5 mw5 Ew5 Jw5 Xw5 Xc0w5 Xc1w5 Xc2w5
  have Xc0w6 : w6.cell? ⟨w1.heap.size, 0, none⟩ = some (.int .i64 10) := by simp [World.cell?, Xw6.out]
  have Xc1w6 : w6.cell? ⟨w1.heap.size, 1, none⟩ = some (.int .i64 0) := by simp [World.cell?, Xw6.out]
  have Xc2w6 : w6.cell? ⟨w1.heap.size, 2, none⟩ = some (.slice CA 2 ccap) := by simp [World.cell?, Xw6.out]
  clear hw6
  clear T1
  have Xa0 : ∀ ob, (w6.alloc ob).cell? ⟨w1.heap.size, 0, none⟩ = some (.int .i64 10) := fun ob => (World.cell?_alloc_lt _ _ _ (heap_lt Xw6.out)).trans Xc0w6
  have Xa1 : ∀ ob, (w6.alloc ob).cell? ⟨w1.heap.size, 1, none⟩ = some (.int .i64 0) := fun ob => (World.cell?_alloc_lt _ _ _ (heap_lt Xw6.out)).trans Xc1w6
  have Xa2 : ∀ ob, (w6.alloc ob).cell? ⟨w1.heap.size, 2, none⟩ = some (.slice CA 2 ccap) := fun ob => (World.cell?_alloc_lt _ _ _ (heap_lt Xw6.out)).trans Xc2w6
  go_wp2_with fail
  obtain ⟨w7, hw7⟩ : ∃ w7, w7 = w6.alloc (.cells #[.int .i64 0, .int .i64 0, .int .i64 0] 46) := ⟨_, rfl⟩
  have bw7 : Below w6.heap.size w6 w7 := by rw [hw7]; exact (Below.refl _ _).alloc (Nat.le_refl _) _
  have nw7 : w7.heap[w6.heap.size]? = some (.cells #[.int .i64 0, .int .i64 0, .int .i64 0] 46 (0, 0)) := by rw [hw7]; exact heap_alloc_new _ _
  have Bw7 := Lib.hid (Bw6.out.trans ((bw7).mono mw6))
  have mw7 : w.heap.size ≤ w7.heap.size := Nat.le_trans mw6 (bw7).size
  have Ew7 := Lib.hid (Ew6.out.below ((bw7).mono (by omega)))
  have Jw7 := Lib.hid ((Jw6.out.below (bw7)).mono (bw7).size)
  have Xw7 := Lib.hid (((bw7).block _ (heap_lt Xw6.out)).trans Xw6.out)
  clear Bw6 mw6 Ew6 Jw6 Xw6 Xc0w6 Xc1w6 Xc2w6
  have Xc0w7 : w7.cell? ⟨w1.heap.size, 0, none⟩ = some (.int .i64 10) := by simp [World.cell?, Xw7.out]
  have Xc1w7 : w7.cell? ⟨w1.heap.size, 1, none⟩ = some (.int .i64 0) := by simp [World.cell?, Xw7.out]
  have Xc2w7 : w7.cell? ⟨w1.heap.size, 2, none⟩ = some (.slice CA 2 ccap) := by simp [World.cell?, Xw7.out]
  rw [← hw7]
  clear hw7 bw7 Xa0 Xa1 Xa2
  clear nw7
  have T1 := near28 exE CA ccap 0 2 w7 Jw7.out hcc
  rw [show nearR exE 0 2 = ((0, 0), 8) by decide +kernel] at T1
  refine (T1).mono ?_
  rintro e w8 ⟨rfl, hw8⟩
  have Bw8 := Lib.hid (Bw7.out.trans ((hw8).mono mw7))
  have mw8 : w.heap.size ≤ w8.heap.size := Nat.le_trans mw7 (hw8).size
  have Ew8 := Lib.hid (Ew7.out.below ((hw8).mono (by omega)))
  have Jw8 := Lib.hid ((Jw7.out.below (hw8)).mono (hw8).size)
  have Xw8 := Lib.hid (((hw8).block _ (heap_lt Xw7.out)).trans Xw7.out)
  clear Bw7 mw7 Ew7 Jw7 Xw7 Xc0w7 Xc1w7 Xc2w7
  have Xc0w8 : w8.cell? ⟨w1.heap.size, 0, none⟩ = some (.int .i64 10) := by simp [World.cell?, Xw8.out]
  have Xc1w8 : w8.cell? ⟨w1.heap.size, 1, none⟩ = some (.int .i64 0) := by simp [World.cell?, Xw8.out]
  have Xc2w8 : w8.cell? ⟨w1.heap.size, 2, none⟩ = some (.slice CA 2 ccap) := by simp [World.cell?, Xw8.out]
  clear hw8
  clear T1
  go_wp2_with fail
  have T1 := near28 exE CA ccap 1 1 w8 Jw8.out hcc
  rw [show nearR exE 1 1 = ((0, 0), 1) by decide +kernel] at T1
  refine (T1).mono ?_
  rintro e w9 ⟨rfl, hw9⟩
  have Bw9 := Lib.hid (Bw8.out.trans ((hw9).mono mw8))
  have mw9 : w.heap.size ≤ w9.heap.size := Nat.le_trans mw8 (hw9).size
  have Ew9 := Lib.hid (Ew8.out.below ((hw9).mono (by omega)))
  have Jw9 := Lib.hid ((Jw8.out.below (hw9)).mono (hw9).size)
  have Xw9 := Lib.hid (((hw9).block _ (heap_lt Xw8.out)).trans Xw8.out)
  clear Bw8 mw8 Ew8 Jw8 Xw8 Xc0w8 Xc1w8 Xc2w8
  have Xc0w9 : w9.cell? ⟨w1.heap.size, 0, none⟩ = some (.int .i64 10) := by simp [World.cell?, Xw9.out]
  have Xc1w9 : w9.cell? ⟨w1.heap.size, 1, none⟩ = some (.int .i64 0) := by simp [World.cell?, Xw9.out]
  have Xc2w9 : w9.cell? ⟨w1.heap.size, 2, none⟩ = some (.slice CA 2 ccap) := by simp [World.cell?, Xw9.out]
  clear hw9
  clear T1
  go_wp2_with fail
  have T1 := near28 En.zero none 0 1 1 w9 (fun h => absurd h (by decide)) (Nat.le_refl _)
  rw [show nearR En.zero 1 1 = ((0, 0), 1) by decide +kernel] at T1
  refine (T1).mono ?_
  rintro e w10 ⟨rfl, hw10⟩
  have Bw10 := Lib.hid (Bw9.out.trans ((hw10).mono mw9))
  have mw10 : w.heap.size ≤ w10.heap.size := Nat.le_trans mw9 (hw10).size
  have Ew10 := Lib.hid (Ew9.out.below ((hw10).mono (by omega)))
  have Jw10 := Lib.hid ((Jw9.out.below (hw10)).mono (hw10).size)
  have Xw10 := Lib.hid (((hw10).block _ (heap_lt Xw9.out)).trans Xw9.out)
  clear Bw9 mw9 Ew9 Jw9 Xw9 Xc0w9 Xc1w9 Xc2w9
  have Xc0w10 : w10.cell? ⟨w1.heap.size, 0, none⟩ = some (.int .i64 10) := by simp [World.cell?, Xw10.out]
  have Xc1w10 : w10.cell? ⟨w1.heap.size, 1, none⟩ = some (.int .i64 0) := by simp [World.cell?, Xw10.out]
  have Xc2w10 : w10.cell? ⟨w1.heap.size, 2, none⟩ = some (.slice CA 2 ccap) := by simp [World.cell?, Xw10.out]
  clear hw10
  clear T1
  go_wp2_with fail
  go_ret
  exact ⟨rfl, Bw10.out⟩
end Go.Proofs.YtnnnpliigdfipaaGreatDoor
