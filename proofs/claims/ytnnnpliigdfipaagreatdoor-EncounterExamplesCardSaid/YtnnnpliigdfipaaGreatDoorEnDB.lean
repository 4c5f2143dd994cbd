/- encounter: awake holds. -/
import Derived.Test.YtnnnpliigdfipaaGreatDoorRows
import Derived.WalkKit
import Derived.WalkLawsBesides
import Derived.WalkSpells
import Derived.ProofKit
import Derived.Below
import Derived.Outline
import Derived.Lib.Hide
import Derived.Deep.RegionWith
import Derived.Deep.RegionHeld3
import Derived.Deep.DrawnRows
import Derived.StillTailTactics
import Derived.BigQuiet
import Derived.Deep.QuietTactic
import Derived.Deep.LoopGhost
import Derived.IntWalk
import Derived.Lib.MinMax
import Derived.Test.YtnnnpliigdfipaaGreatDoorEnDA
namespace Go.Proofs.YtnnnpliigdfipaaGreatDoor
open Go.RowKit
attribute [local go_sem ↓] Go.wp_at_zero Go.wp_at_succ
attribute [local go_sem] wrap_lit
theorem is_block {k : IntKind} {X : World} {g : Nat} {T : TypeId} {f : Nat × Nat} {xs : List Int} (h : X.heap[g]? = some (.cells (xs.map (Value.int k)).toArray T f)) : Is k X X.heap.size (some ⟨g, 0, none⟩) xs := fun _ => by
  refine ⟨g, 0, rfl, heap_lt h, fun j hj => ?_⟩
  rw [Nat.zero_add]
  simp [World.cell?, h, nth, List.getD_eq_getElem?_getD, hj]
theorem parse_ex (K : Nat) (w : World) (E : Env K w) (hK : K ≤ w.heap.size) : Calls Tryz.prog 16 #[.string (S exT)] w fun e w' => ∃ CA ccap lvs Bl, e = .returned (.tuple #[.agg #[.int .i64 10, .int .i64 0, .slice CA 2 ccap], .int .i64 0, .int .i64 0]) ∧ 2 ≤ ccap ∧ PS w' w.heap.size (.slice CA 2 ccap) exE.cs lvs Bl ∧ InCr w' w'.heap.size CA exE.cs ∧ Below w.heap.size w w' := by
  refine (parse16 K exT (by decide +kernel) w E hK).mono ?_
  rintro e w' ⟨v, lvs, Bl, he, hp, hb⟩
  rw [ex_pa] at he hp
  obtain ⟨CA, ccap, rfl, h1, h2⟩ := hp.inCr
  exact ⟨CA, ccap, lvs, Bl, he, h1, hp, h2, hb⟩
theorem parse_bad (K : Nat) (w : World) (E : Env K w) (hK : K ≤ w.heap.size) : Calls Tryz.prog 16 #[.string (S exB)] w fun e w' => (∃ a b v, e = .returned (.tuple #[.agg #[.int .i64 a, .int .i64 b, v], .int .i64 2, .int .i64 2]) ∧ ∃ CA ccap, v = .slice CA 0 ccap) ∧ Below w.heap.size w w' := by
  refine (parse16 K exB (by decide +kernel) w E hK).mono ?_
  rintro e w' ⟨v, lvs, Bl, he, hp, hb⟩
  obtain ⟨CA, ccap, rfl, h1, h2⟩ := hp.inCr
  rw [ex_bad.1] at he
  rw [ex_bad.2] at he
  exact ⟨⟨_, _, _, he, CA, ccap, rfl⟩, hb⟩
theorem format_ex (K : Nat) (CA : Option Addr) (ccap : Nat) (w : World) (E : Env K w) (hK : K ≤ w.heap.size) (hc : InCr w w.heap.size CA exE.cs) (hcap : 2 ≤ ccap) :
    Calls Tryz.prog 13 #[.agg #[.int .i64 10, .int .i64 0, .slice CA 2 ccap]] w fun e w' => e = .returned (.tuple #[.string (S exT), .int .i64 0]) ∧ Below w.heap.size w w' := by
  refine (format13 K exE CA ccap w E hK hc hcap (by decide)).mono ?_
  rintro e w' ⟨he, hb⟩
  rw [ex_fo] at he
  exact ⟨he, hb⟩
theorem path_ex (CA : Option Addr) (ccap : Nat) (w : World) (hc : InCr w w.heap.size CA exE.cs) (hcap : 2 ≤ ccap) :
    Calls Tryz.prog 22 #[.agg #[.int .i64 10, .int .i64 0, .slice CA 2 ccap], .int .i64 0] w fun e w' => (∃ PA pcap, e = .returned (.tuple #[.slice PA 11 pcap, .int .i64 0]) ∧ Is .i64 w' w'.heap.size PA (flat exL)) ∧ Below w.heap.size w w' := by
  refine (path22 exE CA ccap 0 w hc hcap).mono ?_
  rintro e w' ⟨PA, pcap, he, ho, hb⟩
  rw [ex_path] at he ho
  exact ⟨⟨PA, pcap, he, ho.is⟩, hb⟩
theorem aim_ex2 (CA : Option Addr) (ccap : Nat) (w : World) (hc : InCr w w.heap.size CA exE.cs) (hcap : 2 ≤ ccap) :
    Calls Tryz.prog 24 #[.agg #[.int .i64 10, .int .i64 0, .slice CA 2 ccap], .int .i64 0, .int .i64 2] w fun e w' => e = .returned (.tuple #[.int .i64 0, .int .i64 0]) ∧ Below w.heap.size w w' := by
  refine (aim24 exE CA ccap 0 2 w hc hcap).mono ?_
  rintro e w' ⟨he, hb⟩
  rw [show aimR exE 0 2 = (0, 0) by decide +kernel] at he
  exact ⟨he, hb⟩
theorem aim_ex3 (CA : Option Addr) (ccap : Nat) (w : World) (hc : InCr w w.heap.size CA exE.cs) (hcap : 2 ≤ ccap) :
    Calls Tryz.prog 24 #[.agg #[.int .i64 10, .int .i64 0, .slice CA 2 ccap], .int .i64 0, .int .i64 3] w fun e w' => e = .returned (.tuple #[.int .i64 10, .int .i64 0]) ∧ Below w.heap.size w w' := by
  refine (aim24 exE CA ccap 0 3 w hc hcap).mono ?_
  rintro e w' ⟨he, hb⟩
  rw [show aimR exE 0 3 = (10, 0) by decide +kernel] at he
  exact ⟨he, hb⟩
theorem where_ex (CA : Option Addr) (ccap : Nat) (w : World) (hc : InCr w w.heap.size CA exE.cs) (hcap : 2 ≤ ccap) :
    Calls Tryz.prog 26 #[.agg #[.int .i64 10, .int .i64 0, .slice CA 2 ccap], .int .i64 0, .int .i64 10] w fun e w' => e = .returned (.tuple #[.agg #[.int .i64 20, .int .i64 0, .int .i64 1055], .int .i64 0]) ∧ Below w.heap.size w w' := by
  refine (where26 exE CA ccap 0 10 w hc hcap).mono ?_
  rintro e w' ⟨he, hb⟩
  rw [show (wheR exE 0 10).1.x = 20 by decide +kernel, show (wheR exE 0 10).1.y = 0 by decide +kernel, show (wheR exE 0 10).1.z = 1055 by decide +kernel, show (wheR exE 0 10).2 = 0 by decide +kernel] at he
  exact ⟨he, hb⟩
theorem near_ex (CA : Option Addr) (ccap : Nat) (w : World) (hc : InCr w w.heap.size CA exE.cs) (hcap : 2 ≤ ccap) :
    Calls Tryz.prog 28 #[.agg #[.int .i64 10, .int .i64 0, .slice CA 2 ccap], .int .i64 0, .int .i64 1] w fun e w' => e = .returned (.tuple #[.int .i64 10, .int .i64 0, .int .i64 0]) ∧ Below w.heap.size w w' := by
  refine (near28 exE CA ccap 0 1 w hc hcap).mono ?_
  rintro e w' ⟨he, hb⟩
  rw [ex_near] at he
  exact ⟨he, hb⟩
set_option maxRecDepth 100000 in
set_option maxHeartbeats 4000000 in
theorem awake11 (K : Nat) (w : World) (E : Env K w) (hK : K ≤ w.heap.size) : Calls Tryz.prog 11 #[] w fun e w' => e = .returned (.bool true) ∧ Below w.heap.size w w' := by
  have Ew := Lib.hid E
  clear E
  go_enter Tryz.func11, Tryz.ntmps11
  go_wp2_with fail
  refine (text56 w).mono ?_
  rintro e wS ⟨rfl, rfl⟩
  go_wp2_with fail
  refine (parse_ex K w Ew.out hK).mono ?_
  rintro e w1 ⟨CA, ccap, lvs, Bl, rfl, hcc, -, hin, hw1⟩
  have Bw1 : Hid (Below w.heap.size w w1) := Lib.hid ((hw1))
  have mw1 : w.heap.size ≤ w1.heap.size := (hw1).size
  have Ew1 := Lib.hid (Ew.out.below ((hw1).mono (by omega)))
  clear Ew
  clear hw1
  have Iw1 := Lib.hid hin
  clear hin
  go_wp2_with fail
  obtain ⟨w2, hw2⟩ : ∃ w2, w2 = w1.alloc (.cells #[.int .i64 10, .int .i64 0, .slice CA 2 ccap] 24) := ⟨_, rfl⟩
  have bw2 : Below w1.heap.size w1 w2 := by rw [hw2]; exact (Below.refl _ _).alloc (Nat.le_refl _) _
  have nw2 : w2.heap[w1.heap.size]? = some (.cells #[.int .i64 10, .int .i64 0, .slice CA 2 ccap] 24 (0, 0)) := by rw [hw2]; exact heap_alloc_new _ _
  have Bw2 := Lib.hid (Bw1.out.trans ((bw2).mono mw1))
  have mw2 : w.heap.size ≤ w2.heap.size := Nat.le_trans mw1 (bw2).size
  have Ew2 := Lib.hid (Ew1.out.below ((bw2).mono (by omega)))
  have Iw2 := Lib.hid ((Iw1.out.below (bw2)).mono (bw2).size)
  clear Bw1 mw1 Ew1 Iw1
  rw [← hw2]
  clear hw2 bw2
  have Xw2 := Lib.hid nw2
  clear nw2
  have Xc0w2 : w2.cell? ⟨w1.heap.size, 0, none⟩ = some (.int .i64 10) := by simp [World.cell?, Xw2.out]
  have Xc1w2 : w2.cell? ⟨w1.heap.size, 1, none⟩ = some (.int .i64 0) := by simp [World.cell?, Xw2.out]
  have Xc2w2 : w2.cell? ⟨w1.heap.size, 2, none⟩ = some (.slice CA 2 ccap) := by simp [World.cell?, Xw2.out]
  refine (format_ex K CA ccap w2 Ew2.out (by omega) Iw2.out hcc).mono ?_
  rintro e w3 ⟨rfl, hw3⟩
  have Bw3 := Lib.hid (Bw2.out.trans ((hw3).mono mw2))
  have mw3 : w.heap.size ≤ w3.heap.size := Nat.le_trans mw2 (hw3).size
  have Ew3 := Lib.hid (Ew2.out.below ((hw3).mono (by omega)))
  have Iw3 := Lib.hid ((Iw2.out.below (hw3)).mono (hw3).size)
  have Xw3 := Lib.hid (((hw3).block _ (heap_lt Xw2.out)).trans Xw2.out)
  clear Bw2 mw2 Ew2 Iw2 Xw2 Xc0w2 Xc1w2 Xc2w2
  have Xc0w3 : w3.cell? ⟨w1.heap.size, 0, none⟩ = some (.int .i64 10) := by simp [World.cell?, Xw3.out]
  have Xc1w3 : w3.cell? ⟨w1.heap.size, 1, none⟩ = some (.int .i64 0) := by simp [World.cell?, Xw3.out]
  have Xc2w3 : w3.cell? ⟨w1.heap.size, 2, none⟩ = some (.slice CA 2 ccap) := by simp [World.cell?, Xw3.out]
  clear hw3
  go_wp2_with fail
  refine (text56 w3).mono ?_
  rintro e wS ⟨rfl, rfl⟩
  go_wp2_with fail
  refine (path_ex CA ccap w3 Iw3.out hcc).mono ?_
  rintro e w4 ⟨⟨PA, pcap, rfl, hp⟩, hw4⟩
  have Bw4 := Lib.hid (Bw3.out.trans ((hw4).mono mw3))
  have mw4 : w.heap.size ≤ w4.heap.size := Nat.le_trans mw3 (hw4).size
  have Ew4 := Lib.hid (Ew3.out.below ((hw4).mono (by omega)))
  have Iw4 := Lib.hid ((Iw3.out.below (hw4)).mono (hw4).size)
  have Xw4 := Lib.hid (((hw4).block _ (heap_lt Xw3.out)).trans Xw3.out)
  clear Bw3 mw3 Ew3 Iw3 Xw3 Xc0w3 Xc1w3 Xc2w3
  have Xc0w4 : w4.cell? ⟨w1.heap.size, 0, none⟩ = some (.int .i64 10) := by simp [World.cell?, Xw4.out]
  have Xc1w4 : w4.cell? ⟨w1.heap.size, 1, none⟩ = some (.int .i64 0) := by simp [World.cell?, Xw4.out]
  have Xc2w4 : w4.cell? ⟨w1.heap.size, 2, none⟩ = some (.slice CA 2 ccap) := by simp [World.cell?, Xw4.out]
  clear hw4
  have Pw4 := Lib.hid hp
  clear hp
  have Xa0 : ∀ ob, (w4.alloc ob).cell? ⟨w1.heap.size, 0, none⟩ = some (.int .i64 10) := fun ob => (World.cell?_alloc_lt _ _ _ (heap_lt Xw4.out)).trans Xc0w4
  have Xa1 : ∀ ob, (w4.alloc ob).cell? ⟨w1.heap.size, 1, none⟩ = some (.int .i64 0) := fun ob => (World.cell?_alloc_lt _ _ _ (heap_lt Xw4.out)).trans Xc1w4
  have Xa2 : ∀ ob, (w4.alloc ob).cell? ⟨w1.heap.size, 2, none⟩ = some (.slice CA 2 ccap) := fun ob => (World.cell?_alloc_lt _ _ _ (heap_lt Xw4.out)).trans Xc2w4
  go_wp2_with fail
  obtain ⟨w5, hw5⟩ : ∃ w5, w5 = w4.alloc (.cells #[.int .i64 1000, .int .i64 0, .int .i64 1000, .int .i64 0, .int .i64 1000, .int .i64 0, .int .i64 1000, .int .i64 0, .int .i64 1000, .int .i64 5, .int .i64 1005, .int .i64 10, .int .i64 1015, .int .i64 10, .int .i64 1025, .int .i64 10, .int .i64 1035, .int .i64 10, .int .i64 1045, .int .i64 10, .int .i64 1055, .int .i64 10] 42) := ⟨_, rfl⟩
  have bw5 : Below w4.heap.size w4 w5 := by rw [hw5]; exact (Below.refl _ _).alloc (Nat.le_refl _) _
  have nw5 : w5.heap[w4.heap.size]? = some (.cells #[.int .i64 1000, .int .i64 0, .int .i64 1000, .int .i64 0, .int .i64 1000, .int .i64 0, .int .i64 1000, .int .i64 0, .int .i64 1000, .int .i64 5, .int .i64 1005, .int .i64 10, .int .i64 1015, .int .i64 10, .int .i64 1025, .int .i64 10, .int .i64 1035, .int .i64 10, .int .i64 1045, .int .i64 10, .int .i64 1055, .int .i64 10] 42 (0, 0)) := by rw [hw5]; exact heap_alloc_new _ _
  have Bw5 := Lib.hid (Bw4.out.trans ((bw5).mono mw4))
  have mw5 : w.heap.size ≤ w5.heap.size := Nat.le_trans mw4 (bw5).size
  have Ew5 := Lib.hid (Ew4.out.below ((bw5).mono (by omega)))
  have Iw5 := Lib.hid ((Iw4.out.below (bw5)).mono (bw5).size)
  have Xw5 := Lib.hid (((bw5).block _ (heap_lt Xw4.out)).trans Xw4.out)
  have Pw5 := Lib.hid ((Pw4.out.below (bw5)).mono (bw5).size)
  clear Bw4 mw4 Ew4 Iw4 Xw4 Pw4 Xc0w4 Xc1w4 Xc2w4
  have Xc0w5 : w5.cell? ⟨w1.heap.size, 0, none⟩ = some (.int .i64 10) := by simp [World.cell?, Xw5.out]
  have Xc1w5 : w5.cell? ⟨w1.heap.size, 1, none⟩ = some (.int .i64 0) := by simp [World.cell?, Xw5.out]
  have Xc2w5 : w5.cell? ⟨w1.heap.size, 2, none⟩ = some (.slice CA 2 ccap) := by simp [World.cell?, Xw5.out]
  rw [← hw5]
  clear hw5 bw5 Xa0 Xa1 Xa2
  have Qw5 : Hid (Is .i64 w5 w5.heap.size (some ⟨w4.heap.size, 0, none⟩) (flat exL)) := Lib.hid (is_block (T := 42) (f := (0, 0)) nw5)
  clear nw5
  refine (aim_ex2 CA ccap w5 Iw5.out hcc).mono ?_
  rintro e w6 ⟨rfl, hw6⟩
  have Bw6 := Lib.hid (Bw5.out.trans ((hw6).mono mw5))
  have mw6 : w.heap.size ≤ w6.heap.size := Nat.le_trans mw5 (hw6).size
  have Ew6 := Lib.hid (Ew5.out.below ((hw6).mono (by omega)))
  have Iw6 := Lib.hid ((Iw5.out.below (hw6)).mono (hw6).size)
  have Xw6 := Lib.hid (((hw6).block _ (heap_lt Xw5.out)).trans Xw5.out)
  have Pw6 := Lib.hid ((Pw5.out.below (hw6)).mono (hw6).size)
  have Qw6 := Lib.hid ((Qw5.out.below (hw6)).mono (hw6).size)
  clear Bw5 mw5 Ew5 Iw5 Xw5 Pw5 Qw5 Xc0w5 Xc1w5 Xc2w5
  have Xc0w6 : w6.cell? ⟨w1.heap.size, 0, none⟩ = some (.int .i64 10) := by simp [World.cell?, Xw6.out]
  have Xc1w6 : w6.cell? ⟨w1.heap.size, 1, none⟩ = some (.int .i64 0) := by simp [World.cell?, Xw6.out]
  have Xc2w6 : w6.cell? ⟨w1.heap.size, 2, none⟩ = some (.slice CA 2 ccap) := by simp [World.cell?, Xw6.out]
  clear hw6
  go_wp2_with fail
  refine (aim_ex3 CA ccap w6 Iw6.out hcc).mono ?_
  rintro e w7 ⟨rfl, hw7⟩
  have Bw7 := Lib.hid (Bw6.out.trans ((hw7).mono mw6))
  have mw7 : w.heap.size ≤ w7.heap.size := Nat.le_trans mw6 (hw7).size
  have Ew7 := Lib.hid (Ew6.out.below ((hw7).mono (by omega)))
  have Iw7 := Lib.hid ((Iw6.out.below (hw7)).mono (hw7).size)
  have Xw7 := Lib.hid (((hw7).block _ (heap_lt Xw6.out)).trans Xw6.out)
  have Pw7 := Lib.hid ((Pw6.out.below (hw7)).mono (hw7).size)
  have Qw7 := Lib.hid ((Qw6.out.below (hw7)).mono (hw7).size)
  clear Bw6 mw6 Ew6 Iw6 Xw6 Pw6 Qw6 Xc0w6 Xc1w6 Xc2w6
  have Xc0w7 : w7.cell? ⟨w1.heap.size, 0, none⟩ = some (.int .i64 10) := by simp [World.cell?, Xw7.out]
  have Xc1w7 : w7.cell? ⟨w1.heap.size, 1, none⟩ = some (.int .i64 0) := by simp [World.cell?, Xw7.out]
  have Xc2w7 : w7.cell? ⟨w1.heap.size, 2, none⟩ = some (.slice CA 2 ccap) := by simp [World.cell?, Xw7.out]
  clear hw7
  go_wp2_with fail
  refine (where_ex CA ccap w7 Iw7.out hcc).mono ?_
  rintro e w8 ⟨rfl, hw8⟩
  have Bw8 := Lib.hid (Bw7.out.trans ((hw8).mono mw7))
  have mw8 : w.heap.size ≤ w8.heap.size := Nat.le_trans mw7 (hw8).size
  have Ew8 := Lib.hid (Ew7.out.below ((hw8).mono (by omega)))
  have Iw8 := Lib.hid ((Iw7.out.below (hw8)).mono (hw8).size)
  have Xw8 := Lib.hid (((hw8).block _ (heap_lt Xw7.out)).trans Xw7.out)
  have Pw8 := Lib.hid ((Pw7.out.below (hw8)).mono (hw8).size)
  have Qw8 := Lib.hid ((Qw7.out.below (hw8)).mono (hw8).size)
  clear Bw7 mw7 Ew7 Iw7 Xw7 Pw7 Qw7 Xc0w7 Xc1w7 Xc2w7
  have Xc0w8 : w8.cell? ⟨w1.heap.size, 0, none⟩ = some (.int .i64 10) := by simp [World.cell?, Xw8.out]
  have Xc1w8 : w8.cell? ⟨w1.heap.size, 1, none⟩ = some (.int .i64 0) := by simp [World.cell?, Xw8.out]
  have Xc2w8 : w8.cell? ⟨w1.heap.size, 2, none⟩ = some (.slice CA 2 ccap) := by simp [World.cell?, Xw8.out]
  clear hw8
  have Xa0 : ∀ ob, (w8.alloc ob).cell? ⟨w1.heap.size, 0, none⟩ = some (.int .i64 10) := fun ob => (World.cell?_alloc_lt _ _ _ (heap_lt Xw8.out)).trans Xc0w8
  have Xa1 : ∀ ob, (w8.alloc ob).cell? ⟨w1.heap.size, 1, none⟩ = some (.int .i64 0) := fun ob => (World.cell?_alloc_lt _ _ _ (heap_lt Xw8.out)).trans Xc1w8
  have Xa2 : ∀ ob, (w8.alloc ob).cell? ⟨w1.heap.size, 2, none⟩ = some (.slice CA 2 ccap) := fun ob => (World.cell?_alloc_lt _ _ _ (heap_lt Xw8.out)).trans Xc2w8
  go_wp2_with fail
  obtain ⟨w9, hw9⟩ : ∃ w9, w9 = w8.alloc (.cells #[.int .i64 20, .int .i64 0, .int .i64 1055] 46) := ⟨_, rfl⟩
  have bw9 : Below w8.heap.size w8 w9 := by rw [hw9]; exact (Below.refl _ _).alloc (Nat.le_refl _) _
  have nw9 : w9.heap[w8.heap.size]? = some (.cells #[.int .i64 20, .int .i64 0, .int .i64 1055] 46 (0, 0)) := by rw [hw9]; exact heap_alloc_new _ _
  have Bw9 := Lib.hid (Bw8.out.trans ((bw9).mono mw8))
  have mw9 : w.heap.size ≤ w9.heap.size := Nat.le_trans mw8 (bw9).size
  have Ew9 := Lib.hid (Ew8.out.below ((bw9).mono (by omega)))
  have Iw9 := Lib.hid ((Iw8.out.below (bw9)).mono (bw9).size)
  have Xw9 := Lib.hid (((bw9).block _ (heap_lt Xw8.out)).trans Xw8.out)
  have Pw9 := Lib.hid ((Pw8.out.below (bw9)).mono (bw9).size)
  have Qw9 := Lib.hid ((Qw8.out.below (bw9)).mono (bw9).size)
  clear Bw8 mw8 Ew8 Iw8 Xw8 Pw8 Qw8 Xc0w8 Xc1w8 Xc2w8
  have Xc0w9 : w9.cell? ⟨w1.heap.size, 0, none⟩ = some (.int .i64 10) := by simp [World.cell?, Xw9.out]
  have Xc1w9 : w9.cell? ⟨w1.heap.size, 1, none⟩ = some (.int .i64 0) := by simp [World.cell?, Xw9.out]
  have Xc2w9 : w9.cell? ⟨w1.heap.size, 2, none⟩ = some (.slice CA 2 ccap) := by simp [World.cell?, Xw9.out]
  rw [← hw9]
  clear hw9 bw9 Xa0 Xa1 Xa2
  have Yw9 := Lib.hid nw9
  clear nw9
  have Yc0w9 : w9.cell? ⟨w8.heap.size, 0, none⟩ = some (.int .i64 20) := by simp [World.cell?, Yw9.out]
  have Yc1w9 : w9.cell? ⟨w8.heap.size, 1, none⟩ = some (.int .i64 0) := by simp [World.cell?, Yw9.out]
  have Yc2w9 : w9.cell? ⟨w8.heap.size, 2, none⟩ = some (.int .i64 1055) := by simp [World.cell?, Yw9.out]
  refine (near_ex CA ccap w9 Iw9.out hcc).mono ?_
  rintro e w10 ⟨rfl, hw10⟩
  have Bw10 := Lib.hid (Bw9.out.trans ((hw10).mono mw9))
  have mw10 : w.heap.size ≤ w10.heap.size := Nat.le_trans mw9 (hw10).size
  have Ew10 := Lib.hid (Ew9.out.below ((hw10).mono (by omega)))
  have Iw10 := Lib.hid ((Iw9.out.below (hw10)).mono (hw10).size)
  have Xw10 := Lib.hid (((hw10).block _ (heap_lt Xw9.out)).trans Xw9.out)
  have Pw10 := Lib.hid ((Pw9.out.below (hw10)).mono (hw10).size)
  have Qw10 := Lib.hid ((Qw9.out.below (hw10)).mono (hw10).size)
  have Yw10 := Lib.hid (((hw10).block _ (heap_lt Yw9.out)).trans Yw9.out)
  clear Bw9 mw9 Ew9 Iw9 Xw9 Pw9 Qw9 Yw9 Xc0w9 Xc1w9 Xc2w9 Yc0w9 Yc1w9 Yc2w9
  have Xc0w10 : w10.cell? ⟨w1.heap.size, 0, none⟩ = some (.int .i64 10) := by simp [World.cell?, Xw10.out]
  have Xc1w10 : w10.cell? ⟨w1.heap.size, 1, none⟩ = some (.int .i64 0) := by simp [World.cell?, Xw10.out]
  have Xc2w10 : w10.cell? ⟨w1.heap.size, 2, none⟩ = some (.slice CA 2 ccap) := by simp [World.cell?, Xw10.out]
  have Yc0w10 : w10.cell? ⟨w8.heap.size, 0, none⟩ = some (.int .i64 20) := by simp [World.cell?, Yw10.out]
  have Yc1w10 : w10.cell? ⟨w8.heap.size, 1, none⟩ = some (.int .i64 0) := by simp [World.cell?, Yw10.out]
  have Yc2w10 : w10.cell? ⟨w8.heap.size, 2, none⟩ = some (.int .i64 1055) := by simp [World.cell?, Yw10.out]
  clear hw10
  go_wp2_with fail
  refine (parse_bad K w10 Ew10.out (by omega)).mono ?_
  rintro e w11 ⟨⟨q1, q2, _, rfl, CB, cb, rfl⟩, hw11⟩
  have Bw11 := Lib.hid (Bw10.out.trans ((hw11).mono mw10))
  have mw11 : w.heap.size ≤ w11.heap.size := Nat.le_trans mw10 (hw11).size
  have Ew11 := Lib.hid (Ew10.out.below ((hw11).mono (by omega)))
  have Iw11 := Lib.hid ((Iw10.out.below (hw11)).mono (hw11).size)
  have Xw11 := Lib.hid (((hw11).block _ (heap_lt Xw10.out)).trans Xw10.out)
  have Pw11 := Lib.hid ((Pw10.out.below (hw11)).mono (hw11).size)
  have Qw11 := Lib.hid ((Qw10.out.below (hw11)).mono (hw11).size)
  have Yw11 := Lib.hid (((hw11).block _ (heap_lt Yw10.out)).trans Yw10.out)
  clear Bw10 mw10 Ew10 Iw10 Xw10 Pw10 Qw10 Yw10 Xc0w10 Xc1w10 Xc2w10 Yc0w10 Yc1w10 Yc2w10
  have Xc0w11 : w11.cell? ⟨w1.heap.size, 0, none⟩ = some (.int .i64 10) := by simp [World.cell?, Xw11.out]
  have Xc1w11 : w11.cell? ⟨w1.heap.size, 1, none⟩ = some (.int .i64 0) := by simp [World.cell?, Xw11.out]
  have Xc2w11 : w11.cell? ⟨w1.heap.size, 2, none⟩ = some (.slice CA 2 ccap) := by simp [World.cell?, Xw11.out]
  have Yc0w11 : w11.cell? ⟨w8.heap.size, 0, none⟩ = some (.int .i64 20) := by simp [World.cell?, Yw11.out]
  have Yc1w11 : w11.cell? ⟨w8.heap.size, 1, none⟩ = some (.int .i64 0) := by simp [World.cell?, Yw11.out]
  have Yc2w11 : w11.cell? ⟨w8.heap.size, 2, none⟩ = some (.int .i64 1055) := by simp [World.cell?, Yw11.out]
  clear hw11
  have Xa0 : ∀ ob, (w11.alloc ob).cell? ⟨w1.heap.size, 0, none⟩ = some (.int .i64 10) := fun ob => (World.cell?_alloc_lt _ _ _ (heap_lt Xw11.out)).trans Xc0w11
  have Xa1 : ∀ ob, (w11.alloc ob).cell? ⟨w1.heap.size, 1, none⟩ = some (.int .i64 0) := fun ob => (World.cell?_alloc_lt _ _ _ (heap_lt Xw11.out)).trans Xc1w11
  have Xa2 : ∀ ob, (w11.alloc ob).cell? ⟨w1.heap.size, 2, none⟩ = some (.slice CA 2 ccap) := fun ob => (World.cell?_alloc_lt _ _ _ (heap_lt Xw11.out)).trans Xc2w11
  have Ya0 : ∀ ob, (w11.alloc ob).cell? ⟨w8.heap.size, 0, none⟩ = some (.int .i64 20) := fun ob => (World.cell?_alloc_lt _ _ _ (heap_lt Yw11.out)).trans Yc0w11
  have Ya1 : ∀ ob, (w11.alloc ob).cell? ⟨w8.heap.size, 1, none⟩ = some (.int .i64 0) := fun ob => (World.cell?_alloc_lt _ _ _ (heap_lt Yw11.out)).trans Yc1w11
  have Ya2 : ∀ ob, (w11.alloc ob).cell? ⟨w8.heap.size, 2, none⟩ = some (.int .i64 1055) := fun ob => (World.cell?_alloc_lt _ _ _ (heap_lt Yw11.out)).trans Yc2w11
  go_wp2_with fail
  obtain ⟨w12, hw12⟩ : ∃ w12, w12 = w11.alloc (.cells #[.int .i64 q1, .int .i64 q2, .slice CB 0 cb] 24) := ⟨_, rfl⟩
  have bw12 : Below w11.heap.size w11 w12 := by rw [hw12]; exact (Below.refl _ _).alloc (Nat.le_refl _) _
  have nw12 : w12.heap[w11.heap.size]? = some (.cells #[.int .i64 q1, .int .i64 q2, .slice CB 0 cb] 24 (0, 0)) := by rw [hw12]; exact heap_alloc_new _ _
  have Bw12 := Lib.hid (Bw11.out.trans ((bw12).mono mw11))
  have mw12 : w.heap.size ≤ w12.heap.size := Nat.le_trans mw11 (bw12).size
  have Ew12 := Lib.hid (Ew11.out.below ((bw12).mono (by omega)))
  have Iw12 := Lib.hid ((Iw11.out.below (bw12)).mono (bw12).size)
  have Xw12 := Lib.hid (((bw12).block _ (heap_lt Xw11.out)).trans Xw11.out)
  have Pw12 := Lib.hid ((Pw11.out.below (bw12)).mono (bw12).size)
  have Qw12 := Lib.hid ((Qw11.out.below (bw12)).mono (bw12).size)
  have Yw12 := Lib.hid (((bw12).block _ (heap_lt Yw11.out)).trans Yw11.out)
  clear Bw11 mw11 Ew11 Iw11 Xw11 Pw11 Qw11 Yw11 Xc0w11 Xc1w11 Xc2w11 Yc0w11 Yc1w11 Yc2w11
  have Xc0w12 : w12.cell? ⟨w1.heap.size, 0, none⟩ = some (.int .i64 10) := by simp [World.cell?, Xw12.out]
  have Xc1w12 : w12.cell? ⟨w1.heap.size, 1, none⟩ = some (.int .i64 0) := by simp [World.cell?, Xw12.out]
  have Xc2w12 : w12.cell? ⟨w1.heap.size, 2, none⟩ = some (.slice CA 2 ccap) := by simp [World.cell?, Xw12.out]
  have Yc0w12 : w12.cell? ⟨w8.heap.size, 0, none⟩ = some (.int .i64 20) := by simp [World.cell?, Yw12.out]
  have Yc1w12 : w12.cell? ⟨w8.heap.size, 1, none⟩ = some (.int .i64 0) := by simp [World.cell?, Yw12.out]
  have Yc2w12 : w12.cell? ⟨w8.heap.size, 2, none⟩ = some (.int .i64 1055) := by simp [World.cell?, Yw12.out]
  rw [← hw12]
  clear hw12 bw12 Xa0 Xa1 Xa2 Ya0 Ya1 Ya2
  clear nw12
  refine (planes23 PA (some ⟨w4.heap.size, 0, none⟩) pcap 11 exL w12 Pw12.out Qw12.out (by decide)).mono ?_
  rintro e w13 ⟨rfl, hw13⟩
  have Bw13 := Lib.hid (Bw12.out.trans ((hw13).mono mw12))
  have mw13 : w.heap.size ≤ w13.heap.size := Nat.le_trans mw12 (hw13).size
  have Ew13 := Lib.hid (Ew12.out.below ((hw13).mono (by omega)))
  have Iw13 := Lib.hid ((Iw12.out.below (hw13)).mono (hw13).size)
  have Xw13 := Lib.hid (((hw13).block _ (heap_lt Xw12.out)).trans Xw12.out)
  have Pw13 := Lib.hid ((Pw12.out.below (hw13)).mono (hw13).size)
  have Qw13 := Lib.hid ((Qw12.out.below (hw13)).mono (hw13).size)
  have Yw13 := Lib.hid (((hw13).block _ (heap_lt Yw12.out)).trans Yw12.out)
  clear Bw12 mw12 Ew12 Iw12 Xw12 Pw12 Qw12 Yw12 Xc0w12 Xc1w12 Xc2w12 Yc0w12 Yc1w12 Yc2w12
  have Xc0w13 : w13.cell? ⟨w1.heap.size, 0, none⟩ = some (.int .i64 10) := by simp [World.cell?, Xw13.out]
  have Xc1w13 : w13.cell? ⟨w1.heap.size, 1, none⟩ = some (.int .i64 0) := by simp [World.cell?, Xw13.out]
  have Xc2w13 : w13.cell? ⟨w1.heap.size, 2, none⟩ = some (.slice CA 2 ccap) := by simp [World.cell?, Xw13.out]
  have Yc0w13 : w13.cell? ⟨w8.heap.size, 0, none⟩ = some (.int .i64 20) := by simp [World.cell?, Yw13.out]
  have Yc1w13 : w13.cell? ⟨w8.heap.size, 1, none⟩ = some (.int .i64 0) := by simp [World.cell?, Yw13.out]
  have Yc2w13 : w13.cell? ⟨w8.heap.size, 2, none⟩ = some (.int .i64 1055) := by simp [World.cell?, Yw13.out]
  clear hw13
  go_wp2_with fail
  go_ret
  exact ⟨rfl, Bw13.out⟩
end Go.Proofs.YtnnnpliigdfipaaGreatDoor
