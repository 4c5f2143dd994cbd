/- squitter: Load's deferred closure. -/
import Derived.Test.YtkikokldijccnaaGreatDoorRows
import Derived.WalkKit
import Derived.WalkLawsBesides
import Derived.WalkSpells
import Derived.ProofKit
import Derived.Below
import Derived.Outline
import Derived.Lib.Hide
import Derived.Deep.RegionWith
import Derived.Deep.RegionHeld3
import Derived.Deep.DrawnRows
import Derived.StillTailTactics
import Derived.BigQuiet
import Derived.Deep.QuietTactic
import Derived.Deep.LoopGhost
import Derived.IntWalk
import Derived.OrdersHeld
import Derived.Defers
import Derived.Recover
import Derived.Test.YtkikokldijccnaaGreatDoorLdB
namespace Go.Proofs.YtkikokldijccnaaGreatDoor
open Go.RowKit Go.Maps
attribute [local go_sem ↓] Go.wp_at_zero Go.wp_at_succ
attribute [local go_sem] wrap_lit

theorem ad_ne {p q : Nat} (h : p ≠ q) : (⟨p, 0, none⟩ : Addr) ≠ ⟨q, 0, none⟩ := fun e => h (by injection e)
def panV : Value := .iface 67 (.agg #[.int .i64 2])
/-- what the deferred closure leaves -/
def CatR (p q : Nat) (w : World) (e : Ending) (u' : FrameMode) (w' : World) : Prop := e = .returned (.tuple #[]) ∧ u' = .panicking [{ v := panV, recovered := true }] ∧ w'.cell? ⟨p, 0, none⟩ = some (.pointer none) ∧ w'.cell? ⟨q, 0, none⟩ = some (.int .i64 2) ∧ ∀ B, B ≤ p → B ≤ q → B ≤ w.heap.size → Below B w w'
set_option maxRecDepth 100000 in
set_option maxHeartbeats 1000000 in
theorem catch_p {p q : Nat} {w : World} {v1 v2 : Value} (h1 : w.heap[p]? = some (.cells #[v1] 27 (0, 0))) (h2 : w.heap[q]? = some (.cells #[v2] 24 (0, 0))) :
    CallsD Tryz.prog 26 #[.pointer (some ⟨p, 0, none⟩), .pointer (some ⟨q, 0, none⟩)] (.panicking [{ v := panV, recovered := false }]) w (CatR p q w) := by
  refine callsD_of_wpS Tryz.func26 rfl fun c₀ cs hu => ?_
  apply wpS_seq
  apply wpS_region
  simp [wpOpsS, go_sem, recoverD, hu, Tryz.ntmps26, Exit.thenS]
  refine wpS_of_wp ?_
  have hne : ∀ w, Sem.run Tryz.prog (binOp BinOp.neq 20 panV Value.nilIface) w = .ok (.bool true) w := fun w => by kernel_rfl
  have heg : ∀ (x y : Operand) w, Sem.run Tryz.prog (eqGuard BinOp.neq 20 x y panV Value.nilIface) w = .ok () w := fun x y w => by kernel_rfl
  have hta : ∀ w, (Instr.typeAssert panV 20 67 true).run Tryz.prog w = .ok (.tuple #[.agg #[.int .i64 2], .bool true]) w := fun w => by kernel_rfl
  simp only [Array.replicate_succ, Array.replicate_zero, List.push_toArray, List.append_toArray, List.nil_append, List.cons_append, List.setIfInBounds_toArray, List.set_cons_zero, List.set_cons_succ]
  have hpq : p ≠ q := ne_of_cells h1 h2 (by simp)
  have hpl := heap_lt h1
  have hql := heap_lt h2
  go_wp2_with fail
  refine name_world ?_
  intro W hW
  have cn : W.cell? ⟨w.heap.size, 0, none⟩ = some (.int .i64 2) := by rw [hW]; exact cellOf (heap_alloc_new w _)
  have hp : W.heap[p]? = some (.cells #[v1] 27 (0, 0)) := by rw [hW]; exact (Below.heap_alloc _ _ _ hpl).trans h1
  have hq : W.heap[q]? = some (.cells #[v2] 24 (0, 0)) := by rw [hW]; exact (Below.heap_alloc _ _ _ hql).trans h2
  have HB : Hid (∀ B, B ≤ w.heap.size → Below B w W) := Lib.hid (fun B hB => by rw [hW]; exact (Below.refl _ _).alloc hB _)
  have cp : W.cell? ⟨p, 0, none⟩ = some v1 := cellOf hp
  have cq : W.cell? ⟨q, 0, none⟩ = some v2 := cellOf hq
  have fp : W.frozen? ⟨p, 0, none⟩ = false := frozenOf hp
  have fq : W.frozen? ⟨q, 0, none⟩ = false := frozenOf hq
  have HP := Lib.hid hp
  have HQ := Lib.hid hq
  have HU := Lib.hid hu
  obtain ⟨n, hn⟩ : ∃ n, n = w.heap.size := ⟨_, rfl⟩
  rw [← hn] at cn ⊢
  have hpn : n ≠ p := by omega
  have hqn : n ≠ q := by omega
  clear hW h1 h2 hp hq hu hn hne heg hta
  refine wp_region_held_drew (S := fun w' => w'.cell? ⟨n, 0, none⟩ = some (.int .i64 2)) (by kernel_rfl) (cn) (fun hS => ?_)
  refine wpAnyH_take (i := 0) (v := ?vC1) rfl (by kernel_rfl) (by kernel_rfl) (by kernel_rfl) (fun _ _ _ h => h) (Or.inl ⟨by rfl, ?hC1⟩) hS ?rC1
  case hC1 =>
    intro w1 hSw
    clear hSw
    go_simp
    try with_reducible rfl
  (try go_frame)
  refine wpAnyH_take (i := 1) (v := ?vC2) rfl (by kernel_rfl) (by kernel_rfl) (by kernel_rfl) (fun _ _ _ h => h) (Or.inl ⟨by rfl, ?hC2⟩) hS ?rC2
  case hC2 =>
    intro w1 hSw
    have z1 : w1.cell? ⟨n, 0, none⟩ = some (.int .i64 2) := hSw
    clear hSw
    go_simp
    try with_reducible rfl
  (try go_frame)
  refine wpAnyH_ready (rs := [2]) (by kernel_rfl) (by simp) (AllReadyH.cons rfl (fun K hK => ?_) AllReadyH.nil)
  go_simp
  refine hK.out _ _ ((World.cell?_setCell_other _ _ _ _ (ad_ne hpn.symm)).trans hS) (fun hS => ?_)
  clear hK K
  refine wpAnyH_ready (rs := [3]) (by kernel_rfl) (by simp) (AllReadyH.cons rfl (fun K hK => ?_) AllReadyH.nil)
  go_simp
  refine hK.out _ _ ((World.cell?_setCell_other _ _ _ _ (ad_ne hqn.symm)).trans hS) (fun hS => ?_)
  clear hK K
  refine wpAnyH_done (by kernel_rfl) ?_ _
  exact ⟨rfl, _, rfl, .tuple #[], by simp [results, Tryz.results26], rfl, rfl, (World.cell?_setCell_other _ _ _ _ (ad_ne hpq.symm)).trans (World.cell?_setCell_same _ _ _ cp), World.cell?_setCell_same _ _ _ ((World.cell?_setCell_other _ _ _ _ (ad_ne hpq)).trans cq), fun B b1 b2 b3 => (((HB.out B (by omega)).setCell (p := ⟨p, 0, none⟩) b1 _).setCell (p := ⟨q, 0, none⟩) b2 _).drew⟩

set_option maxRecDepth 100000 in
theorem catch_r (p q : Nat) (w : World) : CallsD Tryz.prog 26 #[.pointer (some ⟨p, 0, none⟩), .pointer (some ⟨q, 0, none⟩)] .returning w fun e u' w' => e = .returned (.tuple #[]) ∧ u' = .returning ∧ w' = w := by
  refine callsD_of_wpS Tryz.func26 rfl fun c₀ cs hu => ?_
  apply wpS_seq
  apply wpS_region
  simp [wpOpsS, go_sem, recoverD, hu, Tryz.ntmps26, Exit.thenS]
  refine wpS_of_wp ?_
  have hne : ∀ w, Sem.run Tryz.prog (binOp BinOp.neq 20 .nilIface Value.nilIface) w = .ok (.bool false) w := fun w => by kernel_rfl
  have heg : ∀ (x : Operand) w, Sem.run Tryz.prog (eqGuard BinOp.neq 20 x (.const .nilIface) .nilIface Value.nilIface) w = .ok () w := fun x w => by simp [eqGuard]
  simp only [Array.replicate_succ, Array.replicate_zero, List.push_toArray, List.append_toArray, List.nil_append, List.cons_append, List.setIfInBounds_toArray, List.set_cons_zero, List.set_cons_succ]
  have HU := Lib.hid hu
  clear hu
  go_wp2_with fail
  exact ⟨rfl, .returning, by rw [← HU.out], .tuple #[], by simp [results, Tryz.results26], rfl, rfl, rfl⟩
end Go.Proofs.YtkikokldijccnaaGreatDoor
