/- The reference of package geometry: Wrong, relative, dot; Move of both. -/
import Derived.Test.YtdflamblbhpngaaRows
import Derived.WalkKit
import Derived.WalkLawsBesides
import Derived.WalkSpells
import Derived.ProofKit
import Derived.Below
import Derived.Outline
import Derived.Lib.Hide
import Derived.Deep.RegionWith
import Derived.Deep.RegionHeld3
import Derived.Deep.DrawnRows
import Derived.StillTailTactics
import Derived.BigQuiet
import Derived.Deep.QuietTactic
import Derived.Deep.LoopGhost
import Derived.IntWalk
import Derived.Test.YtdflamblbhpngaaGeD
namespace Go.Proofs.Ytdflamblbhpngaa
open Go.RowKit
attribute [local go_sem ↓] Go.wp_at_zero Go.wp_at_succ
attribute [local go_sem] wrap_lit

theorem chkB32 (p : V3) (w : World) : Calls Try.prog 32 #[.agg #[.int .i64 p.x, .int .i64 p.y, .int .i64 p.z]] w fun e w' => e = .returned (.int .i64 (ckP p)) ∧ Below w.heap.size w w' := (check32 p w).mono fun _ _ ⟨h, h'⟩ => ⟨h, by rw [← h']; exact (Below.refl _ _).alloc (Nat.le_refl _) _⟩
theorem chkB34 (p : V3) (w : World) : Calls Try.prog 34 #[.agg #[.int .i64 p.x, .int .i64 p.y, .int .i64 p.z]] w fun e w' => e = .returned (.int .i64 (ckV p)) ∧ Below w.heap.size w w' := (checkV34 p w).mono fun _ _ ⟨h, h'⟩ => ⟨h, by rw [← h']; exact (Below.refl _ _).alloc (Nat.le_refl _) _⟩
theorem errs_ok (p q v u : V3) (h : ∀ j, j < 4 → nth [ckP p, ckP q, ckV v, ckV u] j = 0) : okG p q v u := by
  have e0 := h 0 (by omega)
  have e1 := h 1 (by omega)
  have e2 := h 2 (by omega)
  have e3 := h 3 (by omega)
  refine ⟨?_, ?_, ?_, ?_⟩ <;> (apply Decidable.byContradiction; intro hn; first | (simp [nth, ckP, hn] at e0; done) | (simp [nth, ckP, hn] at e1; done) | (simp [nth, ckV, hn] at e2; done) | (simp [nth, ckV, hn] at e3; done))
theorem errs_bad (p q v u : V3) (k : Nat) (hk : k < 4) (h : nth [ckP p, ckP q, ckV v, ckV u] k ≠ 0) : ¬ okG p q v u ∧ nth [ckP p, ckP q, ckV v, ckV u] k = 1 := by
  constructor
  · intro ho
    obtain ⟨o1, o2, o3, o4⟩ := ho
    rcases (by omega : k = 0 ∨ k = 1 ∨ k = 2 ∨ k = 3) with rfl | rfl | rfl | rfl
    · exact h (by simp [nth, ckP, o1])
    · exact h (by simp [nth, ckP, o2])
    · exact h (by simp [nth, ckV, o3])
    · exact h (by simp [nth, ckV, o4])
  · rcases (by omega : k = 0 ∨ k = 1 ∨ k = 2 ∨ k = 3) with rfl | rfl | rfl | rfl
    · simp [nth, ckP] at h ⊢; exact h
    · simp [nth, ckP] at h ⊢; exact h
    · simp [nth, ckV] at h ⊢; exact h
    · simp [nth, ckV] at h ⊢; exact h

set_option maxHeartbeats 2000000 in
theorem wrong36 (p q v u : V3) (w : World) : Calls Try.prog 36 #[.agg #[.int .i64 p.x, .int .i64 p.y, .int .i64 p.z], .agg #[.int .i64 q.x, .int .i64 q.y, .int .i64 q.z], .agg #[.int .i64 v.x, .int .i64 v.y, .int .i64 v.z], .agg #[.int .i64 u.x, .int .i64 u.y, .int .i64 u.z]] w fun e w' => e = .returned (.int .i64 (erG p q v u)) ∧ Below w.heap.size w w' := by
  go_enter Try.func36, Try.ntmps36
  go_wp2_with fail
  obtain ⟨W, hW⟩ : ∃ W, W = ((((w.alloc (.cells #[.int .i64 p.x, .int .i64 p.y, .int .i64 p.z] 23)).alloc (.cells #[.int .i64 q.x, .int .i64 q.y, .int .i64 q.z] 23)).alloc (.cells #[.int .i64 v.x, .int .i64 v.y, .int .i64 v.z] 24)).alloc (.cells #[.int .i64 u.x, .int .i64 u.y, .int .i64 u.z] 24)) := ⟨_, rfl⟩
  have BW : Below w.heap.size w W := by rw [hW]; exact ((((Below.refl _ _).alloc (Nat.le_refl _) _).alloc (by first | omega | (simp; omega) | simp) _).alloc (by first | omega | (simp; omega) | simp) _).alloc (by first | omega | (simp; omega) | simp) _
  have k_0 : W.cell? ⟨w.heap.size, 0, none⟩ = some (.int .i64 p.x) := by rw [hW]; go_simp
  have k_1 : W.cell? ⟨w.heap.size, 1, none⟩ = some (.int .i64 p.y) := by rw [hW]; go_simp
  have k_2 : W.cell? ⟨w.heap.size, 2, none⟩ = some (.int .i64 p.z) := by rw [hW]; go_simp
  have k_3 : W.cell? ⟨w.heap.size + 1, 0, none⟩ = some (.int .i64 q.x) := by rw [hW]; go_simp
  have k_4 : W.cell? ⟨w.heap.size + 1, 1, none⟩ = some (.int .i64 q.y) := by rw [hW]; go_simp
  have k_5 : W.cell? ⟨w.heap.size + 1, 2, none⟩ = some (.int .i64 q.z) := by rw [hW]; go_simp
  have k_6 : W.cell? ⟨w.heap.size + 1 + 1, 0, none⟩ = some (.int .i64 v.x) := by rw [hW]; go_simp
  have k_7 : W.cell? ⟨w.heap.size + 1 + 1, 1, none⟩ = some (.int .i64 v.y) := by rw [hW]; go_simp
  have k_8 : W.cell? ⟨w.heap.size + 1 + 1, 2, none⟩ = some (.int .i64 v.z) := by rw [hW]; go_simp
  have k_9 : W.cell? ⟨w.heap.size + 1 + 1 + 1, 0, none⟩ = some (.int .i64 u.x) := by rw [hW]; go_simp
  have k_10 : W.cell? ⟨w.heap.size + 1 + 1 + 1, 1, none⟩ = some (.int .i64 u.y) := by rw [hW]; go_simp
  have k_11 : W.cell? ⟨w.heap.size + 1 + 1 + 1, 2, none⟩ = some (.int .i64 u.z) := by rw [hW]; go_simp
  have zW_0 : w.heap.size < W.heap.size := by rw [hW]; simp <;> omega
  have zW_1 : w.heap.size + 1 < W.heap.size := by rw [hW]; simp <;> omega
  have zW_2 : w.heap.size + 1 + 1 < W.heap.size := by rw [hW]; simp <;> omega
  have zW_3 : w.heap.size + 1 + 1 + 1 < W.heap.size := by rw [hW]; simp <;> omega
  rw [← hW]
  clear hW
  go_region_held3 (fun w' => w'.cell? ⟨w.heap.size, 0, none⟩ = some (.int .i64 p.x) ∧ w'.cell? ⟨w.heap.size, 1, none⟩ = some (.int .i64 p.y) ∧ w'.cell? ⟨w.heap.size, 2, none⟩ = some (.int .i64 p.z) ∧ w'.cell? ⟨w.heap.size + 1, 0, none⟩ = some (.int .i64 q.x) ∧ w'.cell? ⟨w.heap.size + 1, 1, none⟩ = some (.int .i64 q.y) ∧ w'.cell? ⟨w.heap.size + 1, 2, none⟩ = some (.int .i64 q.z) ∧ w'.cell? ⟨w.heap.size + 1 + 1, 0, none⟩ = some (.int .i64 v.x) ∧ w'.cell? ⟨w.heap.size + 1 + 1, 1, none⟩ = some (.int .i64 v.y) ∧ w'.cell? ⟨w.heap.size + 1 + 1, 2, none⟩ = some (.int .i64 v.z) ∧ w'.cell? ⟨w.heap.size + 1 + 1 + 1, 0, none⟩ = some (.int .i64 u.x) ∧ w'.cell? ⟨w.heap.size + 1 + 1 + 1, 1, none⟩ = some (.int .i64 u.y) ∧ w'.cell? ⟨w.heap.size + 1 + 1 + 1, 2, none⟩ = some (.int .i64 u.z)) (first | exact ⟨k_0, k_1, k_2, k_3, k_4, k_5, k_6, k_7, k_8, k_9, k_10, k_11⟩ | exact ⟨r4_0, r4_1, r4_2, r4_3, r4_4, r4_5, r4_6, r4_7, r4_8, r4_9, r4_10, r4_11⟩ | exact ⟨r3_0, r3_1, r3_2, r3_3, r3_4, r3_5, r3_6, r3_7, r3_8, r3_9, r3_10, r3_11⟩ | exact ⟨r2_0, r2_1, r2_2, r2_3, r2_4, r2_5, r2_6, r2_7, r2_8, r2_9, r2_10, r2_11⟩ | exact ⟨r1_0, r1_1, r1_2, r1_3, r1_4, r1_5, r1_6, r1_7, r1_8, r1_9, r1_10, r1_11⟩ | go_keep) (first
    | ((with_reducible refine (chkB32 p _).mono ?_); rintro e w1 ⟨rfl, hb1⟩; have hs1 := hb1.size; (try simp at hs1); have z1_0 : w.heap.size < w1.heap.size := (by omega); have z1_1 : w.heap.size + 1 < w1.heap.size := (by omega); have z1_2 : w.heap.size + 1 + 1 < w1.heap.size := (by omega); have z1_3 : w.heap.size + 1 + 1 + 1 < w1.heap.size := (by omega); have r1_0 := (hb1.cell (p := ⟨w.heap.size, 0, none⟩) zW_0).trans k_0; have r1_1 := (hb1.cell (p := ⟨w.heap.size, 1, none⟩) zW_0).trans k_1; have r1_2 := (hb1.cell (p := ⟨w.heap.size, 2, none⟩) zW_0).trans k_2; have r1_3 := (hb1.cell (p := ⟨w.heap.size + 1, 0, none⟩) zW_1).trans k_3; have r1_4 := (hb1.cell (p := ⟨w.heap.size + 1, 1, none⟩) zW_1).trans k_4; have r1_5 := (hb1.cell (p := ⟨w.heap.size + 1, 2, none⟩) zW_1).trans k_5; have r1_6 := (hb1.cell (p := ⟨w.heap.size + 1 + 1, 0, none⟩) zW_2).trans k_6; have r1_7 := (hb1.cell (p := ⟨w.heap.size + 1 + 1, 1, none⟩) zW_2).trans k_7; have r1_8 := (hb1.cell (p := ⟨w.heap.size + 1 + 1, 2, none⟩) zW_2).trans k_8; have r1_9 := (hb1.cell (p := ⟨w.heap.size + 1 + 1 + 1, 0, none⟩) zW_3).trans k_9; have r1_10 := (hb1.cell (p := ⟨w.heap.size + 1 + 1 + 1, 1, none⟩) zW_3).trans k_10; have r1_11 := (hb1.cell (p := ⟨w.heap.size + 1 + 1 + 1, 2, none⟩) zW_3).trans k_11)
    | ((with_reducible refine (chkB32 q _).mono ?_); rintro e w2 ⟨rfl, hb2⟩; have hs2 := hb2.size; (try simp at hs2); have z2_0 : w.heap.size < w2.heap.size := (by omega); have z2_1 : w.heap.size + 1 < w2.heap.size := (by omega); have z2_2 : w.heap.size + 1 + 1 < w2.heap.size := (by omega); have z2_3 : w.heap.size + 1 + 1 + 1 < w2.heap.size := (by omega); have r2_0 := (hb2.cell (p := ⟨w.heap.size, 0, none⟩) z1_0).trans r1_0; have r2_1 := (hb2.cell (p := ⟨w.heap.size, 1, none⟩) z1_0).trans r1_1; have r2_2 := (hb2.cell (p := ⟨w.heap.size, 2, none⟩) z1_0).trans r1_2; have r2_3 := (hb2.cell (p := ⟨w.heap.size + 1, 0, none⟩) z1_1).trans r1_3; have r2_4 := (hb2.cell (p := ⟨w.heap.size + 1, 1, none⟩) z1_1).trans r1_4; have r2_5 := (hb2.cell (p := ⟨w.heap.size + 1, 2, none⟩) z1_1).trans r1_5; have r2_6 := (hb2.cell (p := ⟨w.heap.size + 1 + 1, 0, none⟩) z1_2).trans r1_6; have r2_7 := (hb2.cell (p := ⟨w.heap.size + 1 + 1, 1, none⟩) z1_2).trans r1_7; have r2_8 := (hb2.cell (p := ⟨w.heap.size + 1 + 1, 2, none⟩) z1_2).trans r1_8; have r2_9 := (hb2.cell (p := ⟨w.heap.size + 1 + 1 + 1, 0, none⟩) z1_3).trans r1_9; have r2_10 := (hb2.cell (p := ⟨w.heap.size + 1 + 1 + 1, 1, none⟩) z1_3).trans r1_10; have r2_11 := (hb2.cell (p := ⟨w.heap.size + 1 + 1 + 1, 2, none⟩) z1_3).trans r1_11)
    | ((with_reducible refine (chkB34 v _).mono ?_); rintro e w3 ⟨rfl, hb3⟩; have hs3 := hb3.size; (try simp at hs3); have z3_0 : w.heap.size < w3.heap.size := (by omega); have z3_1 : w.heap.size + 1 < w3.heap.size := (by omega); have z3_2 : w.heap.size + 1 + 1 < w3.heap.size := (by omega); have z3_3 : w.heap.size + 1 + 1 + 1 < w3.heap.size := (by omega); have r3_0 := (hb3.cell (p := ⟨w.heap.size, 0, none⟩) z2_0).trans r2_0; have r3_1 := (hb3.cell (p := ⟨w.heap.size, 1, none⟩) z2_0).trans r2_1; have r3_2 := (hb3.cell (p := ⟨w.heap.size, 2, none⟩) z2_0).trans r2_2; have r3_3 := (hb3.cell (p := ⟨w.heap.size + 1, 0, none⟩) z2_1).trans r2_3; have r3_4 := (hb3.cell (p := ⟨w.heap.size + 1, 1, none⟩) z2_1).trans r2_4; have r3_5 := (hb3.cell (p := ⟨w.heap.size + 1, 2, none⟩) z2_1).trans r2_5; have r3_6 := (hb3.cell (p := ⟨w.heap.size + 1 + 1, 0, none⟩) z2_2).trans r2_6; have r3_7 := (hb3.cell (p := ⟨w.heap.size + 1 + 1, 1, none⟩) z2_2).trans r2_7; have r3_8 := (hb3.cell (p := ⟨w.heap.size + 1 + 1, 2, none⟩) z2_2).trans r2_8; have r3_9 := (hb3.cell (p := ⟨w.heap.size + 1 + 1 + 1, 0, none⟩) z2_3).trans r2_9; have r3_10 := (hb3.cell (p := ⟨w.heap.size + 1 + 1 + 1, 1, none⟩) z2_3).trans r2_10; have r3_11 := (hb3.cell (p := ⟨w.heap.size + 1 + 1 + 1, 2, none⟩) z2_3).trans r2_11)
    | ((with_reducible refine (chkB34 u _).mono ?_); rintro e w4 ⟨rfl, hb4⟩; have hs4 := hb4.size; (try simp at hs4); have z4_0 : w.heap.size < w4.heap.size := (by omega); have z4_1 : w.heap.size + 1 < w4.heap.size := (by omega); have z4_2 : w.heap.size + 1 + 1 < w4.heap.size := (by omega); have z4_3 : w.heap.size + 1 + 1 + 1 < w4.heap.size := (by omega); have r4_0 := (hb4.cell (p := ⟨w.heap.size, 0, none⟩) z3_0).trans r3_0; have r4_1 := (hb4.cell (p := ⟨w.heap.size, 1, none⟩) z3_0).trans r3_1; have r4_2 := (hb4.cell (p := ⟨w.heap.size, 2, none⟩) z3_0).trans r3_2; have r4_3 := (hb4.cell (p := ⟨w.heap.size + 1, 0, none⟩) z3_1).trans r3_3; have r4_4 := (hb4.cell (p := ⟨w.heap.size + 1, 1, none⟩) z3_1).trans r3_4; have r4_5 := (hb4.cell (p := ⟨w.heap.size + 1, 2, none⟩) z3_1).trans r3_5; have r4_6 := (hb4.cell (p := ⟨w.heap.size + 1 + 1, 0, none⟩) z3_2).trans r3_6; have r4_7 := (hb4.cell (p := ⟨w.heap.size + 1 + 1, 1, none⟩) z3_2).trans r3_7; have r4_8 := (hb4.cell (p := ⟨w.heap.size + 1 + 1, 2, none⟩) z3_2).trans r3_8; have r4_9 := (hb4.cell (p := ⟨w.heap.size + 1 + 1 + 1, 0, none⟩) z3_3).trans r3_9; have r4_10 := (hb4.cell (p := ⟨w.heap.size + 1 + 1 + 1, 1, none⟩) z3_3).trans r3_10; have r4_11 := (hb4.cell (p := ⟨w.heap.size + 1 + 1 + 1, 2, none⟩) z3_3).trans r3_11))
  go_wp2_with fail
  have B4 : Below w.heap.size w w4 := (((BW.trans (Below.trans (Below.drew (Below.refl w.heap.size W)) (hb1.mono (by show _ ≤ W.heap.size; omega)))).trans (hb2.mono (by omega))).trans (hb3.mono (by omega))).trans (hb4.mono (by omega))
  obtain ⟨X, hX⟩ : ∃ X, X = w4.alloc (.cells #[.int .i64 (ckP p), .int .i64 (ckP q), .int .i64 (ckV v), .int .i64 (ckV u)] 27) := ⟨_, rfl⟩
  have BX : Below w.heap.size w X := by rw [hX]; exact B4.alloc (by omega) _
  have cE : ∀ j, j < 4 → X.cell? ⟨w4.heap.size, j, none⟩ = some (.int .i64 (nth [ckP p, ckP q, ckV v, ckV u] j)) := by rw [hX]; intro j hj; rcases (by omega : j = 0 ∨ j = 1 ∨ j = 2 ∨ j = 3) with rfl | rfl | rfl | rfl <;> simp [World.cell?_alloc_at, nth]
  rw [← hX]
  clear hX
  have HE := Lib.hid cE
  clear cE k_0 r1_0 r2_0 r3_0 r4_0 k_1 r1_1 r2_1 r3_1 r4_1 k_2 r1_2 r2_2 r3_2 r4_2 k_3 r1_3 r2_3 r3_3 r4_3 k_4 r1_4 r2_4 r3_4 r4_4 k_5 r1_5 r2_5 r3_5 r4_5 k_6 r1_6 r2_6 r3_6 r4_6 k_7 r1_7 r2_7 r3_7 r4_7 k_8 r1_8 r2_8 r3_8 r4_8 k_9 r1_9 r2_9 r3_9 r4_9 k_10 r1_10 r2_10 r3_10 r4_10 k_11 r1_11 r2_11 r3_11 r4_11
  go_loop [10] (fun i => ∃ k : Nat, k ≤ 4 ∧ i = .int .i64 k ∧ ∀ j, j < k → nth [ckP p, ckP q, ckV v, ckV u] j = 0) (fun i => 4 - (intOf i).toNat)
  case atStart => exact ⟨0, by omega, rfl, fun j h => absurd h (by omega)⟩
  case round =>
    obtain ⟨k, hk, rfl, hall⟩ := hrel
    have Hall := Lib.hid hall; clear hall
    by_cases hlt : k < 4
    · have hc := HE.out k hlt
      have hlI : (k : Int) < 4 := by omega
      by_cases he : nth [ckP p, ckP q, ckV v, ckV u] k = 0
      · have heb : (nth [ckP p, ckP q, ckV v, ckV u] k != 0) = false := by simp [he]
        have He := Lib.hid he; clear he
        go_wp2_with fail
        refine ⟨⟨k + 1, by omega, by go_num, fun j hj => ?_⟩, by simp [intOf]; omega⟩
        by_cases hjk : j = k
        · rw [hjk]; exact He.out
        · exact Hall.out j (by omega)
      · have heb : (nth [ckP p, ckP q, ckV v, ckV u] k != 0) = true := by simp [he]
        have He := Lib.hid (errs_bad p q v u k hlt he); clear he
        go_wp2_with fail
        go_ret
        exact ⟨ret_int (by rw [He.out.2]; unfold erG; rw [if_neg He.out.1]), BX⟩
    · obtain rfl : k = 4 := by omega
      have hok := errs_ok p q v u Hall.out
      have HO := Lib.hid hok; clear hok
      go_wp2_with fail
      go_ret
      exact ⟨ret_int (by unfold erG; rw [if_pos HO.out]), BX⟩

theorem isN (w : World) (g : Nat) (T : TypeId) (x y z : Int) (h : w.heap[g]? = some (.cells #[.int .i64 x, .int .i64 y, .int .i64 z] T (0, 0))) : Is .i64 w w.heap.size (some ⟨g, 0, none⟩) [x, y, z] := fun _ =>
  ⟨g, 0, rfl, heap_lt h, fun j hj => by
    simp at hj
    rcases (by omega : j = 0 ∨ j = 1 ∨ j = 2) with rfl | rfl | rfl <;> simp [World.cell?, h, nth]⟩
theorem relV {p q : V3} (hp : okP p) (hq : okP q) : IntKind.i64.wrap (95 * (q.x - p.x)) = 95 * (q.x - p.x) ∧ IntKind.i64.wrap (95 * (q.y - p.y)) = 95 * (q.y - p.y) ∧ IntKind.i64.wrap (q.z - p.z) = q.z - p.z ∧ IntKind.i64.wrap (q.x - p.x) = q.x - p.x ∧ IntKind.i64.wrap (q.y - p.y) = q.y - p.y := by
  unfold okP at hp hq
  exact ⟨IntWalk.i64_in _ (by omega), IntWalk.i64_in _ (by omega), IntWalk.i64_in _ (by omega), IntWalk.i64_in _ (by omega), IntWalk.i64_in _ (by omega)⟩
theorem relW {p q : V3} (hp : okV p) (hq : okV q) : IntKind.i64.wrap (95 * (q.x - p.x)) = 95 * (q.x - p.x) ∧ IntKind.i64.wrap (95 * (q.y - p.y)) = 95 * (q.y - p.y) ∧ IntKind.i64.wrap (q.z - p.z) = q.z - p.z ∧ IntKind.i64.wrap (q.x - p.x) = q.x - p.x ∧ IntKind.i64.wrap (q.y - p.y) = q.y - p.y := by
  unfold okV at hp hq
  exact ⟨IntWalk.i64_in _ (by omega), IntWalk.i64_in _ (by omega), IntWalk.i64_in _ (by omega), IntWalk.i64_in _ (by omega), IntWalk.i64_in _ (by omega)⟩

theorem al0 (w : World) (o o' : Obj) : ((w.alloc o).alloc o').heap[w.heap.size]? = some o := (Below.heap_alloc _ _ _ (by simp)).trans (heap_alloc_new _ _)
theorem al1 (w : World) (o o' : Obj) : ((w.alloc o).alloc o').heap[w.heap.size + 1]? = some o' := heap_alloc_at _ _ _ (by simp)

set_option maxHeartbeats 2000000 in
theorem rel37 (p q v u : V3) (w : World) (h : okG p q v u) : Calls Try.prog 37 #[.agg #[.int .i64 p.x, .int .i64 p.y, .int .i64 p.z], .agg #[.int .i64 q.x, .int .i64 q.y, .int .i64 q.z], .agg #[.int .i64 v.x, .int .i64 v.y, .int .i64 v.z], .agg #[.int .i64 u.x, .int .i64 u.y, .int .i64 u.z]] w fun e w' => ∃ A B, e = .returned (.tuple #[.slice A 3 3, .slice B 3 3]) ∧ Is .i64 w' w'.heap.size A [(rp p q).x, (rp p q).y, (rp p q).z] ∧ Is .i64 w' w'.heap.size B [(rv v u).x, (rv v u).y, (rv v u).z] ∧ Below w.heap.size w w' := by
  obtain ⟨h1, h2, h3, h4⟩ := h
  obtain ⟨a1, a2, a3, a4, a5⟩ := relV h1 h2
  obtain ⟨b1, b2, b3, b4, b5⟩ := relW h3 h4
  clear h1 h2 h3 h4
  go_enter Try.func37, Try.ntmps37
  go_wp2_with fail
  obtain ⟨W, hW⟩ : ∃ W, W = ((((w.alloc (.cells #[.int .i64 p.x, .int .i64 p.y, .int .i64 p.z] 23)).alloc (.cells #[.int .i64 q.x, .int .i64 q.y, .int .i64 q.z] 23)).alloc (.cells #[.int .i64 v.x, .int .i64 v.y, .int .i64 v.z] 24)).alloc (.cells #[.int .i64 u.x, .int .i64 u.y, .int .i64 u.z] 24)) := ⟨_, rfl⟩
  have BW : Below w.heap.size w W := by rw [hW]; exact ((((Below.refl _ _).alloc (Nat.le_refl _) _).alloc (by first | omega | (simp; omega) | simp) _).alloc (by first | omega | (simp; omega) | simp) _).alloc (by first | omega | (simp; omega) | simp) _
  have k_0 : W.cell? ⟨w.heap.size, 0, none⟩ = some (.int .i64 p.x) := by rw [hW]; go_simp
  have k_1 : W.cell? ⟨w.heap.size, 1, none⟩ = some (.int .i64 p.y) := by rw [hW]; go_simp
  have k_2 : W.cell? ⟨w.heap.size, 2, none⟩ = some (.int .i64 p.z) := by rw [hW]; go_simp
  have k_3 : W.cell? ⟨w.heap.size + 1, 0, none⟩ = some (.int .i64 q.x) := by rw [hW]; go_simp
  have k_4 : W.cell? ⟨w.heap.size + 1, 1, none⟩ = some (.int .i64 q.y) := by rw [hW]; go_simp
  have k_5 : W.cell? ⟨w.heap.size + 1, 2, none⟩ = some (.int .i64 q.z) := by rw [hW]; go_simp
  have k_6 : W.cell? ⟨w.heap.size + 1 + 1, 0, none⟩ = some (.int .i64 v.x) := by rw [hW]; go_simp
  have k_7 : W.cell? ⟨w.heap.size + 1 + 1, 1, none⟩ = some (.int .i64 v.y) := by rw [hW]; go_simp
  have k_8 : W.cell? ⟨w.heap.size + 1 + 1, 2, none⟩ = some (.int .i64 v.z) := by rw [hW]; go_simp
  have k_9 : W.cell? ⟨w.heap.size + 1 + 1 + 1, 0, none⟩ = some (.int .i64 u.x) := by rw [hW]; go_simp
  have k_10 : W.cell? ⟨w.heap.size + 1 + 1 + 1, 1, none⟩ = some (.int .i64 u.y) := by rw [hW]; go_simp
  have k_11 : W.cell? ⟨w.heap.size + 1 + 1 + 1, 2, none⟩ = some (.int .i64 u.z) := by rw [hW]; go_simp
  have zW_0 : w.heap.size < W.heap.size := by rw [hW]; simp <;> omega
  have zW_1 : w.heap.size + 1 < W.heap.size := by rw [hW]; simp <;> omega
  have zW_2 : w.heap.size + 1 + 1 < W.heap.size := by rw [hW]; simp <;> omega
  have zW_3 : w.heap.size + 1 + 1 + 1 < W.heap.size := by rw [hW]; simp <;> omega
  rw [← hW]
  clear hW
  go_region_held3 (fun w' => w'.cell? ⟨w.heap.size, 0, none⟩ = some (.int .i64 p.x) ∧ w'.cell? ⟨w.heap.size, 1, none⟩ = some (.int .i64 p.y) ∧ w'.cell? ⟨w.heap.size, 2, none⟩ = some (.int .i64 p.z) ∧ w'.cell? ⟨w.heap.size + 1, 0, none⟩ = some (.int .i64 q.x) ∧ w'.cell? ⟨w.heap.size + 1, 1, none⟩ = some (.int .i64 q.y) ∧ w'.cell? ⟨w.heap.size + 1, 2, none⟩ = some (.int .i64 q.z) ∧ w'.cell? ⟨w.heap.size + 1 + 1, 0, none⟩ = some (.int .i64 v.x) ∧ w'.cell? ⟨w.heap.size + 1 + 1, 1, none⟩ = some (.int .i64 v.y) ∧ w'.cell? ⟨w.heap.size + 1 + 1, 2, none⟩ = some (.int .i64 v.z) ∧ w'.cell? ⟨w.heap.size + 1 + 1 + 1, 0, none⟩ = some (.int .i64 u.x) ∧ w'.cell? ⟨w.heap.size + 1 + 1 + 1, 1, none⟩ = some (.int .i64 u.y) ∧ w'.cell? ⟨w.heap.size + 1 + 1 + 1, 2, none⟩ = some (.int .i64 u.z)) (first | exact ⟨k_0, k_1, k_2, k_3, k_4, k_5, k_6, k_7, k_8, k_9, k_10, k_11⟩ | go_keep | (refine ⟨?_, ?_, ?_, ?_, ?_, ?_, ?_, ?_, ?_, ?_, ?_, ?_⟩ <;> go_simp)) (fail)
  all_goals
    go_wp2_with fail
    go_ret2
    exact ⟨_, _, rfl, isN _ _ _ _ _ _ (by first | exact al0 _ _ _ | exact al1 _ _ _), isN _ _ _ _ _ _ (by first | exact al0 _ _ _ | exact al1 _ _ _), ((BW.alloc (by omega) _).alloc (by simp; omega) _).drew⟩

theorem dot38 (A B : Option Addr) (c c' : Nat) (a b : V3) (N M : Nat) (w : World) (hA : Is .i64 w N A [a.x, a.y, a.z]) (hB : Is .i64 w M B [b.x, b.y, b.z]) (ha : sm a) (hb : sm b) : Calls Try.prog 38 #[.slice A 3 c, .slice B 3 c'] w fun e w' => e = .returned (.int .i64 (dot a b)) ∧ ∃ n, w.drewN n = w' := by
  obtain ⟨⟨m1, m2⟩, ⟨m3, m4⟩, m5, m6⟩ := dot_bd a b ha hb
  obtain ⟨g, o, rfl, _, hc⟩ := hA (by simp)
  obtain ⟨g', o', rfl, _, hc'⟩ := hB (by simp)
  have c0 : w.cell? ⟨g, o, none⟩ = some (.int .i64 a.x) := hc 0 (by simp)
  have c1 : w.cell? ⟨g, o + 1, none⟩ = some (.int .i64 a.y) := hc 1 (by simp)
  have c2 : w.cell? ⟨g, o + 2, none⟩ = some (.int .i64 a.z) := hc 2 (by simp)
  have d0 : w.cell? ⟨g', o', none⟩ = some (.int .i64 b.x) := hc' 0 (by simp)
  have d1 : w.cell? ⟨g', o' + 1, none⟩ = some (.int .i64 b.y) := hc' 1 (by simp)
  have d2 : w.cell? ⟨g', o' + 2, none⟩ = some (.int .i64 b.z) := hc' 2 (by simp)
  have q1 : IntKind.i64.wrap (a.x * b.x) = a.x * b.x := IntWalk.i64_in _ (by omega)
  have q2 : IntKind.i64.wrap (a.y * b.y) = a.y * b.y := IntWalk.i64_in _ (by omega)
  have q3 : IntKind.i64.wrap (a.z * b.z) = a.z * b.z := IntWalk.i64_in _ (by omega)
  have q4 : IntKind.i64.wrap (a.x * b.x + a.y * b.y) = a.x * b.x + a.y * b.y := IntWalk.i64_in _ (by omega)
  have q5 : IntKind.i64.wrap (a.x * b.x + a.y * b.y + a.z * b.z) = a.x * b.x + a.y * b.y + a.z * b.z := IntWalk.i64_in _ (by omega)
  clear hc hc' hA hB m1 m2 m3 m4 m5 m6
  go_enter Try.func38, Try.ntmps38
  go_wp2_with fail
  go_quiet (fail)
  go_wp2_with fail
  go_ret
  exact ⟨rfl, nq, rfl⟩
end Go.Proofs.Ytdflamblbhpngaa
