/- Package geometry: of. -/
import Derived.Test.YtdflamblbhpngaaRows
import Derived.WalkKit
import Derived.WalkLawsBesides
import Derived.WalkSpells
import Derived.ProofKit
import Derived.Below
import Derived.Outline
import Derived.Lib.Hide
import Derived.Deep.RegionWith
import Derived.Deep.RegionHeld3
import Derived.Deep.DrawnRows
import Derived.StillTailTactics
import Derived.BigQuiet
import Derived.Deep.QuietTactic
import Derived.Deep.LoopGhost
import Derived.IntWalk
import Derived.Test.YtdflamblbhpngaaGeB
namespace Go.Proofs.Ytdflamblbhpngaa
open Go.RowKit
attribute [local go_sem ↓] Go.wp_at_zero Go.wp_at_succ
attribute [local go_sem] wrap_lit

theorem chkB31 (p : V3) (w : World) : Calls Try.prog 31 #[.agg #[.int .i64 p.x, .int .i64 p.y, .int .i64 p.z]] w fun e w' => e = .returned (.int .i64 (ckP p)) ∧ Below w.heap.size w w' := (check31 p w).mono fun _ _ ⟨h, h'⟩ => ⟨h, by rw [← h']; exact (Below.refl _ _).alloc (Nat.le_refl _) _⟩
theorem chkB33 (p : V3) (w : World) : Calls Try.prog 33 #[.agg #[.int .i64 p.x, .int .i64 p.y, .int .i64 p.z]] w fun e w' => e = .returned (.int .i64 (ckV p)) ∧ Below w.heap.size w w' := (checkV33 p w).mono fun _ _ ⟨h, h'⟩ => ⟨h, by rw [← h']; exact (Below.refl _ _).alloc (Nat.le_refl _) _⟩

theorem dotB (a b : V3) (w : World) (ha : sm a) (hb : sm b) : Calls Try.prog 43 #[.agg #[.int .i64 a.x, .int .i64 a.y, .int .i64 a.z], .agg #[.int .i64 b.x, .int .i64 b.y, .int .i64 b.z]] w fun e w' => e = .returned (.int .i64 (dot a b)) ∧ Below w.heap.size w w' := (dot43 a b w ha hb).mono fun _ _ ⟨h, h'⟩ => ⟨h, by rw [← h']; exact ((Below.refl _ _).alloc (Nat.le_refl _) _).alloc (by simp) _⟩

def okG (p q v u : V3) : Prop := okP p ∧ okP q ∧ okV v ∧ okV u
instance (p q v u : V3) : Decidable (okG p q v u) := by unfold okG; infer_instance
def mc (ok : Prop) [Decidable ok] (z : Int) : Int := if ok then z else 0
/-- Relative position and velocity. -/
def rp (p q : V3) : V3 := ⟨95 * (q.x - p.x), 95 * (q.y - p.y), q.z - p.z⟩
def rv (v u : V3) : V3 := ⟨95 * (u.x - v.x), 95 * (u.y - v.y), u.z - v.z⟩
def erG (p q v u : V3) : Int := if okG p q v u then 0 else 1
theorem sm_rp (p q : V3) (hp : okP p) (hq : okP q) : sm (rp p q) := by
  unfold okP at hp hq; unfold sm rp; dsimp only; omega
theorem sm_rv (v u : V3) (hv : okV v) (hu : okV u) : sm (rv v u) := by
  unfold okV at hv hu; unfold sm rv; dsimp only; omega

theorem heap_alloc_at (w : World) (o : Obj) (n : Nat) (h : n = w.heap.size) : (w.alloc o).heap[n]? = some o := by subst h; exact heap_alloc_new w o

set_option maxHeartbeats 4000000 in
theorem of35 (p q v u : V3) (w : World) : Calls Try.prog 35 #[.agg #[.int .i64 p.x, .int .i64 p.y, .int .i64 p.z], .agg #[.int .i64 q.x, .int .i64 q.y, .int .i64 q.z], .agg #[.int .i64 v.x, .int .i64 v.y, .int .i64 v.z], .agg #[.int .i64 u.x, .int .i64 u.y, .int .i64 u.z]] w fun e w' => e = .returned (.tuple #[.agg #[.int .i64 (mc (okG p q v u) (rp p q).x), .int .i64 (mc (okG p q v u) (rp p q).y), .int .i64 (mc (okG p q v u) (rp p q).z), .int .i64 (mc (okG p q v u) (rv v u).x), .int .i64 (mc (okG p q v u) (rv v u).y), .int .i64 (mc (okG p q v u) (rv v u).z), .int .i64 (mc (okG p q v u) (dot (rp p q) (rp p q))), .int .i64 (mc (okG p q v u) (dot (rp p q) (rv v u))), .int .i64 (mc (okG p q v u) (dot (rv v u) (rv v u)))], .int .i64 (erG p q v u)]) ∧ Below w.heap.size w w' := by
  go_enter Try.func35, Try.ntmps35
  go_wp2_with fail
  obtain ⟨W, hW⟩ : ∃ W, W = ((((w.alloc (.cells #[.int .i64 p.x, .int .i64 p.y, .int .i64 p.z] 23)).alloc (.cells #[.int .i64 q.x, .int .i64 q.y, .int .i64 q.z] 23)).alloc (.cells #[.int .i64 v.x, .int .i64 v.y, .int .i64 v.z] 24)).alloc (.cells #[.int .i64 u.x, .int .i64 u.y, .int .i64 u.z] 24)).alloc (.cells #[.int .i64 0, .int .i64 0, .int .i64 0, .int .i64 0, .int .i64 0, .int .i64 0, .int .i64 0, .int .i64 0, .int .i64 0] 57) := ⟨_, rfl⟩
  have BW : Below w.heap.size w W := by rw [hW]; exact (((((Below.refl _ _).alloc (Nat.le_refl _) _).alloc (by simp) _).alloc (by simp; omega) _).alloc (by simp; omega) _).alloc (by simp; omega) _
  have k0_0 : W.cell? ⟨w.heap.size, 0, none⟩ = some (.int .i64 p.x) := by rw [hW]; go_simp
  have k0_1 : W.cell? ⟨w.heap.size, 1, none⟩ = some (.int .i64 p.y) := by rw [hW]; go_simp
  have k0_2 : W.cell? ⟨w.heap.size, 2, none⟩ = some (.int .i64 p.z) := by rw [hW]; go_simp
  have k1_0 : W.cell? ⟨w.heap.size + 1, 0, none⟩ = some (.int .i64 q.x) := by rw [hW]; go_simp
  have k1_1 : W.cell? ⟨w.heap.size + 1, 1, none⟩ = some (.int .i64 q.y) := by rw [hW]; go_simp
  have k1_2 : W.cell? ⟨w.heap.size + 1, 2, none⟩ = some (.int .i64 q.z) := by rw [hW]; go_simp
  have k2_0 : W.cell? ⟨w.heap.size + 1 + 1, 0, none⟩ = some (.int .i64 v.x) := by rw [hW]; go_simp
  have k2_1 : W.cell? ⟨w.heap.size + 1 + 1, 1, none⟩ = some (.int .i64 v.y) := by rw [hW]; go_simp
  have k2_2 : W.cell? ⟨w.heap.size + 1 + 1, 2, none⟩ = some (.int .i64 v.z) := by rw [hW]; go_simp
  have k3_0 : W.cell? ⟨w.heap.size + 1 + 1 + 1, 0, none⟩ = some (.int .i64 u.x) := by rw [hW]; go_simp
  have k3_1 : W.cell? ⟨w.heap.size + 1 + 1 + 1, 1, none⟩ = some (.int .i64 u.y) := by rw [hW]; go_simp
  have k3_2 : W.cell? ⟨w.heap.size + 1 + 1 + 1, 2, none⟩ = some (.int .i64 u.z) := by rw [hW]; go_simp
  have km : W.heap[w.heap.size + 1 + 1 + 1 + 1]? = some (.cells #[.int .i64 0, .int .i64 0, .int .i64 0, .int .i64 0, .int .i64 0, .int .i64 0, .int .i64 0, .int .i64 0, .int .i64 0] 57 (0, 0)) := by rw [hW]; exact heap_alloc_at _ _ _ (by simp)
  have zW : W.heap.size = w.heap.size + 1 + 1 + 1 + 1 + 1 := by rw [hW]; simp
  have z4 : w.heap.size + 1 + 1 + 1 + 1 < W.heap.size := by omega
  have z3 : w.heap.size + 1 + 1 + 1 < W.heap.size := by omega
  have z2 : w.heap.size + 1 + 1 < W.heap.size := by omega
  have z1 : w.heap.size + 1 < W.heap.size := by omega
  have z0 : w.heap.size < W.heap.size := by omega
  rw [← hW]
  clear hW zW
  go_region_held3 (fun w' => w'.cell? ⟨w.heap.size, 0, none⟩ = some (.int .i64 p.x) ∧ w'.cell? ⟨w.heap.size, 1, none⟩ = some (.int .i64 p.y) ∧ w'.cell? ⟨w.heap.size, 2, none⟩ = some (.int .i64 p.z) ∧ w'.cell? ⟨w.heap.size + 1, 0, none⟩ = some (.int .i64 q.x) ∧ w'.cell? ⟨w.heap.size + 1, 1, none⟩ = some (.int .i64 q.y) ∧ w'.cell? ⟨w.heap.size + 1, 2, none⟩ = some (.int .i64 q.z) ∧ w'.cell? ⟨w.heap.size + 1 + 1, 0, none⟩ = some (.int .i64 v.x) ∧ w'.cell? ⟨w.heap.size + 1 + 1, 1, none⟩ = some (.int .i64 v.y) ∧ w'.cell? ⟨w.heap.size + 1 + 1, 2, none⟩ = some (.int .i64 v.z) ∧ w'.cell? ⟨w.heap.size + 1 + 1 + 1, 0, none⟩ = some (.int .i64 u.x) ∧ w'.cell? ⟨w.heap.size + 1 + 1 + 1, 1, none⟩ = some (.int .i64 u.y) ∧ w'.cell? ⟨w.heap.size + 1 + 1 + 1, 2, none⟩ = some (.int .i64 u.z)) (first | go_keep | (refine ⟨?_, ?_, ?_, ?_, ?_, ?_, ?_, ?_, ?_, ?_, ?_, ?_⟩ <;> first | (rw [hc4 _ _ (by first | omega | (show _ < W.heap.size; omega))]; assumption) | (rw [hc3 _ _ (by first | omega | (show _ < W.heap.size; omega))]; assumption) | (rw [hc2 _ _ (by first | omega | (show _ < W.heap.size; omega))]; assumption) | (rw [hc1 _ _ (by first | omega | (show _ < W.heap.size; omega))]; assumption))) (first
    | ((with_reducible refine (chkB31 p _).mono ?_); rintro e w1 ⟨rfl, hb1⟩; have hc1 := (bcell hb1).1; have hs1 := hb1.size; (try simp at hs1); rename_i hq _ _; (try clear s0 s1 s2 s3 s4 s5 s6 s7 s8 s9 s10 s11); obtain ⟨s0, s1, s2, s3, s4, s5, s6, s7, s8, s9, s10, s11⟩ := hq)
    | ((with_reducible refine (chkB31 q _).mono ?_); rintro e w2 ⟨rfl, hb2⟩; have hc2 := (bcell hb2).1; have hs2 := hb2.size; (try simp at hs2); rename_i hq _ _; (try clear s0 s1 s2 s3 s4 s5 s6 s7 s8 s9 s10 s11); obtain ⟨s0, s1, s2, s3, s4, s5, s6, s7, s8, s9, s10, s11⟩ := hq)
    | ((with_reducible refine (chkB33 v _).mono ?_); rintro e w3 ⟨rfl, hb3⟩; have hc3 := (bcell hb3).1; have hs3 := hb3.size; (try simp at hs3); rename_i hq _ _; (try clear s0 s1 s2 s3 s4 s5 s6 s7 s8 s9 s10 s11); obtain ⟨s0, s1, s2, s3, s4, s5, s6, s7, s8, s9, s10, s11⟩ := hq)
    | ((with_reducible refine (chkB33 u _).mono ?_); rintro e w4 ⟨rfl, hb4⟩; have hc4 := (bcell hb4).1; have hs4 := hb4.size; (try simp at hs4); rename_i hq _ _; (try clear s0 s1 s2 s3 s4 s5 s6 s7 s8 s9 s10 s11); obtain ⟨s0, s1, s2, s3, s4, s5, s6, s7, s8, s9, s10, s11⟩ := hq))
  go_wp2_with fail
  obtain ⟨X, hX⟩ : ∃ X, X = w4.alloc (.cells #[.int .i64 (ckP p), .int .i64 (ckP q), .int .i64 (ckV v), .int .i64 (ckV u)] 27) := ⟨_, rfl⟩
  have hX4 : Below w4.heap.size w4 X := by rw [hX]; exact (Below.refl _ _).alloc (Nat.le_refl _) _
  have hs1 : W.heap.size ≤ w1.heap.size := hb1.size
  have hs2 := hb2.size
  have hs3 := hb3.size
  have hs4 := hb4.size
  have hb1' : Below W.heap.size W w1 := Below.trans (Below.drew (Below.refl W.heap.size W)) hb1
  have BX : Below W.heap.size W X := ((hb1'.trans (hb2.mono hs1)).trans (hb3.mono (by omega))).trans ((hb4.mono (by omega)).trans (hX4.mono (by omega)))
  have BwX : Below w.heap.size w X := BW.trans (BX.mono (by omega))
  have zX : w4.heap.size + 1 = X.heap.size := by rw [hX]; simp
  have x0_0 : X.cell? ⟨w.heap.size, 0, none⟩ = some (.int .i64 p.x) := (BX.cell (p := ⟨w.heap.size, 0, none⟩) z0).trans k0_0
  have x0_1 : X.cell? ⟨w.heap.size, 1, none⟩ = some (.int .i64 p.y) := (BX.cell (p := ⟨w.heap.size, 1, none⟩) z0).trans k0_1
  have x0_2 : X.cell? ⟨w.heap.size, 2, none⟩ = some (.int .i64 p.z) := (BX.cell (p := ⟨w.heap.size, 2, none⟩) z0).trans k0_2
  have x1_0 : X.cell? ⟨w.heap.size + 1, 0, none⟩ = some (.int .i64 q.x) := (BX.cell (p := ⟨w.heap.size + 1, 0, none⟩) z1).trans k1_0
  have x1_1 : X.cell? ⟨w.heap.size + 1, 1, none⟩ = some (.int .i64 q.y) := (BX.cell (p := ⟨w.heap.size + 1, 1, none⟩) z1).trans k1_1
  have x1_2 : X.cell? ⟨w.heap.size + 1, 2, none⟩ = some (.int .i64 q.z) := (BX.cell (p := ⟨w.heap.size + 1, 2, none⟩) z1).trans k1_2
  have x2_0 : X.cell? ⟨w.heap.size + 1 + 1, 0, none⟩ = some (.int .i64 v.x) := (BX.cell (p := ⟨w.heap.size + 1 + 1, 0, none⟩) z2).trans k2_0
  have x2_1 : X.cell? ⟨w.heap.size + 1 + 1, 1, none⟩ = some (.int .i64 v.y) := (BX.cell (p := ⟨w.heap.size + 1 + 1, 1, none⟩) z2).trans k2_1
  have x2_2 : X.cell? ⟨w.heap.size + 1 + 1, 2, none⟩ = some (.int .i64 v.z) := (BX.cell (p := ⟨w.heap.size + 1 + 1, 2, none⟩) z2).trans k2_2
  have x3_0 : X.cell? ⟨w.heap.size + 1 + 1 + 1, 0, none⟩ = some (.int .i64 u.x) := (BX.cell (p := ⟨w.heap.size + 1 + 1 + 1, 0, none⟩) z3).trans k3_0
  have x3_1 : X.cell? ⟨w.heap.size + 1 + 1 + 1, 1, none⟩ = some (.int .i64 u.y) := (BX.cell (p := ⟨w.heap.size + 1 + 1 + 1, 1, none⟩) z3).trans k3_1
  have x3_2 : X.cell? ⟨w.heap.size + 1 + 1 + 1, 2, none⟩ = some (.int .i64 u.z) := (BX.cell (p := ⟨w.heap.size + 1 + 1 + 1, 2, none⟩) z3).trans k3_2
  have kX := (BX.block _ z4).trans km
  have kE : X.heap[w4.heap.size]? = some (.cells #[.int .i64 (ckP p), .int .i64 (ckP q), .int .i64 (ckV v), .int .i64 (ckV u)] 27 (0, 0)) := by rw [hX]; exact heap_alloc_new _ _
  rw [← hX]
  have zX4 : w.heap.size + 1 + 1 + 1 + 1 < X.heap.size := by omega
  clear  k0_0 k0_1 k0_2 k1_0 k1_1 k1_2 k2_0 k2_1 k2_2 k3_0 k3_1 k3_2
  clear hX hX4 hb1' hb1 hb2 hb3 hb4 hs1 hs2 hs3 hs4 hc1 hc2 hc3 hc4 s0 s1 s2 s3 s4 s5 s6 s7 s8 s9 s10 s11 zX BX
  have cE : ∀ j, j < 4 → X.cell? ⟨w4.heap.size, j, none⟩ = some (.int .i64 (nth [ckP p, ckP q, ckV v, ckV u] j)) := fun j hj => by
    rcases (by omega : j = 0 ∨ j = 1 ∨ j = 2 ∨ j = 3) with rfl | rfl | rfl | rfl <;> simp [World.cell?, kE, nth]
  have m0 : X.cell? ⟨w.heap.size + 1 + 1 + 1 + 1, 0, none⟩ = some (.int .i64 0) := by simp [World.cell?, kX]
  have f0 : X.frozen? ⟨w.heap.size + 1 + 1 + 1 + 1, 0, none⟩ = false := by simp [World.frozen?, kX]
  have m1 : X.cell? ⟨w.heap.size + 1 + 1 + 1 + 1, 1, none⟩ = some (.int .i64 0) := by simp [World.cell?, kX]
  have f1 : X.frozen? ⟨w.heap.size + 1 + 1 + 1 + 1, 1, none⟩ = false := by simp [World.frozen?, kX]
  have m2 : X.cell? ⟨w.heap.size + 1 + 1 + 1 + 1, 2, none⟩ = some (.int .i64 0) := by simp [World.cell?, kX]
  have f2 : X.frozen? ⟨w.heap.size + 1 + 1 + 1 + 1, 2, none⟩ = false := by simp [World.frozen?, kX]
  have m3 : X.cell? ⟨w.heap.size + 1 + 1 + 1 + 1, 3, none⟩ = some (.int .i64 0) := by simp [World.cell?, kX]
  have f3 : X.frozen? ⟨w.heap.size + 1 + 1 + 1 + 1, 3, none⟩ = false := by simp [World.frozen?, kX]
  have m4 : X.cell? ⟨w.heap.size + 1 + 1 + 1 + 1, 4, none⟩ = some (.int .i64 0) := by simp [World.cell?, kX]
  have f4 : X.frozen? ⟨w.heap.size + 1 + 1 + 1 + 1, 4, none⟩ = false := by simp [World.frozen?, kX]
  have m5 : X.cell? ⟨w.heap.size + 1 + 1 + 1 + 1, 5, none⟩ = some (.int .i64 0) := by simp [World.cell?, kX]
  have f5 : X.frozen? ⟨w.heap.size + 1 + 1 + 1 + 1, 5, none⟩ = false := by simp [World.frozen?, kX]
  have m6 : X.cell? ⟨w.heap.size + 1 + 1 + 1 + 1, 6, none⟩ = some (.int .i64 0) := by simp [World.cell?, kX]
  have f6 : X.frozen? ⟨w.heap.size + 1 + 1 + 1 + 1, 6, none⟩ = false := by simp [World.frozen?, kX]
  have m7 : X.cell? ⟨w.heap.size + 1 + 1 + 1 + 1, 7, none⟩ = some (.int .i64 0) := by simp [World.cell?, kX]
  have f7 : X.frozen? ⟨w.heap.size + 1 + 1 + 1 + 1, 7, none⟩ = false := by simp [World.frozen?, kX]
  have m8 : X.cell? ⟨w.heap.size + 1 + 1 + 1 + 1, 8, none⟩ = some (.int .i64 0) := by simp [World.cell?, kX]
  have f8 : X.frozen? ⟨w.heap.size + 1 + 1 + 1 + 1, 8, none⟩ = false := by simp [World.frozen?, kX]
  have HX := Lib.hid kX
  have HE := Lib.hid cE
  clear kX kE cE
  go_loop [22] (fun i => ∃ k : Nat, k ≤ 4 ∧ i = .int .i64 k ∧ ∀ j, j < k → nth [ckP p, ckP q, ckV v, ckV u] j = 0) (fun i => 4 - (intOf i).toNat)
  case atStart => exact ⟨0, by omega, rfl, fun j h => absurd h (by omega)⟩
  case round =>
    obtain ⟨k, hk, rfl, hall⟩ := hrel
    have Hall := Lib.hid hall; clear hall
    by_cases hlt : k < 4
    · have hc := HE.out k hlt
      have hlI : (k : Int) < 4 := by omega
      by_cases he : nth [ckP p, ckP q, ckV v, ckV u] k = 0
      · have heb : (nth [ckP p, ckP q, ckV v, ckV u] k != 0) = false := by simp [he]
        have He := Lib.hid he; clear he
        go_wp2_with fail
        refine ⟨⟨k + 1, by omega, by go_num, fun j hj => ?_⟩, by simp [intOf]; omega⟩
        by_cases hjk : j = k
        · rw [hjk]; exact He.out
        · exact Hall.out j (by omega)
      · have heb : (nth [ckP p, ckP q, ckV v, ckV u] k != 0) = true := by simp [he]
        have He := Lib.hid he; clear he
        have hbad : ¬ okG p q v u := fun h => by
          obtain ⟨o1, o2, o3, o4⟩ := h
          rcases (by omega : k = 0 ∨ k = 1 ∨ k = 2 ∨ k = 3) with rfl | rfl | rfl | rfl
          · exact He.out (by simp [nth, ckP, o1])
          · exact He.out (by simp [nth, ckP, o2])
          · exact He.out (by simp [nth, ckV, o3])
          · exact He.out (by simp [nth, ckV, o4])
        have hone : nth [ckP p, ckP q, ckV v, ckV u] k = 1 := by
          have h := He.out
          rcases (by omega : k = 0 ∨ k = 1 ∨ k = 2 ∨ k = 3) with rfl | rfl | rfl | rfl
          · simp [nth, ckP] at h ⊢; exact h
          · simp [nth, ckP] at h ⊢; exact h
          · simp [nth, ckV] at h ⊢; exact h
          · simp [nth, ckV] at h ⊢; exact h
        have hm : w.heap.size ≤ w.heap.size + 1 + 1 + 1 + 1 := by omega
        have HB := Lib.hid hbad
        have HO := Lib.hid hone
        clear hbad hone
        go_wp2_with fail
        refine bodyPost_ret (v := .tuple #[.agg #[.int .i64 0, .int .i64 0, .int .i64 0, .int .i64 0, .int .i64 0, .int .i64 0, .int .i64 0, .int .i64 0, .int .i64 0], .int .i64 (nth [ckP p, ckP q, ckV v, ckV u] k)]) (by simp [results, Try.results35, go_sem, m0, m1, m2, m3, m4, m5, m6, m7, m8]) rfl ⟨?_, (((((((((BwX.setCell (p := ⟨_, 0, none⟩) hm _).setCell (p := ⟨_, 1, none⟩) hm _).setCell (p := ⟨_, 2, none⟩) hm _).setCell (p := ⟨_, 3, none⟩) hm _).setCell (p := ⟨_, 4, none⟩) hm _).setCell (p := ⟨_, 5, none⟩) hm _).setCell (p := ⟨_, 6, none⟩) hm _).setCell (p := ⟨_, 7, none⟩) hm _).setCell (p := ⟨_, 8, none⟩) hm _)⟩
        rw [HO.out]
        simp [mc, HB.out, erG]
    · obtain rfl : k = 4 := by omega
      have hok : okG p q v u := by
        have e0 := Hall.out 0 (by omega)
        have e1 := Hall.out 1 (by omega)
        have e2 := Hall.out 2 (by omega)
        have e3 := Hall.out 3 (by omega)
        refine ⟨?_, ?_, ?_, ?_⟩ <;> (apply Decidable.byContradiction; intro hn; first | (simp [nth, ckP, hn] at e0; done) | (simp [nth, ckP, hn] at e1; done) | (simp [nth, ckV, hn] at e2; done) | (simp [nth, ckV, hn] at e3; done))
      have HK := Lib.hid hok
      obtain ⟨⟨o1, o2, o3, o4, o5, o6⟩, ⟨o7, o8, o9, o10, o11, o12⟩, ⟨o13, o14, o15, o16, o17, o18⟩, o19, o20, o21, o22, o23, o24⟩ := hok
      have hp : okP p := HK.out.1
      have hq : okP q := HK.out.2.1
      have hv : okV v := HK.out.2.2.1
      have hu : okV u := HK.out.2.2.2
      have D1 : ∀ w, Calls Try.prog 43 #[.agg #[.int .i64 (95 * (q.x - p.x)), .int .i64 (95 * (q.y - p.y)), .int .i64 (q.z - p.z)], .agg #[.int .i64 (95 * (q.x - p.x)), .int .i64 (95 * (q.y - p.y)), .int .i64 (q.z - p.z)]] w fun e w' => e = .returned (.int .i64 (dot (rp p q) (rp p q))) ∧ Below w.heap.size w w' := fun w => dotB (rp p q) (rp p q) w (sm_rp p q hp hq) (sm_rp p q hp hq)
      have D2 : ∀ w, Calls Try.prog 43 #[.agg #[.int .i64 (95 * (q.x - p.x)), .int .i64 (95 * (q.y - p.y)), .int .i64 (q.z - p.z)], .agg #[.int .i64 (95 * (u.x - v.x)), .int .i64 (95 * (u.y - v.y)), .int .i64 (u.z - v.z)]] w fun e w' => e = .returned (.int .i64 (dot (rp p q) (rv v u))) ∧ Below w.heap.size w w' := fun w => dotB (rp p q) (rv v u) w (sm_rp p q hp hq) (sm_rv v u hv hu)
      have D3 : ∀ w, Calls Try.prog 43 #[.agg #[.int .i64 (95 * (u.x - v.x)), .int .i64 (95 * (u.y - v.y)), .int .i64 (u.z - v.z)], .agg #[.int .i64 (95 * (u.x - v.x)), .int .i64 (95 * (u.y - v.y)), .int .i64 (u.z - v.z)]] w fun e w' => e = .returned (.int .i64 (dot (rv v u) (rv v u))) ∧ Below w.heap.size w w' := fun w => dotB (rv v u) (rv v u) w (sm_rv v u hv hu) (sm_rv v u hv hu)
      have T1 := Lib.hid D1
      have T2 := Lib.hid D2
      have T3 := Lib.hid D3
      clear D1 D2 D3 hp hq hv hu
      go_wp2_with fail
      have hm : w.heap.size ≤ w.heap.size + 1 + 1 + 1 + 1 := by omega
      obtain ⟨Y, hY⟩ : ∃ Y, Y = ((((((X.setCell ⟨w.heap.size + 1 + 1 + 1 + 1, 0, none⟩ (.int .i64 (95 * (q.x - p.x)))).setCell ⟨w.heap.size + 1 + 1 + 1 + 1, 1, none⟩ (.int .i64 (95 * (q.y - p.y)))).setCell ⟨w.heap.size + 1 + 1 + 1 + 1, 2, none⟩ (.int .i64 (q.z - p.z))).setCell ⟨w.heap.size + 1 + 1 + 1 + 1, 3, none⟩ (.int .i64 (95 * (u.x - v.x)))).setCell ⟨w.heap.size + 1 + 1 + 1 + 1, 4, none⟩ (.int .i64 (95 * (u.y - v.y)))).setCell ⟨w.heap.size + 1 + 1 + 1 + 1, 5, none⟩ (.int .i64 (u.z - v.z))) := ⟨_, rfl⟩
      have BY : Below w.heap.size w Y := by rw [hY]; exact ((((((BwX.setCell (p := ⟨_, 0, none⟩) hm _).setCell (p := ⟨_, 1, none⟩) hm _).setCell (p := ⟨_, 2, none⟩) hm _).setCell (p := ⟨_, 3, none⟩) hm _).setCell (p := ⟨_, 4, none⟩) hm _).setCell (p := ⟨_, 5, none⟩) hm _)
      have zzY : w.heap.size + 1 + 1 + 1 + 1 < Y.heap.size := by rw [hY]; simpa [World.setCell] using zX4
      have y0 : Y.cell? ⟨w.heap.size + 1 + 1 + 1 + 1, 0, none⟩ = some (.int .i64 (95 * (q.x - p.x))) := by rw [hY]; go_simp
      have y1 : Y.cell? ⟨w.heap.size + 1 + 1 + 1 + 1, 1, none⟩ = some (.int .i64 (95 * (q.y - p.y))) := by rw [hY]; go_simp
      have y2 : Y.cell? ⟨w.heap.size + 1 + 1 + 1 + 1, 2, none⟩ = some (.int .i64 (q.z - p.z)) := by rw [hY]; go_simp
      have y3 : Y.cell? ⟨w.heap.size + 1 + 1 + 1 + 1, 3, none⟩ = some (.int .i64 (95 * (u.x - v.x))) := by rw [hY]; go_simp
      have y4 : Y.cell? ⟨w.heap.size + 1 + 1 + 1 + 1, 4, none⟩ = some (.int .i64 (95 * (u.y - v.y))) := by rw [hY]; go_simp
      have y5 : Y.cell? ⟨w.heap.size + 1 + 1 + 1 + 1, 5, none⟩ = some (.int .i64 (u.z - v.z)) := by rw [hY]; go_simp
      have y6 : Y.cell? ⟨w.heap.size + 1 + 1 + 1 + 1, 6, none⟩ = some (.int .i64 (0)) := by rw [hY]; go_simp
      have y7 : Y.cell? ⟨w.heap.size + 1 + 1 + 1 + 1, 7, none⟩ = some (.int .i64 (0)) := by rw [hY]; go_simp
      have y8 : Y.cell? ⟨w.heap.size + 1 + 1 + 1 + 1, 8, none⟩ = some (.int .i64 (0)) := by rw [hY]; go_simp
      have yf0 : Y.frozen? ⟨w.heap.size + 1 + 1 + 1 + 1, 0, none⟩ = false := by rw [hY]; go_simp
      have yf1 : Y.frozen? ⟨w.heap.size + 1 + 1 + 1 + 1, 1, none⟩ = false := by rw [hY]; go_simp
      have yf2 : Y.frozen? ⟨w.heap.size + 1 + 1 + 1 + 1, 2, none⟩ = false := by rw [hY]; go_simp
      have yf3 : Y.frozen? ⟨w.heap.size + 1 + 1 + 1 + 1, 3, none⟩ = false := by rw [hY]; go_simp
      have yf4 : Y.frozen? ⟨w.heap.size + 1 + 1 + 1 + 1, 4, none⟩ = false := by rw [hY]; go_simp
      have yf5 : Y.frozen? ⟨w.heap.size + 1 + 1 + 1 + 1, 5, none⟩ = false := by rw [hY]; go_simp
      have yf6 : Y.frozen? ⟨w.heap.size + 1 + 1 + 1 + 1, 6, none⟩ = false := by rw [hY]; go_simp
      have yf7 : Y.frozen? ⟨w.heap.size + 1 + 1 + 1 + 1, 7, none⟩ = false := by rw [hY]; go_simp
      have yf8 : Y.frozen? ⟨w.heap.size + 1 + 1 + 1 + 1, 8, none⟩ = false := by rw [hY]; go_simp
      rw [← hY]
      clear hY
      go_region_held3 (fun w' => w'.cell? ⟨w.heap.size + 1 + 1 + 1 + 1, 0, none⟩ = some (.int .i64 (95 * (q.x - p.x))) ∧ w'.cell? ⟨w.heap.size + 1 + 1 + 1 + 1, 1, none⟩ = some (.int .i64 (95 * (q.y - p.y))) ∧ w'.cell? ⟨w.heap.size + 1 + 1 + 1 + 1, 2, none⟩ = some (.int .i64 (q.z - p.z)) ∧ w'.cell? ⟨w.heap.size + 1 + 1 + 1 + 1, 3, none⟩ = some (.int .i64 (95 * (u.x - v.x))) ∧ w'.cell? ⟨w.heap.size + 1 + 1 + 1 + 1, 4, none⟩ = some (.int .i64 (95 * (u.y - v.y))) ∧ w'.cell? ⟨w.heap.size + 1 + 1 + 1 + 1, 5, none⟩ = some (.int .i64 (u.z - v.z))) (first | exact ⟨y0, y1, y2, y3, y4, y5⟩ | exact ⟨r3_0, r3_1, r3_2, r3_3, r3_4, r3_5⟩ | exact ⟨r2_0, r2_1, r2_2, r2_3, r2_4, r2_5⟩ | exact ⟨r1_0, r1_1, r1_2, r1_3, r1_4, r1_5⟩ | go_keep | (refine ⟨?_, ?_, ?_, ?_, ?_, ?_⟩ <;> go_simp)) (first
        | ((with_reducible refine (T1.out _).mono ?_); rintro e w1 ⟨rfl, hb1⟩; have hs1 := hb1.size; (try simp at hs1); have zz1 : w.heap.size + 1 + 1 + 1 + 1 < w1.heap.size := (by omega); have r1_0 := (hb1.cell (p := ⟨w.heap.size + 1 + 1 + 1 + 1, 0, none⟩) zzY).trans y0; have r1_1 := (hb1.cell (p := ⟨w.heap.size + 1 + 1 + 1 + 1, 1, none⟩) zzY).trans y1; have r1_2 := (hb1.cell (p := ⟨w.heap.size + 1 + 1 + 1 + 1, 2, none⟩) zzY).trans y2; have r1_3 := (hb1.cell (p := ⟨w.heap.size + 1 + 1 + 1 + 1, 3, none⟩) zzY).trans y3; have r1_4 := (hb1.cell (p := ⟨w.heap.size + 1 + 1 + 1 + 1, 4, none⟩) zzY).trans y4; have r1_5 := (hb1.cell (p := ⟨w.heap.size + 1 + 1 + 1 + 1, 5, none⟩) zzY).trans y5; have r1_6 := (hb1.cell (p := ⟨w.heap.size + 1 + 1 + 1 + 1, 6, none⟩) zzY).trans y6; have r1_7 := (hb1.cell (p := ⟨w.heap.size + 1 + 1 + 1 + 1, 7, none⟩) zzY).trans y7; have r1_8 := (hb1.cell (p := ⟨w.heap.size + 1 + 1 + 1 + 1, 8, none⟩) zzY).trans y8; have g1_6 := (hb1.frozen (p := ⟨w.heap.size + 1 + 1 + 1 + 1, 6, none⟩) zzY).trans yf6; have g1_7 := (hb1.frozen (p := ⟨w.heap.size + 1 + 1 + 1 + 1, 7, none⟩) zzY).trans yf7; have g1_8 := (hb1.frozen (p := ⟨w.heap.size + 1 + 1 + 1 + 1, 8, none⟩) zzY).trans yf8)
        | ((with_reducible refine (T2.out _).mono ?_); rintro e w2 ⟨rfl, hb2⟩; have hs2 := hb2.size; (try simp at hs2); have zz2 : w.heap.size + 1 + 1 + 1 + 1 < w2.heap.size := (by omega); have r2_0 := (hb2.cell (p := ⟨w.heap.size + 1 + 1 + 1 + 1, 0, none⟩) zz1).trans r1_0; have r2_1 := (hb2.cell (p := ⟨w.heap.size + 1 + 1 + 1 + 1, 1, none⟩) zz1).trans r1_1; have r2_2 := (hb2.cell (p := ⟨w.heap.size + 1 + 1 + 1 + 1, 2, none⟩) zz1).trans r1_2; have r2_3 := (hb2.cell (p := ⟨w.heap.size + 1 + 1 + 1 + 1, 3, none⟩) zz1).trans r1_3; have r2_4 := (hb2.cell (p := ⟨w.heap.size + 1 + 1 + 1 + 1, 4, none⟩) zz1).trans r1_4; have r2_5 := (hb2.cell (p := ⟨w.heap.size + 1 + 1 + 1 + 1, 5, none⟩) zz1).trans r1_5; have r2_6 := (hb2.cell (p := ⟨w.heap.size + 1 + 1 + 1 + 1, 6, none⟩) zz1).trans r1_6; have r2_7 := (hb2.cell (p := ⟨w.heap.size + 1 + 1 + 1 + 1, 7, none⟩) zz1).trans r1_7; have r2_8 := (hb2.cell (p := ⟨w.heap.size + 1 + 1 + 1 + 1, 8, none⟩) zz1).trans r1_8; have g2_6 := (hb2.frozen (p := ⟨w.heap.size + 1 + 1 + 1 + 1, 6, none⟩) zz1).trans g1_6; have g2_7 := (hb2.frozen (p := ⟨w.heap.size + 1 + 1 + 1 + 1, 7, none⟩) zz1).trans g1_7; have g2_8 := (hb2.frozen (p := ⟨w.heap.size + 1 + 1 + 1 + 1, 8, none⟩) zz1).trans g1_8)
        | ((with_reducible refine (T3.out _).mono ?_); rintro e w3 ⟨rfl, hb3⟩; have hs3 := hb3.size; (try simp at hs3); have zz3 : w.heap.size + 1 + 1 + 1 + 1 < w3.heap.size := (by omega); have r3_0 := (hb3.cell (p := ⟨w.heap.size + 1 + 1 + 1 + 1, 0, none⟩) zz2).trans r2_0; have r3_1 := (hb3.cell (p := ⟨w.heap.size + 1 + 1 + 1 + 1, 1, none⟩) zz2).trans r2_1; have r3_2 := (hb3.cell (p := ⟨w.heap.size + 1 + 1 + 1 + 1, 2, none⟩) zz2).trans r2_2; have r3_3 := (hb3.cell (p := ⟨w.heap.size + 1 + 1 + 1 + 1, 3, none⟩) zz2).trans r2_3; have r3_4 := (hb3.cell (p := ⟨w.heap.size + 1 + 1 + 1 + 1, 4, none⟩) zz2).trans r2_4; have r3_5 := (hb3.cell (p := ⟨w.heap.size + 1 + 1 + 1 + 1, 5, none⟩) zz2).trans r2_5; have r3_6 := (hb3.cell (p := ⟨w.heap.size + 1 + 1 + 1 + 1, 6, none⟩) zz2).trans r2_6; have r3_7 := (hb3.cell (p := ⟨w.heap.size + 1 + 1 + 1 + 1, 7, none⟩) zz2).trans r2_7; have r3_8 := (hb3.cell (p := ⟨w.heap.size + 1 + 1 + 1 + 1, 8, none⟩) zz2).trans r2_8; have g3_6 := (hb3.frozen (p := ⟨w.heap.size + 1 + 1 + 1 + 1, 6, none⟩) zz2).trans g2_6; have g3_7 := (hb3.frozen (p := ⟨w.heap.size + 1 + 1 + 1 + 1, 7, none⟩) zz2).trans g2_7; have g3_8 := (hb3.frozen (p := ⟨w.heap.size + 1 + 1 + 1 + 1, 8, none⟩) zz2).trans g2_8))
      obtain ⟨Z, hZ⟩ : ∃ Z, Z = ((w3.setCell ⟨w.heap.size + 1 + 1 + 1 + 1, 6, none⟩ (.int .i64 (dot (rp p q) (rp p q)))).setCell ⟨w.heap.size + 1 + 1 + 1 + 1, 7, none⟩ (.int .i64 (dot (rp p q) (rv v u)))).setCell ⟨w.heap.size + 1 + 1 + 1 + 1, 8, none⟩ (.int .i64 (dot (rv v u) (rv v u))) := ⟨_, rfl⟩
      have B3 : Below w.heap.size w w3 := ((BY.trans (Below.trans (Below.drew (Below.refl w.heap.size Y)) (hb1.mono (by show _ ≤ Y.heap.size; omega)))).trans (hb2.mono (by omega))).trans (hb3.mono (by omega))
      have BZ : Below w.heap.size w Z := by rw [hZ]; exact ((B3.setCell (p := ⟨_, 6, none⟩) hm _).setCell (p := ⟨_, 7, none⟩) hm _).setCell (p := ⟨_, 8, none⟩) hm _
      have n0 : Z.cell? ⟨w.heap.size + 1 + 1 + 1 + 1, 0, none⟩ = some (.int .i64 (95 * (q.x - p.x))) := by rw [hZ]; go_simp
      have n1 : Z.cell? ⟨w.heap.size + 1 + 1 + 1 + 1, 1, none⟩ = some (.int .i64 (95 * (q.y - p.y))) := by rw [hZ]; go_simp
      have n2 : Z.cell? ⟨w.heap.size + 1 + 1 + 1 + 1, 2, none⟩ = some (.int .i64 (q.z - p.z)) := by rw [hZ]; go_simp
      have n3 : Z.cell? ⟨w.heap.size + 1 + 1 + 1 + 1, 3, none⟩ = some (.int .i64 (95 * (u.x - v.x))) := by rw [hZ]; go_simp
      have n4 : Z.cell? ⟨w.heap.size + 1 + 1 + 1 + 1, 4, none⟩ = some (.int .i64 (95 * (u.y - v.y))) := by rw [hZ]; go_simp
      have n5 : Z.cell? ⟨w.heap.size + 1 + 1 + 1 + 1, 5, none⟩ = some (.int .i64 (u.z - v.z)) := by rw [hZ]; go_simp
      have n6 : Z.cell? ⟨w.heap.size + 1 + 1 + 1 + 1, 6, none⟩ = some (.int .i64 (dot (rp p q) (rp p q))) := by rw [hZ]; go_simp
      have n7 : Z.cell? ⟨w.heap.size + 1 + 1 + 1 + 1, 7, none⟩ = some (.int .i64 (dot (rp p q) (rv v u))) := by rw [hZ]; go_simp
      have n8 : Z.cell? ⟨w.heap.size + 1 + 1 + 1 + 1, 8, none⟩ = some (.int .i64 (dot (rv v u) (rv v u))) := by rw [hZ]; go_simp
      have l0 := (hb3.frozen (p := ⟨w.heap.size + 1 + 1 + 1 + 1, 0, none⟩) zz2).trans ((hb2.frozen (p := ⟨w.heap.size + 1 + 1 + 1 + 1, 0, none⟩) zz1).trans ((hb1.frozen (p := ⟨w.heap.size + 1 + 1 + 1 + 1, 0, none⟩) zzY).trans yf0))
      have nf0 : Z.frozen? ⟨w.heap.size + 1 + 1 + 1 + 1, 0, none⟩ = false := by rw [hZ]; go_simp
      have l1 := (hb3.frozen (p := ⟨w.heap.size + 1 + 1 + 1 + 1, 1, none⟩) zz2).trans ((hb2.frozen (p := ⟨w.heap.size + 1 + 1 + 1 + 1, 1, none⟩) zz1).trans ((hb1.frozen (p := ⟨w.heap.size + 1 + 1 + 1 + 1, 1, none⟩) zzY).trans yf1))
      have nf1 : Z.frozen? ⟨w.heap.size + 1 + 1 + 1 + 1, 1, none⟩ = false := by rw [hZ]; go_simp
      have l2 := (hb3.frozen (p := ⟨w.heap.size + 1 + 1 + 1 + 1, 2, none⟩) zz2).trans ((hb2.frozen (p := ⟨w.heap.size + 1 + 1 + 1 + 1, 2, none⟩) zz1).trans ((hb1.frozen (p := ⟨w.heap.size + 1 + 1 + 1 + 1, 2, none⟩) zzY).trans yf2))
      have nf2 : Z.frozen? ⟨w.heap.size + 1 + 1 + 1 + 1, 2, none⟩ = false := by rw [hZ]; go_simp
      have l3 := (hb3.frozen (p := ⟨w.heap.size + 1 + 1 + 1 + 1, 3, none⟩) zz2).trans ((hb2.frozen (p := ⟨w.heap.size + 1 + 1 + 1 + 1, 3, none⟩) zz1).trans ((hb1.frozen (p := ⟨w.heap.size + 1 + 1 + 1 + 1, 3, none⟩) zzY).trans yf3))
      have nf3 : Z.frozen? ⟨w.heap.size + 1 + 1 + 1 + 1, 3, none⟩ = false := by rw [hZ]; go_simp
      have l4 := (hb3.frozen (p := ⟨w.heap.size + 1 + 1 + 1 + 1, 4, none⟩) zz2).trans ((hb2.frozen (p := ⟨w.heap.size + 1 + 1 + 1 + 1, 4, none⟩) zz1).trans ((hb1.frozen (p := ⟨w.heap.size + 1 + 1 + 1 + 1, 4, none⟩) zzY).trans yf4))
      have nf4 : Z.frozen? ⟨w.heap.size + 1 + 1 + 1 + 1, 4, none⟩ = false := by rw [hZ]; go_simp
      have l5 := (hb3.frozen (p := ⟨w.heap.size + 1 + 1 + 1 + 1, 5, none⟩) zz2).trans ((hb2.frozen (p := ⟨w.heap.size + 1 + 1 + 1 + 1, 5, none⟩) zz1).trans ((hb1.frozen (p := ⟨w.heap.size + 1 + 1 + 1 + 1, 5, none⟩) zzY).trans yf5))
      have nf5 : Z.frozen? ⟨w.heap.size + 1 + 1 + 1 + 1, 5, none⟩ = false := by rw [hZ]; go_simp
      have l6 := (hb3.frozen (p := ⟨w.heap.size + 1 + 1 + 1 + 1, 6, none⟩) zz2).trans ((hb2.frozen (p := ⟨w.heap.size + 1 + 1 + 1 + 1, 6, none⟩) zz1).trans ((hb1.frozen (p := ⟨w.heap.size + 1 + 1 + 1 + 1, 6, none⟩) zzY).trans yf6))
      have nf6 : Z.frozen? ⟨w.heap.size + 1 + 1 + 1 + 1, 6, none⟩ = false := by rw [hZ]; go_simp
      have l7 := (hb3.frozen (p := ⟨w.heap.size + 1 + 1 + 1 + 1, 7, none⟩) zz2).trans ((hb2.frozen (p := ⟨w.heap.size + 1 + 1 + 1 + 1, 7, none⟩) zz1).trans ((hb1.frozen (p := ⟨w.heap.size + 1 + 1 + 1 + 1, 7, none⟩) zzY).trans yf7))
      have nf7 : Z.frozen? ⟨w.heap.size + 1 + 1 + 1 + 1, 7, none⟩ = false := by rw [hZ]; go_simp
      have l8 := (hb3.frozen (p := ⟨w.heap.size + 1 + 1 + 1 + 1, 8, none⟩) zz2).trans ((hb2.frozen (p := ⟨w.heap.size + 1 + 1 + 1 + 1, 8, none⟩) zz1).trans ((hb1.frozen (p := ⟨w.heap.size + 1 + 1 + 1 + 1, 8, none⟩) zzY).trans yf8))
      have nf8 : Z.frozen? ⟨w.heap.size + 1 + 1 + 1 + 1, 8, none⟩ = false := by rw [hZ]; go_simp
      rw [← hZ]
      clear hZ
      go_wp2_with fail
      refine bodyPost_ret (v := .tuple #[.agg #[.int .i64 (95 * (q.x - p.x)), .int .i64 (95 * (q.y - p.y)), .int .i64 (q.z - p.z), .int .i64 (95 * (u.x - v.x)), .int .i64 (95 * (u.y - v.y)), .int .i64 (u.z - v.z), .int .i64 (dot (rp p q) (rp p q)), .int .i64 (dot (rp p q) (rv v u)), .int .i64 (dot (rv v u) (rv v u))], .int .i64 0]) (by simp [results, Try.results35, go_sem, n0, n1, n2, n3, n4, n5, n6, n7, n8]) rfl ⟨?_, (((((((((BZ.setCell (p := ⟨_, 0, none⟩) hm _).setCell (p := ⟨_, 1, none⟩) hm _).setCell (p := ⟨_, 2, none⟩) hm _).setCell (p := ⟨_, 3, none⟩) hm _).setCell (p := ⟨_, 4, none⟩) hm _).setCell (p := ⟨_, 5, none⟩) hm _).setCell (p := ⟨_, 6, none⟩) hm _).setCell (p := ⟨_, 7, none⟩) hm _).setCell (p := ⟨_, 8, none⟩) hm _)⟩
      have hk := HK.out
      simp only [mc, erG, if_pos hk]
      rfl
end Go.Proofs.Ytdflamblbhpngaa
