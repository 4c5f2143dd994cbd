/- Move of package geometry and of its reference. -/
import Derived.Test.YtdflamblbhpngaaRows
import Derived.WalkKit
import Derived.WalkLawsBesides
import Derived.WalkSpells
import Derived.ProofKit
import Derived.Below
import Derived.Outline
import Derived.Lib.Hide
import Derived.Deep.RegionWith
import Derived.Deep.RegionHeld3
import Derived.Deep.DrawnRows
import Derived.StillTailTactics
import Derived.BigQuiet
import Derived.Deep.QuietTactic
import Derived.Deep.LoopGhost
import Derived.IntWalk
import Derived.Test.YtdflamblbhpngaaGeF
namespace Go.Proofs.Ytdflamblbhpngaa
open Go.RowKit
attribute [local go_sem ↓] Go.wp_at_zero Go.wp_at_succ
attribute [local go_sem] wrap_lit

theorem okGp {p v : V3} : okG p p v v ↔ okP p ∧ okV v := by
  unfold okG
  constructor
  · rintro ⟨a, _, b, _⟩; exact ⟨a, b⟩
  · rintro ⟨a, b⟩; exact ⟨a, a, b, b⟩

set_option maxHeartbeats 1000000 in
theorem move29a (p v : V3) (t : Int) (w : World) (hg : ¬ okG p p v v) : Calls Try.prog 29 #[.agg #[.int .i64 p.x, .int .i64 p.y, .int .i64 p.z], .agg #[.int .i64 v.x, .int .i64 v.y, .int .i64 v.z], .int .i64 t] w fun e w' => e = .returned (.tuple #[.agg #[.int .i64 0, .int .i64 0, .int .i64 0], .int .i64 1]) ∧ Below w.heap.size w w' := by
    have T := Lib.hid (of_bad p p v v hg)
    clear hg
    go_enter Try.func29, Try.ntmps29
    go_wp2_with fail
    refine (T.out _).mono ?_
    rintro e w1 ⟨rfl, hb1⟩
    have hc1 := (bcell hb1).1
    have hf1 := (bcell hb1).2
    have hs1 := hb1.size
    try simp at hs1
    have hz1_0 : w.heap.size < w1.heap.size := by omega
    have hz1_1 : w.heap.size + 1 < w1.heap.size := by omega
    have hz1_2 : w.heap.size + 1 + 1 < w1.heap.size := by omega
    have B1 : Below w.heap.size w w1 := ((((Below.refl _ _).alloc (Nat.le_refl _) _).alloc (by first | omega | (simp; omega) | simp) _).alloc (by first | omega | (simp; omega) | simp) _).trans (hb1.mono (by first | omega | (simp; omega) | simp))
    have d1_0 : w1.cell? ⟨w.heap.size + 1 + 1, 0, none⟩ = some (.int .i64 0) := (hc1 _ _ (by first | omega | (simp; omega) | simp)).trans (by go_simp)
    have df1_0 : w1.frozen? ⟨w.heap.size + 1 + 1, 0, none⟩ = false := (hf1 _ _ (by first | omega | (simp; omega) | simp)).trans (by go_simp)
    have d1_1 : w1.cell? ⟨w.heap.size + 1 + 1, 1, none⟩ = some (.int .i64 0) := (hc1 _ _ (by first | omega | (simp; omega) | simp)).trans (by go_simp)
    have df1_1 : w1.frozen? ⟨w.heap.size + 1 + 1, 1, none⟩ = false := (hf1 _ _ (by first | omega | (simp; omega) | simp)).trans (by go_simp)
    have d1_2 : w1.cell? ⟨w.heap.size + 1 + 1, 2, none⟩ = some (.int .i64 0) := (hc1 _ _ (by first | omega | (simp; omega) | simp)).trans (by go_simp)
    have df1_2 : w1.frozen? ⟨w.heap.size + 1 + 1, 2, none⟩ = false := (hf1 _ _ (by first | omega | (simp; omega) | simp)).trans (by go_simp)
    have hm : w.heap.size ≤ w.heap.size + 1 + 1 := by omega
    go_wp2_with fail
    exact bodyPost_ret (v := .tuple #[.agg #[.int .i64 0, .int .i64 0, .int .i64 0], .int .i64 1]) (by simp [results, Try.results29, go_sem, d1_0, d1_1, d1_2, hz1_2]) rfl ⟨rfl, ((((B1).setCell (p := ⟨_, 0, none⟩) hm _).setCell (p := ⟨_, 1, none⟩) hm _).setCell (p := ⟨_, 2, none⟩) hm _).alloc (by simp [World.setCell]; omega) _⟩

set_option maxHeartbeats 1000000 in
theorem move29b (p v : V3) (t : Int) (w : World) (hg : okG p p v v) (ht : ¬ okT t) : Calls Try.prog 29 #[.agg #[.int .i64 p.x, .int .i64 p.y, .int .i64 p.z], .agg #[.int .i64 v.x, .int .i64 v.y, .int .i64 v.z], .int .i64 t] w fun e w' => e = .returned (.tuple #[.agg #[.int .i64 0, .int .i64 0, .int .i64 0], .int .i64 1]) ∧ Below w.heap.size w w' := by
    have T := Lib.hid (of_ok p p v v hg)
    clear hg
    unfold okT at ht
    by_cases ht1 : t < 0
    all_goals
      go_enter Try.func29, Try.ntmps29
      go_wp2_with fail
      refine (T.out _).mono ?_
      rintro e w1 ⟨rfl, hb1⟩
      have hc1 := (bcell hb1).1
      have hf1 := (bcell hb1).2
      have hs1 := hb1.size
      try simp at hs1
      have hz1_0 : w.heap.size < w1.heap.size := by omega
      have hz1_1 : w.heap.size + 1 < w1.heap.size := by omega
      have hz1_2 : w.heap.size + 1 + 1 < w1.heap.size := by omega
      have B1 : Below w.heap.size w w1 := ((((Below.refl _ _).alloc (Nat.le_refl _) _).alloc (by first | omega | (simp; omega) | simp) _).alloc (by first | omega | (simp; omega) | simp) _).trans (hb1.mono (by first | omega | (simp; omega) | simp))
      have d1_0 : w1.cell? ⟨w.heap.size + 1 + 1, 0, none⟩ = some (.int .i64 0) := (hc1 _ _ (by first | omega | (simp; omega) | simp)).trans (by go_simp)
      have df1_0 : w1.frozen? ⟨w.heap.size + 1 + 1, 0, none⟩ = false := (hf1 _ _ (by first | omega | (simp; omega) | simp)).trans (by go_simp)
      have d1_1 : w1.cell? ⟨w.heap.size + 1 + 1, 1, none⟩ = some (.int .i64 0) := (hc1 _ _ (by first | omega | (simp; omega) | simp)).trans (by go_simp)
      have df1_1 : w1.frozen? ⟨w.heap.size + 1 + 1, 1, none⟩ = false := (hf1 _ _ (by first | omega | (simp; omega) | simp)).trans (by go_simp)
      have d1_2 : w1.cell? ⟨w.heap.size + 1 + 1, 2, none⟩ = some (.int .i64 0) := (hc1 _ _ (by first | omega | (simp; omega) | simp)).trans (by go_simp)
      have df1_2 : w1.frozen? ⟨w.heap.size + 1 + 1, 2, none⟩ = false := (hf1 _ _ (by first | omega | (simp; omega) | simp)).trans (by go_simp)
      have hm : w.heap.size ≤ w.heap.size + 1 + 1 := by omega
      go_wp2_with fail
      exact bodyPost_ret (v := .tuple #[.agg #[.int .i64 0, .int .i64 0, .int .i64 0], .int .i64 1]) (by simp [results, Try.results29, go_sem, d1_0, d1_1, d1_2, hz1_2]) rfl ⟨rfl, ((((B1).setCell (p := ⟨_, 0, none⟩) hm _).setCell (p := ⟨_, 1, none⟩) hm _).setCell (p := ⟨_, 2, none⟩) hm _).alloc (by simp [World.setCell]; omega) _⟩

set_option maxHeartbeats 1000000 in
theorem move29c (p v : V3) (t : Int) (w : World) (hg : okG p p v v) (ht : okT t) (hq : okP (mvP p v t)) : Calls Try.prog 29 #[.agg #[.int .i64 p.x, .int .i64 p.y, .int .i64 p.z], .agg #[.int .i64 v.x, .int .i64 v.y, .int .i64 v.z], .int .i64 t] w fun e w' => e = .returned (.tuple #[.agg #[.int .i64 (p.x + t * v.x), .int .i64 (p.y + t * v.y), .int .i64 (p.z + t * v.z)], .int .i64 0]) ∧ Below w.heap.size w w' := by
    have T := Lib.hid (of_ok p p v v hg)
    have C : Hid (∀ w, Calls Try.prog 31 #[.agg #[.int .i64 (p.x + t * v.x), .int .i64 (p.y + t * v.y), .int .i64 (p.z + t * v.z)]] w fun e w' => e = .returned (.int .i64 0) ∧ Below w.heap.size w w') := Lib.hid (fun w => by have H := chkB31 (mvP p v t) w; unfold ckP at H; rw [if_pos hq] at H; exact H)
    obtain ⟨⟨p1, p2, p3, p4, p5, p6⟩, ⟨v1, v2, v3, v4, v5, v6⟩⟩ := okGp.1 hg
    obtain ⟨t1, t2⟩ := ht
    obtain ⟨m1, m2⟩ := mul_bd (a := t) (A := 3600) (b := v.x) (B := 100) (by omega) (by omega) (by omega) (by omega)
    obtain ⟨m3, m4⟩ := mul_bd (a := t) (A := 3600) (b := v.y) (B := 100) (by omega) (by omega) (by omega) (by omega)
    obtain ⟨m5, m6⟩ := mul_bd (a := t) (A := 3600) (b := v.z) (B := 100) (by omega) (by omega) (by omega) (by omega)
    clear hg hq
    go_enter Try.func29, Try.ntmps29
    go_wp2_with fail
    refine (T.out _).mono ?_
    rintro e w1 ⟨rfl, hb1⟩
    have hc1 := (bcell hb1).1
    have hf1 := (bcell hb1).2
    have hs1 := hb1.size
    try simp at hs1
    have hz1_0 : w.heap.size < w1.heap.size := by omega
    have hz1_1 : w.heap.size + 1 < w1.heap.size := by omega
    have hz1_2 : w.heap.size + 1 + 1 < w1.heap.size := by omega
    have B1 : Below w.heap.size w w1 := ((((Below.refl _ _).alloc (Nat.le_refl _) _).alloc (by first | omega | (simp; omega) | simp) _).alloc (by first | omega | (simp; omega) | simp) _).trans (hb1.mono (by first | omega | (simp; omega) | simp))
    have d1_0 : w1.cell? ⟨w.heap.size + 1 + 1, 0, none⟩ = some (.int .i64 0) := (hc1 _ _ (by first | omega | (simp; omega) | simp)).trans (by go_simp)
    have df1_0 : w1.frozen? ⟨w.heap.size + 1 + 1, 0, none⟩ = false := (hf1 _ _ (by first | omega | (simp; omega) | simp)).trans (by go_simp)
    have d1_1 : w1.cell? ⟨w.heap.size + 1 + 1, 1, none⟩ = some (.int .i64 0) := (hc1 _ _ (by first | omega | (simp; omega) | simp)).trans (by go_simp)
    have df1_1 : w1.frozen? ⟨w.heap.size + 1 + 1, 1, none⟩ = false := (hf1 _ _ (by first | omega | (simp; omega) | simp)).trans (by go_simp)
    have d1_2 : w1.cell? ⟨w.heap.size + 1 + 1, 2, none⟩ = some (.int .i64 0) := (hc1 _ _ (by first | omega | (simp; omega) | simp)).trans (by go_simp)
    have df1_2 : w1.frozen? ⟨w.heap.size + 1 + 1, 2, none⟩ = false := (hf1 _ _ (by first | omega | (simp; omega) | simp)).trans (by go_simp)
    have hm : w.heap.size ≤ w.heap.size + 1 + 1 := by omega
    go_wp2_with fail
    refine (C.out _).mono ?_
    rintro e w2 ⟨rfl, hb2⟩
    have hc2 := (bcell hb2).1
    have hf2 := (bcell hb2).2
    have hs2 := hb2.size
    try simp at hs2
    have hz2_0 : w.heap.size < w2.heap.size := by omega
    have hz2_1 : w.heap.size + 1 < w2.heap.size := by omega
    have hz2_2 : w.heap.size + 1 + 1 < w2.heap.size := by omega
    have hz2_3 : w1.heap.size + 1 < w2.heap.size := by omega
    have B2 : Below w.heap.size w w2 := (((B1.alloc (by first | omega | (simp; omega) | simp) _)).alloc (by first | omega | (simp; omega) | simp) _).trans (hb2.mono (by first | omega | (simp; omega) | simp))
    have e2_0 : w2.cell? ⟨w.heap.size + 1 + 1, 0, none⟩ = some (.int .i64 0) := (hc2 _ _ (by first | omega | (simp; omega) | simp)).trans (by go_simp)
    have ef2_0 : w2.frozen? ⟨w.heap.size + 1 + 1, 0, none⟩ = false := (hf2 _ _ (by first | omega | (simp; omega) | simp)).trans (by go_simp)
    have e2_1 : w2.cell? ⟨w.heap.size + 1 + 1, 1, none⟩ = some (.int .i64 0) := (hc2 _ _ (by first | omega | (simp; omega) | simp)).trans (by go_simp)
    have ef2_1 : w2.frozen? ⟨w.heap.size + 1 + 1, 1, none⟩ = false := (hf2 _ _ (by first | omega | (simp; omega) | simp)).trans (by go_simp)
    have e2_2 : w2.cell? ⟨w.heap.size + 1 + 1, 2, none⟩ = some (.int .i64 0) := (hc2 _ _ (by first | omega | (simp; omega) | simp)).trans (by go_simp)
    have ef2_2 : w2.frozen? ⟨w.heap.size + 1 + 1, 2, none⟩ = false := (hf2 _ _ (by first | omega | (simp; omega) | simp)).trans (by go_simp)
    go_wp2_with fail
    exact bodyPost_ret (v := .tuple #[.agg #[.int .i64 (p.x + t * v.x), .int .i64 (p.y + t * v.y), .int .i64 (p.z + t * v.z)], .int .i64 0]) (by simp [results, Try.results29, go_sem, e2_0, e2_1, e2_2]) rfl ⟨rfl, (((B2).setCell (p := ⟨_, 0, none⟩) hm _).setCell (p := ⟨_, 1, none⟩) hm _).setCell (p := ⟨_, 2, none⟩) hm _⟩

set_option maxHeartbeats 1000000 in
theorem move29d (p v : V3) (t : Int) (w : World) (hg : okG p p v v) (ht : okT t) (hq : ¬ okP (mvP p v t)) : Calls Try.prog 29 #[.agg #[.int .i64 p.x, .int .i64 p.y, .int .i64 p.z], .agg #[.int .i64 v.x, .int .i64 v.y, .int .i64 v.z], .int .i64 t] w fun e w' => e = .returned (.tuple #[.agg #[.int .i64 0, .int .i64 0, .int .i64 0], .int .i64 7]) ∧ Below w.heap.size w w' := by
    have T := Lib.hid (of_ok p p v v hg)
    have C : Hid (∀ w, Calls Try.prog 31 #[.agg #[.int .i64 (p.x + t * v.x), .int .i64 (p.y + t * v.y), .int .i64 (p.z + t * v.z)]] w fun e w' => e = .returned (.int .i64 1) ∧ Below w.heap.size w w') := Lib.hid (fun w => by have H := chkB31 (mvP p v t) w; unfold ckP at H; rw [if_neg hq] at H; exact H)
    obtain ⟨⟨p1, p2, p3, p4, p5, p6⟩, ⟨v1, v2, v3, v4, v5, v6⟩⟩ := okGp.1 hg
    obtain ⟨t1, t2⟩ := ht
    obtain ⟨m1, m2⟩ := mul_bd (a := t) (A := 3600) (b := v.x) (B := 100) (by omega) (by omega) (by omega) (by omega)
    obtain ⟨m3, m4⟩ := mul_bd (a := t) (A := 3600) (b := v.y) (B := 100) (by omega) (by omega) (by omega) (by omega)
    obtain ⟨m5, m6⟩ := mul_bd (a := t) (A := 3600) (b := v.z) (B := 100) (by omega) (by omega) (by omega) (by omega)
    clear hg hq
    go_enter Try.func29, Try.ntmps29
    go_wp2_with fail
    refine (T.out _).mono ?_
    rintro e w1 ⟨rfl, hb1⟩
    have hc1 := (bcell hb1).1
    have hf1 := (bcell hb1).2
    have hs1 := hb1.size
    try simp at hs1
    have hz1_0 : w.heap.size < w1.heap.size := by omega
    have hz1_1 : w.heap.size + 1 < w1.heap.size := by omega
    have hz1_2 : w.heap.size + 1 + 1 < w1.heap.size := by omega
    have B1 : Below w.heap.size w w1 := ((((Below.refl _ _).alloc (Nat.le_refl _) _).alloc (by first | omega | (simp; omega) | simp) _).alloc (by first | omega | (simp; omega) | simp) _).trans (hb1.mono (by first | omega | (simp; omega) | simp))
    have d1_0 : w1.cell? ⟨w.heap.size + 1 + 1, 0, none⟩ = some (.int .i64 0) := (hc1 _ _ (by first | omega | (simp; omega) | simp)).trans (by go_simp)
    have df1_0 : w1.frozen? ⟨w.heap.size + 1 + 1, 0, none⟩ = false := (hf1 _ _ (by first | omega | (simp; omega) | simp)).trans (by go_simp)
    have d1_1 : w1.cell? ⟨w.heap.size + 1 + 1, 1, none⟩ = some (.int .i64 0) := (hc1 _ _ (by first | omega | (simp; omega) | simp)).trans (by go_simp)
    have df1_1 : w1.frozen? ⟨w.heap.size + 1 + 1, 1, none⟩ = false := (hf1 _ _ (by first | omega | (simp; omega) | simp)).trans (by go_simp)
    have d1_2 : w1.cell? ⟨w.heap.size + 1 + 1, 2, none⟩ = some (.int .i64 0) := (hc1 _ _ (by first | omega | (simp; omega) | simp)).trans (by go_simp)
    have df1_2 : w1.frozen? ⟨w.heap.size + 1 + 1, 2, none⟩ = false := (hf1 _ _ (by first | omega | (simp; omega) | simp)).trans (by go_simp)
    have hm : w.heap.size ≤ w.heap.size + 1 + 1 := by omega
    go_wp2_with fail
    refine (C.out _).mono ?_
    rintro e w2 ⟨rfl, hb2⟩
    have hc2 := (bcell hb2).1
    have hf2 := (bcell hb2).2
    have hs2 := hb2.size
    try simp at hs2
    have hz2_0 : w.heap.size < w2.heap.size := by omega
    have hz2_1 : w.heap.size + 1 < w2.heap.size := by omega
    have hz2_2 : w.heap.size + 1 + 1 < w2.heap.size := by omega
    have hz2_3 : w1.heap.size + 1 < w2.heap.size := by omega
    have B2 : Below w.heap.size w w2 := (((B1.alloc (by first | omega | (simp; omega) | simp) _)).alloc (by first | omega | (simp; omega) | simp) _).trans (hb2.mono (by first | omega | (simp; omega) | simp))
    have e2_0 : w2.cell? ⟨w.heap.size + 1 + 1, 0, none⟩ = some (.int .i64 0) := (hc2 _ _ (by first | omega | (simp; omega) | simp)).trans (by go_simp)
    have ef2_0 : w2.frozen? ⟨w.heap.size + 1 + 1, 0, none⟩ = false := (hf2 _ _ (by first | omega | (simp; omega) | simp)).trans (by go_simp)
    have e2_1 : w2.cell? ⟨w.heap.size + 1 + 1, 1, none⟩ = some (.int .i64 0) := (hc2 _ _ (by first | omega | (simp; omega) | simp)).trans (by go_simp)
    have ef2_1 : w2.frozen? ⟨w.heap.size + 1 + 1, 1, none⟩ = false := (hf2 _ _ (by first | omega | (simp; omega) | simp)).trans (by go_simp)
    have e2_2 : w2.cell? ⟨w.heap.size + 1 + 1, 2, none⟩ = some (.int .i64 0) := (hc2 _ _ (by first | omega | (simp; omega) | simp)).trans (by go_simp)
    have ef2_2 : w2.frozen? ⟨w.heap.size + 1 + 1, 2, none⟩ = false := (hf2 _ _ (by first | omega | (simp; omega) | simp)).trans (by go_simp)
    go_wp2_with fail
    exact bodyPost_ret (v := .tuple #[.agg #[.int .i64 0, .int .i64 0, .int .i64 0], .int .i64 7]) (by simp [results, Try.results29, go_sem, e2_0, e2_1, e2_2]) rfl ⟨rfl, (((B2).setCell (p := ⟨_, 0, none⟩) hm _).setCell (p := ⟨_, 1, none⟩) hm _).setCell (p := ⟨_, 2, none⟩) hm _⟩

theorem move29 (p v : V3) (t : Int) (w : World) : Calls Try.prog 29 #[.agg #[.int .i64 p.x, .int .i64 p.y, .int .i64 p.z], .agg #[.int .i64 v.x, .int .i64 v.y, .int .i64 v.z], .int .i64 t] w fun e w' => e = .returned (.tuple #[.agg #[.int .i64 (mvR p v t).x, .int .i64 (mvR p v t).y, .int .i64 (mvR p v t).z], .int .i64 (mvE p v t)]) ∧ Below w.heap.size w w' := by
  unfold mvR mvE
  by_cases hg : okG p p v v
  · obtain ⟨a, b⟩ := okGp.1 hg
    by_cases ht : okT t
    · have h2 : okP p ∧ okV v ∧ okT t := ⟨a, b, ht⟩
      by_cases hq : okP (mvP p v t)
      · have h1 : okMv p v t := ⟨a, b, ht, hq⟩
        simp only [if_pos h1, if_pos h2, if_pos hq]; exact move29c p v t w hg ht hq
      · have h1 : ¬ okMv p v t := fun h => hq h.2.2.2
        simp only [if_neg h1, if_pos h2, if_neg hq]; exact move29d p v t w hg ht hq
    · have h1 : ¬ okMv p v t := fun h => ht h.2.2.1
      have h2 : ¬ (okP p ∧ okV v ∧ okT t) := fun h => ht h.2.2
      simp only [if_neg h1, if_neg h2]; exact move29b p v t w hg ht
  · have h1 : ¬ okMv p v t := fun h => hg (okGp.2 ⟨h.1, h.2.1⟩)
    have h2 : ¬ (okP p ∧ okV v ∧ okT t) := fun h => hg (okGp.2 ⟨h.1, h.2.1⟩)
    simp only [if_neg h1, if_neg h2]; exact move29a p v t w hg

set_option maxHeartbeats 1000000 in
theorem move30a (p v : V3) (t : Int) (w : World) (hg : ¬ okG p p v v) : Calls Try.prog 30 #[.agg #[.int .i64 p.x, .int .i64 p.y, .int .i64 p.z], .agg #[.int .i64 v.x, .int .i64 v.y, .int .i64 v.z], .int .i64 t] w fun e w' => e = .returned (.tuple #[.agg #[.int .i64 0, .int .i64 0, .int .i64 0], .int .i64 1]) ∧ Below w.heap.size w w' := by
    have T : Hid (∀ w, Calls Try.prog 36 #[.agg #[.int .i64 p.x, .int .i64 p.y, .int .i64 p.z], .agg #[.int .i64 p.x, .int .i64 p.y, .int .i64 p.z], .agg #[.int .i64 v.x, .int .i64 v.y, .int .i64 v.z], .agg #[.int .i64 v.x, .int .i64 v.y, .int .i64 v.z]] w fun e w' => e = .returned (.int .i64 1) ∧ Below w.heap.size w w') := Lib.hid (fun w => by have H := wrong36 p p v v w; unfold erG at H; rw [if_neg hg] at H; exact H)
    clear hg
    go_enter Try.func30, Try.ntmps30
    go_wp2_with fail
    refine (T.out _).mono ?_
    rintro e w1 ⟨rfl, hb1⟩
    have hc1 := (bcell hb1).1
    have hf1 := (bcell hb1).2
    have hs1 := hb1.size
    try simp at hs1
    have hz1_0 : w.heap.size < w1.heap.size := by omega
    have hz1_1 : w.heap.size + 1 < w1.heap.size := by omega
    have hz1_2 : w.heap.size + 1 + 1 < w1.heap.size := by omega
    have B1 : Below w.heap.size w w1 := ((((Below.refl _ _).alloc (Nat.le_refl _) _).alloc (by first | omega | (simp; omega) | simp) _).alloc (by first | omega | (simp; omega) | simp) _).trans (hb1.mono (by first | omega | (simp; omega) | simp))
    have d1_0 : w1.cell? ⟨w.heap.size + 1 + 1, 0, none⟩ = some (.int .i64 0) := (hc1 _ _ (by first | omega | (simp; omega) | simp)).trans (by go_simp)
    have df1_0 : w1.frozen? ⟨w.heap.size + 1 + 1, 0, none⟩ = false := (hf1 _ _ (by first | omega | (simp; omega) | simp)).trans (by go_simp)
    have d1_1 : w1.cell? ⟨w.heap.size + 1 + 1, 1, none⟩ = some (.int .i64 0) := (hc1 _ _ (by first | omega | (simp; omega) | simp)).trans (by go_simp)
    have df1_1 : w1.frozen? ⟨w.heap.size + 1 + 1, 1, none⟩ = false := (hf1 _ _ (by first | omega | (simp; omega) | simp)).trans (by go_simp)
    have d1_2 : w1.cell? ⟨w.heap.size + 1 + 1, 2, none⟩ = some (.int .i64 0) := (hc1 _ _ (by first | omega | (simp; omega) | simp)).trans (by go_simp)
    have df1_2 : w1.frozen? ⟨w.heap.size + 1 + 1, 2, none⟩ = false := (hf1 _ _ (by first | omega | (simp; omega) | simp)).trans (by go_simp)
    have hm : w.heap.size ≤ w.heap.size + 1 + 1 := by omega
    go_wp2_with fail
    exact bodyPost_ret (v := .tuple #[.agg #[.int .i64 0, .int .i64 0, .int .i64 0], .int .i64 1]) (by simp [results, Try.results30, go_sem, d1_0, d1_1, d1_2]) rfl ⟨rfl, (((B1).setCell (p := ⟨_, 0, none⟩) hm _).setCell (p := ⟨_, 1, none⟩) hm _).setCell (p := ⟨_, 2, none⟩) hm _⟩

set_option maxHeartbeats 1000000 in
theorem move30b (p v : V3) (t : Int) (w : World) (hg : okG p p v v) (ht : ¬ okT t) : Calls Try.prog 30 #[.agg #[.int .i64 p.x, .int .i64 p.y, .int .i64 p.z], .agg #[.int .i64 v.x, .int .i64 v.y, .int .i64 v.z], .int .i64 t] w fun e w' => e = .returned (.tuple #[.agg #[.int .i64 0, .int .i64 0, .int .i64 0], .int .i64 1]) ∧ Below w.heap.size w w' := by
    have T : Hid (∀ w, Calls Try.prog 36 #[.agg #[.int .i64 p.x, .int .i64 p.y, .int .i64 p.z], .agg #[.int .i64 p.x, .int .i64 p.y, .int .i64 p.z], .agg #[.int .i64 v.x, .int .i64 v.y, .int .i64 v.z], .agg #[.int .i64 v.x, .int .i64 v.y, .int .i64 v.z]] w fun e w' => e = .returned (.int .i64 0) ∧ Below w.heap.size w w') := Lib.hid (fun w => by have H := wrong36 p p v v w; unfold erG at H; rw [if_pos hg] at H; exact H)
    clear hg
    unfold okT at ht
    by_cases ht1 : t < 0
    all_goals
      go_enter Try.func30, Try.ntmps30
      go_wp2_with fail
      refine (T.out _).mono ?_
      rintro e w1 ⟨rfl, hb1⟩
      have hc1 := (bcell hb1).1
      have hf1 := (bcell hb1).2
      have hs1 := hb1.size
      try simp at hs1
      have hz1_0 : w.heap.size < w1.heap.size := by omega
      have hz1_1 : w.heap.size + 1 < w1.heap.size := by omega
      have hz1_2 : w.heap.size + 1 + 1 < w1.heap.size := by omega
      have B1 : Below w.heap.size w w1 := ((((Below.refl _ _).alloc (Nat.le_refl _) _).alloc (by first | omega | (simp; omega) | simp) _).alloc (by first | omega | (simp; omega) | simp) _).trans (hb1.mono (by first | omega | (simp; omega) | simp))
      have d1_0 : w1.cell? ⟨w.heap.size + 1 + 1, 0, none⟩ = some (.int .i64 0) := (hc1 _ _ (by first | omega | (simp; omega) | simp)).trans (by go_simp)
      have df1_0 : w1.frozen? ⟨w.heap.size + 1 + 1, 0, none⟩ = false := (hf1 _ _ (by first | omega | (simp; omega) | simp)).trans (by go_simp)
      have d1_1 : w1.cell? ⟨w.heap.size + 1 + 1, 1, none⟩ = some (.int .i64 0) := (hc1 _ _ (by first | omega | (simp; omega) | simp)).trans (by go_simp)
      have df1_1 : w1.frozen? ⟨w.heap.size + 1 + 1, 1, none⟩ = false := (hf1 _ _ (by first | omega | (simp; omega) | simp)).trans (by go_simp)
      have d1_2 : w1.cell? ⟨w.heap.size + 1 + 1, 2, none⟩ = some (.int .i64 0) := (hc1 _ _ (by first | omega | (simp; omega) | simp)).trans (by go_simp)
      have df1_2 : w1.frozen? ⟨w.heap.size + 1 + 1, 2, none⟩ = false := (hf1 _ _ (by first | omega | (simp; omega) | simp)).trans (by go_simp)
      have hm : w.heap.size ≤ w.heap.size + 1 + 1 := by omega
      go_wp2_with fail
      exact bodyPost_ret (v := .tuple #[.agg #[.int .i64 0, .int .i64 0, .int .i64 0], .int .i64 1]) (by simp [results, Try.results30, go_sem, d1_0, d1_1, d1_2]) rfl ⟨rfl, (((B1).setCell (p := ⟨_, 0, none⟩) hm _).setCell (p := ⟨_, 1, none⟩) hm _).setCell (p := ⟨_, 2, none⟩) hm _⟩

set_option maxHeartbeats 1000000 in
theorem move30c (p v : V3) (t : Int) (w : World) (hg : okG p p v v) (ht : okT t) (hq : okP (mvP p v t)) : Calls Try.prog 30 #[.agg #[.int .i64 p.x, .int .i64 p.y, .int .i64 p.z], .agg #[.int .i64 v.x, .int .i64 v.y, .int .i64 v.z], .int .i64 t] w fun e w' => e = .returned (.tuple #[.agg #[.int .i64 (p.x + t * v.x), .int .i64 (p.y + t * v.y), .int .i64 (p.z + t * v.z)], .int .i64 0]) ∧ Below w.heap.size w w' := by
    have T : Hid (∀ w, Calls Try.prog 36 #[.agg #[.int .i64 p.x, .int .i64 p.y, .int .i64 p.z], .agg #[.int .i64 p.x, .int .i64 p.y, .int .i64 p.z], .agg #[.int .i64 v.x, .int .i64 v.y, .int .i64 v.z], .agg #[.int .i64 v.x, .int .i64 v.y, .int .i64 v.z]] w fun e w' => e = .returned (.int .i64 0) ∧ Below w.heap.size w w') := Lib.hid (fun w => by have H := wrong36 p p v v w; unfold erG at H; rw [if_pos hg] at H; exact H)
    have C : Hid (∀ w, Calls Try.prog 32 #[.agg #[.int .i64 (p.x + t * v.x), .int .i64 (p.y + t * v.y), .int .i64 (p.z + t * v.z)]] w fun e w' => e = .returned (.int .i64 0) ∧ Below w.heap.size w w') := Lib.hid (fun w => by have H := chkB32 (mvP p v t) w; unfold ckP at H; rw [if_pos hq] at H; exact H)
    obtain ⟨⟨p1, p2, p3, p4, p5, p6⟩, ⟨v1, v2, v3, v4, v5, v6⟩⟩ := okGp.1 hg
    obtain ⟨t1, t2⟩ := ht
    obtain ⟨m1, m2⟩ := mul_bd (a := t) (A := 3600) (b := v.x) (B := 100) (by omega) (by omega) (by omega) (by omega)
    obtain ⟨m3, m4⟩ := mul_bd (a := t) (A := 3600) (b := v.y) (B := 100) (by omega) (by omega) (by omega) (by omega)
    obtain ⟨m5, m6⟩ := mul_bd (a := t) (A := 3600) (b := v.z) (B := 100) (by omega) (by omega) (by omega) (by omega)
    clear hg hq
    go_enter Try.func30, Try.ntmps30
    go_wp2_with fail
    refine (T.out _).mono ?_
    rintro e w1 ⟨rfl, hb1⟩
    have hc1 := (bcell hb1).1
    have hf1 := (bcell hb1).2
    have hs1 := hb1.size
    try simp at hs1
    have hz1_0 : w.heap.size < w1.heap.size := by omega
    have hz1_1 : w.heap.size + 1 < w1.heap.size := by omega
    have hz1_2 : w.heap.size + 1 + 1 < w1.heap.size := by omega
    have B1 : Below w.heap.size w w1 := ((((Below.refl _ _).alloc (Nat.le_refl _) _).alloc (by first | omega | (simp; omega) | simp) _).alloc (by first | omega | (simp; omega) | simp) _).trans (hb1.mono (by first | omega | (simp; omega) | simp))
    have d1_0 : w1.cell? ⟨w.heap.size + 1 + 1, 0, none⟩ = some (.int .i64 0) := (hc1 _ _ (by first | omega | (simp; omega) | simp)).trans (by go_simp)
    have df1_0 : w1.frozen? ⟨w.heap.size + 1 + 1, 0, none⟩ = false := (hf1 _ _ (by first | omega | (simp; omega) | simp)).trans (by go_simp)
    have d1_1 : w1.cell? ⟨w.heap.size + 1 + 1, 1, none⟩ = some (.int .i64 0) := (hc1 _ _ (by first | omega | (simp; omega) | simp)).trans (by go_simp)
    have df1_1 : w1.frozen? ⟨w.heap.size + 1 + 1, 1, none⟩ = false := (hf1 _ _ (by first | omega | (simp; omega) | simp)).trans (by go_simp)
    have d1_2 : w1.cell? ⟨w.heap.size + 1 + 1, 2, none⟩ = some (.int .i64 0) := (hc1 _ _ (by first | omega | (simp; omega) | simp)).trans (by go_simp)
    have df1_2 : w1.frozen? ⟨w.heap.size + 1 + 1, 2, none⟩ = false := (hf1 _ _ (by first | omega | (simp; omega) | simp)).trans (by go_simp)
    have hm : w.heap.size ≤ w.heap.size + 1 + 1 := by omega
    go_wp2_with fail
    refine (C.out _).mono ?_
    rintro e w2 ⟨rfl, hb2⟩
    have hc2 := (bcell hb2).1
    have hf2 := (bcell hb2).2
    have hs2 := hb2.size
    try simp at hs2
    have hz2_0 : w.heap.size < w2.heap.size := by omega
    have hz2_1 : w.heap.size + 1 < w2.heap.size := by omega
    have hz2_2 : w.heap.size + 1 + 1 < w2.heap.size := by omega
    have hz2_3 : w1.heap.size < w2.heap.size := by omega
    have B2 : Below w.heap.size w w2 := ((B1).alloc (by first | omega | (simp; omega) | simp) _).trans (hb2.mono (by first | omega | (simp; omega) | simp))
    have e2_0 : w2.cell? ⟨w.heap.size + 1 + 1, 0, none⟩ = some (.int .i64 0) := (hc2 _ _ (by first | omega | (simp; omega) | simp)).trans (by go_simp)
    have ef2_0 : w2.frozen? ⟨w.heap.size + 1 + 1, 0, none⟩ = false := (hf2 _ _ (by first | omega | (simp; omega) | simp)).trans (by go_simp)
    have e2_1 : w2.cell? ⟨w.heap.size + 1 + 1, 1, none⟩ = some (.int .i64 0) := (hc2 _ _ (by first | omega | (simp; omega) | simp)).trans (by go_simp)
    have ef2_1 : w2.frozen? ⟨w.heap.size + 1 + 1, 1, none⟩ = false := (hf2 _ _ (by first | omega | (simp; omega) | simp)).trans (by go_simp)
    have e2_2 : w2.cell? ⟨w.heap.size + 1 + 1, 2, none⟩ = some (.int .i64 0) := (hc2 _ _ (by first | omega | (simp; omega) | simp)).trans (by go_simp)
    have ef2_2 : w2.frozen? ⟨w.heap.size + 1 + 1, 2, none⟩ = false := (hf2 _ _ (by first | omega | (simp; omega) | simp)).trans (by go_simp)
    go_wp2_with fail
    exact bodyPost_ret (v := .tuple #[.agg #[.int .i64 (p.x + t * v.x), .int .i64 (p.y + t * v.y), .int .i64 (p.z + t * v.z)], .int .i64 0]) (by simp [results, Try.results30, go_sem, e2_0, e2_1, e2_2]) rfl ⟨rfl, (((B2).setCell (p := ⟨_, 0, none⟩) hm _).setCell (p := ⟨_, 1, none⟩) hm _).setCell (p := ⟨_, 2, none⟩) hm _⟩

set_option maxHeartbeats 1000000 in
theorem move30d (p v : V3) (t : Int) (w : World) (hg : okG p p v v) (ht : okT t) (hq : ¬ okP (mvP p v t)) : Calls Try.prog 30 #[.agg #[.int .i64 p.x, .int .i64 p.y, .int .i64 p.z], .agg #[.int .i64 v.x, .int .i64 v.y, .int .i64 v.z], .int .i64 t] w fun e w' => e = .returned (.tuple #[.agg #[.int .i64 0, .int .i64 0, .int .i64 0], .int .i64 7]) ∧ Below w.heap.size w w' := by
    have T : Hid (∀ w, Calls Try.prog 36 #[.agg #[.int .i64 p.x, .int .i64 p.y, .int .i64 p.z], .agg #[.int .i64 p.x, .int .i64 p.y, .int .i64 p.z], .agg #[.int .i64 v.x, .int .i64 v.y, .int .i64 v.z], .agg #[.int .i64 v.x, .int .i64 v.y, .int .i64 v.z]] w fun e w' => e = .returned (.int .i64 0) ∧ Below w.heap.size w w') := Lib.hid (fun w => by have H := wrong36 p p v v w; unfold erG at H; rw [if_pos hg] at H; exact H)
    have C : Hid (∀ w, Calls Try.prog 32 #[.agg #[.int .i64 (p.x + t * v.x), .int .i64 (p.y + t * v.y), .int .i64 (p.z + t * v.z)]] w fun e w' => e = .returned (.int .i64 1) ∧ Below w.heap.size w w') := Lib.hid (fun w => by have H := chkB32 (mvP p v t) w; unfold ckP at H; rw [if_neg hq] at H; exact H)
    obtain ⟨⟨p1, p2, p3, p4, p5, p6⟩, ⟨v1, v2, v3, v4, v5, v6⟩⟩ := okGp.1 hg
    obtain ⟨t1, t2⟩ := ht
    obtain ⟨m1, m2⟩ := mul_bd (a := t) (A := 3600) (b := v.x) (B := 100) (by omega) (by omega) (by omega) (by omega)
    obtain ⟨m3, m4⟩ := mul_bd (a := t) (A := 3600) (b := v.y) (B := 100) (by omega) (by omega) (by omega) (by omega)
    obtain ⟨m5, m6⟩ := mul_bd (a := t) (A := 3600) (b := v.z) (B := 100) (by omega) (by omega) (by omega) (by omega)
    clear hg hq
    go_enter Try.func30, Try.ntmps30
    go_wp2_with fail
    refine (T.out _).mono ?_
    rintro e w1 ⟨rfl, hb1⟩
    have hc1 := (bcell hb1).1
    have hf1 := (bcell hb1).2
    have hs1 := hb1.size
    try simp at hs1
    have hz1_0 : w.heap.size < w1.heap.size := by omega
    have hz1_1 : w.heap.size + 1 < w1.heap.size := by omega
    have hz1_2 : w.heap.size + 1 + 1 < w1.heap.size := by omega
    have B1 : Below w.heap.size w w1 := ((((Below.refl _ _).alloc (Nat.le_refl _) _).alloc (by first | omega | (simp; omega) | simp) _).alloc (by first | omega | (simp; omega) | simp) _).trans (hb1.mono (by first | omega | (simp; omega) | simp))
    have d1_0 : w1.cell? ⟨w.heap.size + 1 + 1, 0, none⟩ = some (.int .i64 0) := (hc1 _ _ (by first | omega | (simp; omega) | simp)).trans (by go_simp)
    have df1_0 : w1.frozen? ⟨w.heap.size + 1 + 1, 0, none⟩ = false := (hf1 _ _ (by first | omega | (simp; omega) | simp)).trans (by go_simp)
    have d1_1 : w1.cell? ⟨w.heap.size + 1 + 1, 1, none⟩ = some (.int .i64 0) := (hc1 _ _ (by first | omega | (simp; omega) | simp)).trans (by go_simp)
    have df1_1 : w1.frozen? ⟨w.heap.size + 1 + 1, 1, none⟩ = false := (hf1 _ _ (by first | omega | (simp; omega) | simp)).trans (by go_simp)
    have d1_2 : w1.cell? ⟨w.heap.size + 1 + 1, 2, none⟩ = some (.int .i64 0) := (hc1 _ _ (by first | omega | (simp; omega) | simp)).trans (by go_simp)
    have df1_2 : w1.frozen? ⟨w.heap.size + 1 + 1, 2, none⟩ = false := (hf1 _ _ (by first | omega | (simp; omega) | simp)).trans (by go_simp)
    have hm : w.heap.size ≤ w.heap.size + 1 + 1 := by omega
    go_wp2_with fail
    refine (C.out _).mono ?_
    rintro e w2 ⟨rfl, hb2⟩
    have hc2 := (bcell hb2).1
    have hf2 := (bcell hb2).2
    have hs2 := hb2.size
    try simp at hs2
    have hz2_0 : w.heap.size < w2.heap.size := by omega
    have hz2_1 : w.heap.size + 1 < w2.heap.size := by omega
    have hz2_2 : w.heap.size + 1 + 1 < w2.heap.size := by omega
    have hz2_3 : w1.heap.size < w2.heap.size := by omega
    have B2 : Below w.heap.size w w2 := ((B1).alloc (by first | omega | (simp; omega) | simp) _).trans (hb2.mono (by first | omega | (simp; omega) | simp))
    have e2_0 : w2.cell? ⟨w.heap.size + 1 + 1, 0, none⟩ = some (.int .i64 0) := (hc2 _ _ (by first | omega | (simp; omega) | simp)).trans (by go_simp)
    have ef2_0 : w2.frozen? ⟨w.heap.size + 1 + 1, 0, none⟩ = false := (hf2 _ _ (by first | omega | (simp; omega) | simp)).trans (by go_simp)
    have e2_1 : w2.cell? ⟨w.heap.size + 1 + 1, 1, none⟩ = some (.int .i64 0) := (hc2 _ _ (by first | omega | (simp; omega) | simp)).trans (by go_simp)
    have ef2_1 : w2.frozen? ⟨w.heap.size + 1 + 1, 1, none⟩ = false := (hf2 _ _ (by first | omega | (simp; omega) | simp)).trans (by go_simp)
    have e2_2 : w2.cell? ⟨w.heap.size + 1 + 1, 2, none⟩ = some (.int .i64 0) := (hc2 _ _ (by first | omega | (simp; omega) | simp)).trans (by go_simp)
    have ef2_2 : w2.frozen? ⟨w.heap.size + 1 + 1, 2, none⟩ = false := (hf2 _ _ (by first | omega | (simp; omega) | simp)).trans (by go_simp)
    go_wp2_with fail
    exact bodyPost_ret (v := .tuple #[.agg #[.int .i64 0, .int .i64 0, .int .i64 0], .int .i64 7]) (by simp [results, Try.results30, go_sem, e2_0, e2_1, e2_2]) rfl ⟨rfl, (((B2).setCell (p := ⟨_, 0, none⟩) hm _).setCell (p := ⟨_, 1, none⟩) hm _).setCell (p := ⟨_, 2, none⟩) hm _⟩

theorem move30 (p v : V3) (t : Int) (w : World) : Calls Try.prog 30 #[.agg #[.int .i64 p.x, .int .i64 p.y, .int .i64 p.z], .agg #[.int .i64 v.x, .int .i64 v.y, .int .i64 v.z], .int .i64 t] w fun e w' => e = .returned (.tuple #[.agg #[.int .i64 (mvR p v t).x, .int .i64 (mvR p v t).y, .int .i64 (mvR p v t).z], .int .i64 (mvE p v t)]) ∧ Below w.heap.size w w' := by
  unfold mvR mvE
  by_cases hg : okG p p v v
  · obtain ⟨a, b⟩ := okGp.1 hg
    by_cases ht : okT t
    · have h2 : okP p ∧ okV v ∧ okT t := ⟨a, b, ht⟩
      by_cases hq : okP (mvP p v t)
      · have h1 : okMv p v t := ⟨a, b, ht, hq⟩
        simp only [if_pos h1, if_pos h2, if_pos hq]; exact move30c p v t w hg ht hq
      · have h1 : ¬ okMv p v t := fun h => hq h.2.2.2
        simp only [if_neg h1, if_pos h2, if_neg hq]; exact move30d p v t w hg ht hq
    · have h1 : ¬ okMv p v t := fun h => ht h.2.2.1
      have h2 : ¬ (okP p ∧ okV v ∧ okT t) := fun h => ht h.2.2
      simp only [if_neg h1, if_neg h2]; exact move30b p v t w hg ht
  · have h1 : ¬ okMv p v t := fun h => hg (okGp.2 ⟨h.1, h.2.1⟩)
    have h2 : ¬ (okP p ∧ okV v ∧ okT t) := fun h => hg (okGp.2 ⟨h.1, h.2.1⟩)
    simp only [if_neg h1, if_neg h2]; exact move30a p v t w hg
end Go.Proofs.Ytdflamblbhpngaa
