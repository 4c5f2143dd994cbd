/- Package geometry: Slant, Miss. -/
import Derived.Test.YtdflamblbhpngaaRows
import Derived.WalkKit
import Derived.WalkLawsBesides
import Derived.WalkSpells
import Derived.ProofKit
import Derived.Below
import Derived.Outline
import Derived.Lib.Hide
import Derived.Deep.RegionWith
import Derived.Deep.RegionHeld3
import Derived.Deep.DrawnRows
import Derived.StillTailTactics
import Derived.BigQuiet
import Derived.Deep.QuietTactic
import Derived.Deep.LoopGhost
import Derived.IntWalk
import Derived.Test.YtdflamblbhpngaaGeH
namespace Go.Proofs.Ytdflamblbhpngaa
open Go.RowKit
attribute [local go_sem ↓] Go.wp_at_zero Go.wp_at_succ
attribute [local go_sem] wrap_lit

theorem slc45 (m n : Int) (g : Nat) (w : World) (hc : w.cell? ⟨g, 0, none⟩ = some (.int .i64 n)) (h0 : 0 ≤ m) (h1 : m ≤ 40000) : Calls Try.prog 45 #[.int .i64 m, .pointer (some ⟨g, 0, none⟩)] w fun e w' => e = .returned (.bool (decide (9025 * m * m ≤ n))) ∧ w = w' := by
  obtain ⟨m1, m2⟩ := mul_bd (a := 9025 * m) (A := 361000000) (b := m) (B := 40000) (by omega) (by omega) (by omega) (by omega)
  have q1 : IntKind.i64.wrap (9025 * m * m) = 9025 * m * m := IntWalk.i64_in _ (by omega)
  clear m1 m2
  go_enter Try.func45, Try.ntmps45
  go_wp2_with fail
  go_ret
  exact ⟨rfl, rfl⟩

def slR (n : Int) : Int := (gre (fun r => decide (9025 * (r : Int) * r ≤ n)) 32767 : Nat)
theorem sq_mono (a b : Int) (h0 : 0 ≤ a) (h : a ≤ b) : 9025 * a * a ≤ 9025 * b * b := Int.mul_le_mul (by omega) h h0 (by omega)
theorem slR_iff (n m : Int) (h0 : 0 < m) (h1 : m < 32768) : m ≤ slR n ↔ 9025 * m * m ≤ n := by
  unfold slR
  have := gre_iff (fun r => decide (9025 * (r : Int) * r ≤ n)) 32767 (fun a b hab hb => by
    simp only [decide_eq_true_eq] at hb ⊢
    exact Int.le_trans (sq_mono a b (by omega) (by omega)) hb) m.toNat (by omega) (by omega)
  rw [decide_eq_true_eq, Int.toNat_of_nonneg (by omega)] at this
  rw [← this]
  omega
theorem slR_bd (n : Int) : 0 ≤ slR n ∧ slR n < 32768 := by
  unfold slR
  have := gre_le (fun r => decide (9025 * (r : Int) * r ≤ n)) 32767
  omega
def slG (p q : V3) : Int := slR (s2G p q)

set_option maxHeartbeats 1000000 in
theorem slant27 (p q : V3) (w : World) : Calls Try.prog 27 #[.agg #[.int .i64 p.x, .int .i64 p.y, .int .i64 p.z], .agg #[.int .i64 q.x, .int .i64 q.y, .int .i64 q.z]] w fun e w' => e = .returned (.tuple #[.int .i64 (slG p q), .int .i64 (erS p q)]) ∧ Below w.heap.size w w' := by
  have T := Lib.hid (slant25 p q)
  go_enter Try.func27, Try.ntmps27
  go_wp2_with fail
  refine (T.out _).mono ?_
  rintro e w1 ⟨rfl, hb1⟩
  have hc1 := (bcell hb1).1
  have hf1 := (bcell hb1).2
  have hs1 := hb1.size
  try simp at hs1
  have hz1_0 : w.heap.size < w1.heap.size := by omega
  have hz1_1 : w.heap.size + 1 < w1.heap.size := by omega
  have B1 : Below w.heap.size w w1 := (((Below.refl _ _).alloc (Nat.le_refl _) _).alloc (by first | omega | (simp; omega) | simp) _).trans (hb1.mono (by first | omega | (simp; omega) | simp))
  go_wp2_with fail
  refine (great45 _ (slG p q) _ (slR_bd _).1 (slR_bd _).2 (fun m wr m0 m1 hbw => ?_)).mono ?_
  · have hc : wr.cell? ⟨w1.heap.size, 0, none⟩ = some (.int .i64 (s2G p q)) := (hbw.cell (p := ⟨w1.heap.size, 0, none⟩) (by simp)).trans (World.cell?_alloc_at _ _ _ _ rfl)
    refine (slc45 m _ _ wr hc (by omega) (by omega)).mono ?_
    rintro e w' ⟨rfl, rfl⟩
    exact ⟨by congr 2; exact decide_eq_decide.2 (slR_iff _ _ m0 m1).symm, Below.refl _ _⟩
  · rintro e w2 ⟨rfl, hb2⟩
    go_wp2_with fail
    go_ret2
    exact ⟨rfl, (B1.alloc (by omega) _).trans (hb2.mono (by simp; omega))⟩

/-! ### Miss -/
theorem nearB_mono (pp pv vv d e : Int) (hv : 0 ≤ vv) (h0 : 0 ≤ d) (h : d ≤ e) (hn : nearB pp pv vv d = true) : nearB pp pv vv e = true := by
  unfold nearB at hn ⊢
  simp only [decide_eq_true_eq] at hn ⊢
  have hs := sq_mono d e h0 h
  rcases hn with hn | ⟨h1, h2⟩
  · exact .inl (by omega)
  · have := Int.mul_le_mul_of_nonneg_right (show pp - 9025 * e * e ≤ pp - 9025 * d * d by omega) hv
    exact .inr ⟨h1, by omega⟩
def missR (pp pv vv : Int) : Int := (gre (fun r => !nearB pp pv vv r) 32767 : Nat)
theorem missR_iff (pp pv vv m : Int) (hv : 0 ≤ vv) (h0 : 0 < m) (h1 : m < 32768) : m ≤ missR pp pv vv ↔ nearB pp pv vv m = false := by
  unfold missR
  have := gre_iff (fun r => !nearB pp pv vv r) 32767 (fun a b hab hb => by
    simp only [Bool.not_eq_true'] at hb ⊢
    cases hn : nearB pp pv vv a
    · rfl
    · rw [nearB_mono _ _ _ _ _ hv (by omega) (by omega) hn] at hb; cases hb) m.toNat (by omega) (by omega)
  rw [Bool.not_eq_true', Int.toNat_of_nonneg (by omega)] at this
  rw [← this]
  omega
theorem missR_bd (pp pv vv : Int) : 0 ≤ missR pp pv vv ∧ missR pp pv vv < 32768 := by
  unfold missR
  have := gre_le (fun r => !nearB pp pv vv r) 32767
  omega
def missG (p q v u : V3) : Int := if okG p q v u then missR (ppG p q) (pvG p q v u) (vvG v u) else 0

theorem mic40 (p v : V3) (pp pv vv d : Int) (g : Nat) (w : World) (hb : w.heap[g]? = some (.cells #[.int .i64 p.x, .int .i64 p.y, .int .i64 p.z, .int .i64 v.x, .int .i64 v.y, .int .i64 v.z, .int .i64 pp, .int .i64 pv, .int .i64 vv] 57 (0, 0))) (h : okM pp pv vv d) : Calls Try.prog 40 #[.int .i64 d, .pointer (some ⟨g, 0, none⟩)] w fun e w' => e = .returned (.bool (!nearB pp pv vv d)) ∧ Below w.heap.size w w' := by
  have T := Lib.hid (fun w => near41 p v pp pv vv d w h)
  have c0 : w.cell? ⟨g, 0, none⟩ = some (.int .i64 p.x) := by simp [World.cell?, hb]
  have c1 : w.cell? ⟨g, 1, none⟩ = some (.int .i64 p.y) := by simp [World.cell?, hb]
  have c2 : w.cell? ⟨g, 2, none⟩ = some (.int .i64 p.z) := by simp [World.cell?, hb]
  have c3 : w.cell? ⟨g, 3, none⟩ = some (.int .i64 v.x) := by simp [World.cell?, hb]
  have c4 : w.cell? ⟨g, 4, none⟩ = some (.int .i64 v.y) := by simp [World.cell?, hb]
  have c5 : w.cell? ⟨g, 5, none⟩ = some (.int .i64 v.z) := by simp [World.cell?, hb]
  have c6 : w.cell? ⟨g, 6, none⟩ = some (.int .i64 pp) := by simp [World.cell?, hb]
  have c7 : w.cell? ⟨g, 7, none⟩ = some (.int .i64 pv) := by simp [World.cell?, hb]
  have c8 : w.cell? ⟨g, 8, none⟩ = some (.int .i64 vv) := by simp [World.cell?, hb]
  clear hb h
  go_enter Try.func40, Try.ntmps40
  go_wp2_with fail
  refine (T.out _).mono ?_
  rintro e w1 ⟨rfl, hb1⟩
  go_wp2_with fail
  go_ret
  exact ⟨rfl, hb1⟩

set_option maxHeartbeats 1000000 in
theorem miss14 (p q v u : V3) (w : World) : Calls Try.prog 14 #[.agg #[.int .i64 p.x, .int .i64 p.y, .int .i64 p.z], .agg #[.int .i64 q.x, .int .i64 q.y, .int .i64 q.z], .agg #[.int .i64 v.x, .int .i64 v.y, .int .i64 v.z], .agg #[.int .i64 u.x, .int .i64 u.y, .int .i64 u.z]] w fun e w' => e = .returned (.tuple #[.int .i64 (missG p q v u), .int .i64 (erG p q v u)]) ∧ Below w.heap.size w w' := by
  unfold missG erG
  by_cases h : okG p q v u
  · simp only [if_pos h]
    have T := Lib.hid (of_ok p q v u h)
    have HB := Lib.hid (bdG p q v u h)
    clear h
    go_enter Try.func14, Try.ntmps14
    go_wp2_with fail
    refine (T.out _).mono ?_
    rintro e w1 ⟨rfl, hb1⟩
    have hc1 := (bcell hb1).1
    have hf1 := (bcell hb1).2
    have hs1 := hb1.size
    try simp at hs1
    have hz1_0 : w.heap.size < w1.heap.size := by omega
    have B1 : Below w.heap.size w w1 := (((((Below.refl _ _).alloc (Nat.le_refl _) _).alloc (by first | omega | (simp; omega) | simp) _).alloc (by first | omega | (simp; omega) | simp) _).alloc (by first | omega | (simp; omega) | simp) _).trans (hb1.mono (by first | omega | (simp; omega) | simp))
    go_wp2_with fail
    refine (great40 _ (missR (ppG p q) (pvG p q v u) (vvG v u)) _ (missR_bd _ _ _).1 (missR_bd _ _ _).2 (fun m wr m0 m1 hbw => ?_)).mono ?_
    · obtain ⟨b1, b2, b3, b4, b5, b6⟩ := HB.out
      refine (mic40 (rp p q) (rv v u) (ppG p q) (pvG p q v u) (vvG v u) m w1.heap.size wr ((hbw.block w1.heap.size (by simp)).trans (heap_alloc_new _ _)) ⟨b1, b2, b3, b4, b5, b6, by omega, by omega⟩).mono ?_
      rintro e w' ⟨rfl, hb⟩
      refine ⟨?_, hb⟩
      congr 2
      have hi := missR_iff (ppG p q) (pvG p q v u) (vvG v u) m b5 m0 m1
      cases hn : nearB (ppG p q) (pvG p q v u) (vvG v u) m
      · exact (decide_eq_true (hi.2 hn)).symm
      · exact (decide_eq_false (fun g => by rw [hi.1 g] at hn; cases hn)).symm
    · rintro e w2 ⟨rfl, hb2⟩
      go_wp2_with fail
      go_ret2
      exact ⟨rfl, (B1.alloc (by omega) _).trans (hb2.mono (by simp; omega))⟩
  · simp only [if_neg h]
    have T := Lib.hid (of_bad p q v u h)
    clear h
    go_enter Try.func14, Try.ntmps14
    go_wp2_with fail
    refine (T.out _).mono ?_
    rintro e w1 ⟨rfl, hb1⟩
    have hc1 := (bcell hb1).1
    have hf1 := (bcell hb1).2
    have hs1 := hb1.size
    try simp at hs1
    have hz1_0 : w.heap.size < w1.heap.size := by omega
    have B1 : Below w.heap.size w w1 := (((((Below.refl _ _).alloc (Nat.le_refl _) _).alloc (by first | omega | (simp; omega) | simp) _).alloc (by first | omega | (simp; omega) | simp) _).alloc (by first | omega | (simp; omega) | simp) _).trans (hb1.mono (by first | omega | (simp; omega) | simp))
    go_wp2_with fail
    go_ret2
    exact ⟨rfl, B1.alloc (by first | omega | (simp; omega) | simp) _⟩
end Go.Proofs.Ytdflamblbhpngaa
