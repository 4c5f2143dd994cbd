/- Slant of the reference of package geometry. -/
import Derived.Test.YtdflamblbhpngaaRows
import Derived.WalkKit
import Derived.WalkLawsBesides
import Derived.WalkSpells
import Derived.ProofKit
import Derived.Below
import Derived.Outline
import Derived.Lib.Hide
import Derived.Deep.RegionWith
import Derived.Deep.RegionHeld3
import Derived.Deep.DrawnRows
import Derived.StillTailTactics
import Derived.BigQuiet
import Derived.Deep.QuietTactic
import Derived.Deep.LoopGhost
import Derived.IntWalk
import Derived.Test.YtdflamblbhpngaaGeK
namespace Go.Proofs.Ytdflamblbhpngaa
open Go.RowKit
attribute [local go_sem ↓] Go.wp_at_zero Go.wp_at_succ
attribute [local go_sem] wrap_lit

theorem pp_bd (p q : V3) (h1 : okP p) (h2 : okP q) : 0 ≤ ppG p q ∧ ppG p q ≤ 5000000000000 := by
  have k : -1556480 ≤ (rp p q).x ∧ (rp p q).x ≤ 1556480 ∧ -1556480 ≤ (rp p q).y ∧ (rp p q).y ≤ 1556480 ∧ -51000 ≤ (rp p q).z ∧ (rp p q).z ≤ 51000 := by
    unfold okP at h1 h2; unfold rp; dsimp only; omega
  obtain ⟨k1, k2, k3, k4, k5, k6⟩ := k
  obtain ⟨m1, m2⟩ := mul_bd (a := (rp p q).x) (A := 1556480) (b := (rp p q).x) (B := 1556480) (by omega) (by omega) (by omega) (by omega)
  obtain ⟨m3, m4⟩ := mul_bd (a := (rp p q).y) (A := 1556480) (b := (rp p q).y) (B := 1556480) (by omega) (by omega) (by omega) (by omega)
  obtain ⟨m5, m6⟩ := mul_bd (a := (rp p q).z) (A := 51000) (b := (rp p q).z) (B := 51000) (by omega) (by omega) (by omega) (by omega)
  have n1 := sq_nn (rp p q).x; have n2 := sq_nn (rp p q).y; have n3 := sq_nn (rp p q).z
  unfold ppG dot
  omega
theorem s2_bd (p q : V3) : 0 ≤ s2G p q ∧ s2G p q ≤ 5000000000000 := by
  unfold s2G
  by_cases h : okS p q
  · rw [if_pos h]; exact pp_bd p q h.1 h.2
  · rw [if_neg h]; omega
/-- One step more. -/
theorem sl_step (n r : Int) (hn : n ≤ 5000000000000) (h0 : 0 ≤ r) (h1 : r ≤ slR n) : 9025 * (r + 1) * (r + 1) ≤ n ↔ r + 1 ≤ slR n := by
  have hb := slR_bd n
  by_cases h : r + 1 < 32768
  · exact (slR_iff n (r + 1) (by omega) h).symm
  · have hr : r = 32767 := by omega
    subst hr
    constructor
    · intro h; omega
    · intro h; omega
theorem slR0 : slR 0 = 0 := by
  have hb := slR_bd 0
  rcases Int.lt_or_le 0 (slR 0) with h | h
  · have := (slR_iff 0 (slR 0) h hb.2).1 (Int.le_refl _)
    have h2 := Int.mul_pos (Int.mul_pos (show (0 : Int) < 9025 by omega) h) h
    omega
  · omega

set_option maxHeartbeats 1000000 in
theorem slant28 (p q : V3) (w : World) : Calls Try.prog 28 #[.agg #[.int .i64 p.x, .int .i64 p.y, .int .i64 p.z], .agg #[.int .i64 q.x, .int .i64 q.y, .int .i64 q.z]] w fun e w' => e = .returned (.tuple #[.int .i64 (slG p q), .int .i64 (erS p q)]) ∧ Below w.heap.size w w' := by
  by_cases h : okS p q
  · have hE : erS p q = 0 := by unfold erS; rw [if_pos h]
    have T : Hid (∀ w, Calls Try.prog 26 #[.agg #[.int .i64 p.x, .int .i64 p.y, .int .i64 p.z], .agg #[.int .i64 q.x, .int .i64 q.y, .int .i64 q.z]] w fun e w' => e = .returned (.tuple #[.int .i64 (s2G p q), .int .i64 0]) ∧ Below w.heap.size w w') := Lib.hid (fun w => by have H := slant26 p q w; rw [hE] at H; exact H)
    rw [hE]
    clear h hE
    have hn := s2_bd p q
    have hb := slR_bd (s2G p q)
    obtain ⟨n1, n2⟩ := hn
    obtain ⟨r1, r2⟩ := hb
    unfold slG
    generalize s2G p q = n at T n1 n2 r1 r2 ⊢
    go_enter Try.func28, Try.ntmps28
    go_wp2_with fail
    refine (T.out _).mono ?_
    rintro e w1 ⟨rfl, hb1⟩
    have hc1 := (bcell hb1).1
    have hf1 := (bcell hb1).2
    have hs1 := hb1.size
    try simp at hs1
    have B1 : Below w.heap.size w w1 := (((Below.refl _ _).alloc (Nat.le_refl _) _).alloc (by first | omega | (simp; omega) | simp) _).trans (hb1.mono (by first | omega | (simp; omega) | simp))
    go_wp2_with fail
    go_loop [8] (fun r => ∃ m : Int, r = .int .i64 m ∧ 0 ≤ m ∧ m ≤ slR n) (fun r => (slR n - intOf r).toNat)
    case atStart => exact ⟨0, rfl, by omega, r1⟩
    case round =>
      obtain ⟨m, rfl, m0, m1⟩ := hrel
      obtain ⟨b1, b2⟩ := mul_bd (a := 9025 * (m + 1)) (A := 295731200) (b := m + 1) (B := 32768) (by omega) (by omega) (by omega) (by omega)
      have q1 : IntKind.i64.wrap (9025 * (m + 1) * (m + 1)) = 9025 * (m + 1) * (m + 1) := IntWalk.i64_in _ (by omega)
      have HS := Lib.hid (sl_step n m n2 m0 m1)
      clear b1 b2
      by_cases hlt : m + 1 ≤ slR n
      · have hd := HS.out.2 hlt
        go_wp2_with fail
        exact ⟨⟨m + 1, rfl, by omega, hlt⟩, by simp [intOf]; omega⟩
      · have hd : n < 9025 * (m + 1) * (m + 1) := by
          rcases Int.lt_or_le n (9025 * (m + 1) * (m + 1)) with g | g
          · exact g
          · exact absurd (HS.out.1 g) hlt
        have hm : m = slR n := by omega
        have Hm := Lib.hid hm
        have hD : decide (9025 * (m + 1) * (m + 1) ≤ n) = false := by simpa using hd
        clear hm hlt hd
        go_wp2_with fail
        go_ret2
        rw [← Hm.out]
        exact ⟨rfl, B1⟩
  · have hE : erS p q = 1 := by unfold erS; rw [if_neg h]
    have hS : s2G p q = 0 := by unfold s2G; rw [if_neg h]
    have hL : slG p q = 0 := by unfold slG; rw [hS]; exact slR0
    have T : Hid (∀ w, Calls Try.prog 26 #[.agg #[.int .i64 p.x, .int .i64 p.y, .int .i64 p.z], .agg #[.int .i64 q.x, .int .i64 q.y, .int .i64 q.z]] w fun e w' => e = .returned (.tuple #[.int .i64 0, .int .i64 1]) ∧ Below w.heap.size w w') := Lib.hid (fun w => by have H := slant26 p q w; rw [hE, hS] at H; exact H)
    rw [hE, hL]
    clear h hE hS hL
    go_enter Try.func28, Try.ntmps28
    go_wp2_with fail
    refine (T.out _).mono ?_
    rintro e w1 ⟨rfl, hb1⟩
    have hc1 := (bcell hb1).1
    have hf1 := (bcell hb1).2
    have hs1 := hb1.size
    try simp at hs1
    have B1 : Below w.heap.size w w1 := (((Below.refl _ _).alloc (Nat.le_refl _) _).alloc (by first | omega | (simp; omega) | simp) _).trans (hb1.mono (by first | omega | (simp; omega) | simp))
    go_wp2_with fail
    go_ret2
    exact ⟨rfl, B1⟩
end Go.Proofs.Ytdflamblbhpngaa
