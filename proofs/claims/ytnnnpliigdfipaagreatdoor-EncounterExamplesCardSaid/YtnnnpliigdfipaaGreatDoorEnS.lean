/- Slant. -/
import Derived.Test.YtnnnpliigdfipaaGreatDoorRows
import Derived.WalkKit
import Derived.WalkLawsBesides
import Derived.WalkSpells
import Derived.ProofKit
import Derived.Below
import Derived.Outline
import Derived.Lib.Hide
import Derived.Deep.RegionWith
import Derived.Deep.RegionHeld3
import Derived.StillTailTactics
import Derived.BigQuiet
import Derived.Deep.QuietTactic
import Derived.Deep.LoopGhost
import Derived.IntWalk
import Derived.Test.YtnnnpliigdfipaaGreatDoorEnV
namespace Go.Proofs.YtnnnpliigdfipaaGreatDoor
open Go.RowKit
attribute [local go_sem ↓] Go.wp_at_zero Go.wp_at_succ
attribute [local go_sem] wrap_lit
/-- The greatest number up to K for which P holds; 0 if there is none. -/
def gre (P : Nat → Bool) : Nat → Nat
  | 0 => 0
  | k + 1 => if P (k + 1) then k + 1 else gre P k
theorem gre_le (P : Nat → Bool) (K : Nat) : gre P K ≤ K := by
  induction K with
  | zero => exact Nat.le_refl _
  | succ k ih => unfold gre; split <;> omega
theorem gre_iff (P : Nat → Bool) (K : Nat) (hd : ∀ a b, a ≤ b → P b = true → P a = true) : ∀ m, 0 < m → m ≤ K → (m ≤ gre P K ↔ P m = true) := by
  induction K with
  | zero => intro m h1 h2; omega
  | succ k ih =>
    intro m h1 h2
    unfold gre
    by_cases hk : P (k + 1) = true
    · rw [if_pos hk]
      exact ⟨fun _ => hd m (k + 1) h2 hk, fun _ => h2⟩
    · rw [if_neg hk]
      by_cases hm : m = k + 1
      · subst hm
        have := gre_le P k
        exact ⟨fun h => by omega, fun h => absurd h hk⟩
      · exact ih m h1 (by omega)
theorem gre_unique (P : Nat → Bool) (K R : Nat) (hd : ∀ a b, a ≤ b → P b = true → P a = true) (hR : R ≤ K) (h1 : R = 0 ∨ P R = true) (h2 : P (R + 1) = false) : gre P K = R := by
  have hg := gre_le P K
  rcases Nat.lt_trichotomy (gre P K) R with h | h | h
  · rcases h1 with h1 | h1
    · omega
    · have := (gre_iff P K hd R (by omega) hR).2 h1; omega
  · exact h
  · have := (gre_iff P K hd (R + 1) (by omega) (by omega)).1 (by omega)
    rw [this] at h2; cases h2

set_option maxHeartbeats 1000000 in
theorem great45 (c : Value) (R : Int) (w : World) (h0 : 0 ≤ R) (h1 : R < 32768)
    (hC : ∀ (m : Int) (wr : World), 0 < m → m < 32768 → Below w.heap.size w wr → Calls Tryz.prog 88 #[.int .i64 m, c] wr fun e w' => e = .returned (.bool (decide (m ≤ R))) ∧ Below wr.heap.size wr w') :
    Calls Tryz.prog 87 #[.int .i64 0, .int .i64 32768, .func (.func 88) #[] #[c]] w fun e w' => e = .returned (.int .i64 R) ∧ Below w.heap.size w w' := by
  have HC := Lib.hid hC; clear hC
  go_enter Tryz.func87, Tryz.ntmps87
  go_wp2_with fail
  go_loopw [0, 1] (fun x y wr => ∃ a b : Int, x = .int .i64 a ∧ y = .int .i64 b ∧ 0 ≤ a ∧ a ≤ R ∧ R < b ∧ b ≤ 32768 ∧ Below w.heap.size w wr) (fun x y _ => (intOf y - intOf x).toNat)
  case atStart => exact ⟨0, 32768, rfl, rfl, by omega, h0, h1, by omega, Below.refl _ _⟩
  case round =>
    obtain ⟨a, b, rfl, rfl, ha, haR, hRb, hb, hbw⟩ := hrel
    by_cases hlt : 1 < b - a
    · have m1 : 0 < a + (b - a) / 2 := by omega
      have m2 : a + (b - a) / 2 < 32768 := by omega
      by_cases hm : a + (b - a) / 2 ≤ R
      · have T : Hid (Calls Tryz.prog 88 #[.int .i64 (a + (b - a) / 2), c] wr fun e w' => e = .returned (.bool true) ∧ Below wr.heap.size wr w') := Lib.hid (by have := HC.out _ wr m1 m2 hbw; rwa [decide_eq_true hm] at this)
        go_wp2_with fail
        refine T.out.mono ?_
        rintro e w1 ⟨rfl, hb1⟩
        go_wp2_with fail
        exact ⟨⟨a + (b - a) / 2, b, rfl, rfl, by omega, hm, hRb, hb, hbw.trans (hb1.mono hbw.size)⟩, by simp [intOf]; omega⟩
      · have T : Hid (Calls Tryz.prog 88 #[.int .i64 (a + (b - a) / 2), c] wr fun e w' => e = .returned (.bool false) ∧ Below wr.heap.size wr w') := Lib.hid (by have := HC.out _ wr m1 m2 hbw; rwa [decide_eq_false hm] at this)
        go_wp2_with fail
        refine T.out.mono ?_
        rintro e w1 ⟨rfl, hb1⟩
        go_wp2_with fail
        exact ⟨⟨a, a + (b - a) / 2, rfl, rfl, ha, haR, by omega, by omega, hbw.trans (hb1.mono hbw.size)⟩, by simp [intOf]; omega⟩
    · obtain rfl : a = R := by omega
      go_wp2_with fail
      go_ret
      exact ⟨rfl, hbw⟩

theorem slc45 (m n : Int) (g : Nat) (w : World) (hc : w.cell? ⟨g, 0, none⟩ = some (.int .i64 n)) (h0 : 0 ≤ m) (h1 : m ≤ 40000) : Calls Tryz.prog 88 #[.int .i64 m, .pointer (some ⟨g, 0, none⟩)] w fun e w' => e = .returned (.bool (decide (9025 * m * m ≤ n))) ∧ w = w' := by
  obtain ⟨m1, m2⟩ := mul_bd (a := 9025 * m) (A := 361000000) (b := m) (B := 40000) (by omega) (by omega) (by omega) (by omega)
  have q1 : IntKind.i64.wrap (9025 * m * m) = 9025 * m * m := IntWalk.i64_in _ (by omega)
  clear m1 m2
  go_enter Tryz.func88, Tryz.ntmps88
  go_wp2_with fail
  go_ret
  exact ⟨rfl, rfl⟩

def slR (n : Int) : Int := (gre (fun r => decide (9025 * (r : Int) * r ≤ n)) 32767 : Nat)
theorem sq_mono (a b : Int) (h0 : 0 ≤ a) (h : a ≤ b) : 9025 * a * a ≤ 9025 * b * b := Int.mul_le_mul (by omega) h h0 (by omega)
theorem slR_iff (n m : Int) (h0 : 0 < m) (h1 : m < 32768) : m ≤ slR n ↔ 9025 * m * m ≤ n := by
  unfold slR
  have := gre_iff (fun r => decide (9025 * (r : Int) * r ≤ n)) 32767 (fun a b hab hb => by
    simp only [decide_eq_true_eq] at hb ⊢
    exact Int.le_trans (sq_mono a b (by omega) (by omega)) hb) m.toNat (by omega) (by omega)
  rw [decide_eq_true_eq, Int.toNat_of_nonneg (by omega)] at this
  rw [← this]
  omega
theorem slR_bd (n : Int) : 0 ≤ slR n ∧ slR n < 32768 := by
  unfold slR
  have := gre_le (fun r => decide (9025 * (r : Int) * r ≤ n)) 32767
  omega
def slG (p q : V3) : Int := slR (s2G p q)

set_option maxHeartbeats 1000000 in
theorem slant27 (p q : V3) (w : World) : Calls Tryz.prog 55 #[.agg #[.int .i64 p.x, .int .i64 p.y, .int .i64 p.z], .agg #[.int .i64 q.x, .int .i64 q.y, .int .i64 q.z]] w fun e w' => e = .returned (.tuple #[.int .i64 (slG p q), .int .i64 (erS p q)]) ∧ Below w.heap.size w w' := by
  have T := Lib.hid (slant25 p q)
  go_enter Tryz.func55, Tryz.ntmps55
  go_wp2_with fail
  refine (T.out _).mono ?_
  rintro e w1 ⟨rfl, hb1⟩
  have hc1 := (bcell hb1).1
  have hf1 := (bcell hb1).2
  have hs1 := hb1.size
  try simp at hs1
  have hz1_0 : w.heap.size < w1.heap.size := by omega
  have hz1_1 : w.heap.size + 1 < w1.heap.size := by omega
  have B1 : Below w.heap.size w w1 := (((Below.refl _ _).alloc (Nat.le_refl _) _).alloc (by first | omega | (simp; omega) | simp) _).trans (hb1.mono (by first | omega | (simp; omega) | simp))
  go_wp2_with fail
  refine (great45 _ (slG p q) _ (slR_bd _).1 (slR_bd _).2 (fun m wr m0 m1 hbw => ?_)).mono ?_
  · have hc : wr.cell? ⟨w1.heap.size, 0, none⟩ = some (.int .i64 (s2G p q)) := (hbw.cell (p := ⟨w1.heap.size, 0, none⟩) (by simp)).trans (World.cell?_alloc_at _ _ _ _ rfl)
    refine (slc45 m _ _ wr hc (by omega) (by omega)).mono ?_
    rintro e w' ⟨rfl, rfl⟩
    exact ⟨by congr 2; exact decide_eq_decide.2 (slR_iff _ _ m0 m1).symm, Below.refl _ _⟩
  · rintro e w2 ⟨rfl, hb2⟩
    go_wp2_with fail
    go_ret2
    exact ⟨rfl, (B1.alloc (by omega) _).trans (hb2.mono (by simp; omega))⟩
end Go.Proofs.YtnnnpliigdfipaaGreatDoor
