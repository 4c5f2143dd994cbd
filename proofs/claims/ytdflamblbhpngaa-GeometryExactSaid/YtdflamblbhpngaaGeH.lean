/- Package geometry: greatest, Slant, Miss. -/
import Derived.Test.YtdflamblbhpngaaRows
import Derived.WalkKit
import Derived.WalkLawsBesides
import Derived.WalkSpells
import Derived.ProofKit
import Derived.Below
import Derived.Outline
import Derived.Lib.Hide
import Derived.Deep.RegionWith
import Derived.Deep.RegionHeld3
import Derived.Deep.DrawnRows
import Derived.StillTailTactics
import Derived.BigQuiet
import Derived.Deep.QuietTactic
import Derived.Deep.LoopGhost
import Derived.IntWalk
import Derived.Test.YtdflamblbhpngaaGeG
namespace Go.Proofs.Ytdflamblbhpngaa
open Go.RowKit
attribute [local go_sem ↓] Go.wp_at_zero Go.wp_at_succ
attribute [local go_sem] wrap_lit

/-- The greatest number up to K for which P holds; 0 if there is none. -/
def gre (P : Nat → Bool) : Nat → Nat
  | 0 => 0
  | k + 1 => if P (k + 1) then k + 1 else gre P k
theorem gre_le (P : Nat → Bool) (K : Nat) : gre P K ≤ K := by
  induction K with
  | zero => exact Nat.le_refl _
  | succ k ih => unfold gre; split <;> omega
theorem gre_iff (P : Nat → Bool) (K : Nat) (hd : ∀ a b, a ≤ b → P b = true → P a = true) : ∀ m, 0 < m → m ≤ K → (m ≤ gre P K ↔ P m = true) := by
  induction K with
  | zero => intro m h1 h2; omega
  | succ k ih =>
    intro m h1 h2
    unfold gre
    by_cases hk : P (k + 1) = true
    · rw [if_pos hk]
      exact ⟨fun _ => hd m (k + 1) h2 hk, fun _ => h2⟩
    · rw [if_neg hk]
      by_cases hm : m = k + 1
      · subst hm
        have := gre_le P k
        exact ⟨fun h => by omega, fun h => absurd h hk⟩
      · exact ih m h1 (by omega)
theorem gre_unique (P : Nat → Bool) (K R : Nat) (hd : ∀ a b, a ≤ b → P b = true → P a = true) (hR : R ≤ K) (h1 : R = 0 ∨ P R = true) (h2 : P (R + 1) = false) : gre P K = R := by
  have hg := gre_le P K
  rcases Nat.lt_trichotomy (gre P K) R with h | h | h
  · rcases h1 with h1 | h1
    · omega
    · have := (gre_iff P K hd R (by omega) hR).2 h1; omega
  · exact h
  · have := (gre_iff P K hd (R + 1) (by omega) (by omega)).1 (by omega)
    rw [this] at h2; cases h2

set_option maxHeartbeats 1000000 in
theorem great45 (c : Value) (R : Int) (w : World) (h0 : 0 ≤ R) (h1 : R < 32768)
    (hC : ∀ (m : Int) (wr : World), 0 < m → m < 32768 → Below w.heap.size w wr → Calls Try.prog 45 #[.int .i64 m, c] wr fun e w' => e = .returned (.bool (decide (m ≤ R))) ∧ Below wr.heap.size wr w') :
    Calls Try.prog 39 #[.int .i64 0, .int .i64 32768, .func (.func 45) #[] #[c]] w fun e w' => e = .returned (.int .i64 R) ∧ Below w.heap.size w w' := by
  have HC := Lib.hid hC; clear hC
  go_enter Try.func39, Try.ntmps39
  go_wp2_with fail
  go_loopw [0, 1] (fun x y wr => ∃ a b : Int, x = .int .i64 a ∧ y = .int .i64 b ∧ 0 ≤ a ∧ a ≤ R ∧ R < b ∧ b ≤ 32768 ∧ Below w.heap.size w wr) (fun x y _ => (intOf y - intOf x).toNat)
  case atStart => exact ⟨0, 32768, rfl, rfl, by omega, h0, h1, by omega, Below.refl _ _⟩
  case round =>
    obtain ⟨a, b, rfl, rfl, ha, haR, hRb, hb, hbw⟩ := hrel
    by_cases hlt : 1 < b - a
    · have m1 : 0 < a + (b - a) / 2 := by omega
      have m2 : a + (b - a) / 2 < 32768 := by omega
      by_cases hm : a + (b - a) / 2 ≤ R
      · have T : Hid (Calls Try.prog 45 #[.int .i64 (a + (b - a) / 2), c] wr fun e w' => e = .returned (.bool true) ∧ Below wr.heap.size wr w') := Lib.hid (by have := HC.out _ wr m1 m2 hbw; rwa [decide_eq_true hm] at this)
        go_wp2_with fail
        refine T.out.mono ?_
        rintro e w1 ⟨rfl, hb1⟩
        go_wp2_with fail
        exact ⟨⟨a + (b - a) / 2, b, rfl, rfl, by omega, hm, hRb, hb, hbw.trans (hb1.mono hbw.size)⟩, by simp [intOf]; omega⟩
      · have T : Hid (Calls Try.prog 45 #[.int .i64 (a + (b - a) / 2), c] wr fun e w' => e = .returned (.bool false) ∧ Below wr.heap.size wr w') := Lib.hid (by have := HC.out _ wr m1 m2 hbw; rwa [decide_eq_false hm] at this)
        go_wp2_with fail
        refine T.out.mono ?_
        rintro e w1 ⟨rfl, hb1⟩
        go_wp2_with fail
        exact ⟨⟨a, a + (b - a) / 2, rfl, rfl, ha, haR, by omega, by omega, hbw.trans (hb1.mono hbw.size)⟩, by simp [intOf]; omega⟩
    · obtain rfl : a = R := by omega
      go_wp2_with fail
      go_ret
      exact ⟨rfl, hbw⟩

set_option maxHeartbeats 1000000 in
theorem great40 (c : Value) (R : Int) (w : World) (h0 : 0 ≤ R) (h1 : R < 32768)
    (hC : ∀ (m : Int) (wr : World), 0 < m → m < 32768 → Below w.heap.size w wr → Calls Try.prog 40 #[.int .i64 m, c] wr fun e w' => e = .returned (.bool (decide (m ≤ R))) ∧ Below wr.heap.size wr w') :
    Calls Try.prog 39 #[.int .i64 0, .int .i64 32768, .func (.func 40) #[] #[c]] w fun e w' => e = .returned (.int .i64 R) ∧ Below w.heap.size w w' := by
  have HC := Lib.hid hC; clear hC
  go_enter Try.func39, Try.ntmps39
  go_wp2_with fail
  go_loopw [0, 1] (fun x y wr => ∃ a b : Int, x = .int .i64 a ∧ y = .int .i64 b ∧ 0 ≤ a ∧ a ≤ R ∧ R < b ∧ b ≤ 32768 ∧ Below w.heap.size w wr) (fun x y _ => (intOf y - intOf x).toNat)
  case atStart => exact ⟨0, 32768, rfl, rfl, by omega, h0, h1, by omega, Below.refl _ _⟩
  case round =>
    obtain ⟨a, b, rfl, rfl, ha, haR, hRb, hb, hbw⟩ := hrel
    by_cases hlt : 1 < b - a
    · have m1 : 0 < a + (b - a) / 2 := by omega
      have m2 : a + (b - a) / 2 < 32768 := by omega
      by_cases hm : a + (b - a) / 2 ≤ R
      · have T : Hid (Calls Try.prog 40 #[.int .i64 (a + (b - a) / 2), c] wr fun e w' => e = .returned (.bool true) ∧ Below wr.heap.size wr w') := Lib.hid (by have := HC.out _ wr m1 m2 hbw; rwa [decide_eq_true hm] at this)
        go_wp2_with fail
        refine T.out.mono ?_
        rintro e w1 ⟨rfl, hb1⟩
        go_wp2_with fail
        exact ⟨⟨a + (b - a) / 2, b, rfl, rfl, by omega, hm, hRb, hb, hbw.trans (hb1.mono hbw.size)⟩, by simp [intOf]; omega⟩
      · have T : Hid (Calls Try.prog 40 #[.int .i64 (a + (b - a) / 2), c] wr fun e w' => e = .returned (.bool false) ∧ Below wr.heap.size wr w') := Lib.hid (by have := HC.out _ wr m1 m2 hbw; rwa [decide_eq_false hm] at this)
        go_wp2_with fail
        refine T.out.mono ?_
        rintro e w1 ⟨rfl, hb1⟩
        go_wp2_with fail
        exact ⟨⟨a, a + (b - a) / 2, rfl, rfl, ha, haR, by omega, by omega, hbw.trans (hb1.mono hbw.size)⟩, by simp [intOf]; omega⟩
    · obtain rfl : a = R := by omega
      go_wp2_with fail
      go_ret
      exact ⟨rfl, hbw⟩
end Go.Proofs.Ytdflamblbhpngaa
