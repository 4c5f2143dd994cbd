/- The laws of chapter 12: long. -/
import Derived.Test.YtmkpblfacnnnoaaRows
import Derived.WalkKit
import Derived.WalkLawsBesides
import Derived.WalkSpells
import Derived.ProofKit
import Derived.Below
import Derived.Outline
import Derived.Lib.Hide
import Derived.Deep.RegionWith
import Derived.Deep.RegionHeld3
import Derived.Deep.DrawnRows
import Derived.StillTailTactics
import Derived.BigQuiet
import Derived.Deep.QuietTactic
import Derived.Deep.LoopGhost
import Derived.IntWalk
import Derived.Test.YtmkpblfacnnnoaaFrO
namespace Go.Proofs.Ytmkpblfacnnnoaa
open Go.RowKit
attribute [local go_sem ↓] Go.wp_at_zero Go.wp_at_succ
attribute [local go_sem] wrap_lit

def lngP (xss : List (List Int)) : Prop := 20 < xss.length ∨ ∃ r, r < xss.length ∧ 70 < (row xss r).length
theorem long_t (A : Option Addr) (cap : Nat) (xss : List (List Int)) (B : Nat) (w : World) (hR : RIs .i64 w B A xss) (hl : xss.length ≤ maxLen) (h : lngP xss) :
    Calls Try.prog 10 #[.slice A xss.length cap] w fun e w' => e = .returned (.bool true) ∧ w = w' := by
  unfold maxLen at hl
  by_cases h20 : 20 < xss.length
  · have hI : (20 : Int) < (xss.length : Int) := by omega
    clear hR
    go_enter Try.func10, Try.ntmps10
    go_wp2_with fail
    go_ret
    exact ⟨rfl, rfl⟩
  · have hI : (xss.length : Int) ≤ 20 := by omega
    have hex : ∃ r, r < xss.length ∧ 70 < (row xss r).length := by
      rcases h with h | h
      · exact absurd h h20
      · exact h
    obtain ⟨r, hr, h70⟩ := hex
    obtain ⟨b, off, rfl, hb, hc⟩ := hR (by omega)
    have HC := Lib.hid hc
    have Hr := Lib.hid (And.intro hr h70)
    clear hc h hr h70 hR h20
    go_enter Try.func10, Try.ntmps10
    go_wp2_with fail
    go_loop [3] (fun i => ∃ k : Nat, k ≤ xss.length ∧ i = .int .i64 k ∧ ∀ q, q < k → (row xss q).length ≤ 70) (fun i => xss.length - (intOf i).toNat)
    case atStart => exact ⟨0, Nat.zero_le _, rfl, fun q h => absurd h (by omega)⟩
    case round =>
      obtain ⟨k, hk, rfl, hall⟩ := hrel
      have HA := Lib.hid hall
      clear hall
      by_cases hlt : k < xss.length
      · obtain ⟨Ar, Cr, hcell, -⟩ := HC.out k hlt
        have hkI : (k : Int) < (xss.length : Int) := by omega
        have hk0 : (0 : Int) ≤ (k : Int) := by omega
        by_cases hg : 70 < (row xss k).length
        · have hgI : (70 : Int) < ((row xss k).length : Int) := by omega
          go_wp2_with fail
          go_ret
          exact ⟨rfl, rfl⟩
        · have hgI : ((row xss k).length : Int) ≤ 70 := by omega
          have HA' := Lib.hid (show ∀ q, q < k + 1 → (row xss q).length ≤ 70 from fun q hq => by
            rcases Nat.lt_or_ge q k with g | g
            · exact HA.out q g
            · obtain rfl : q = k := by omega
              omega)
          go_wp2_with fail
          exact ⟨⟨k + 1, by omega, by go_num, HA'.out⟩, by simp [intOf]; omega⟩
      · have h1 := HA.out r (by have := Hr.out.1; omega)
        have := Hr.out.2
        omega
theorem long_f (A : Option Addr) (cap : Nat) (xss : List (List Int)) (B : Nat) (w : World) (hR : RIs .i64 w B A xss) (h : ¬ lngP xss) :
    Calls Try.prog 10 #[.slice A xss.length cap] w fun e w' => e = .returned (.bool false) ∧ w = w' := by
  have h20 : xss.length ≤ 20 := by
    rcases Nat.lt_or_ge 20 xss.length with g | g
    · exact absurd (.inl g) h
    · exact g
  have hI : (xss.length : Int) ≤ 20 := by omega
  have H70 := Lib.hid (show ∀ r, r < xss.length → (row xss r).length ≤ 70 from fun r hr => by
    rcases Nat.lt_or_ge 70 (row xss r).length with g | g
    · exact absurd (.inr ⟨r, hr, g⟩) h
    · exact g)
  have HR := Lib.hid hR
  clear h hR
  go_enter Try.func10, Try.ntmps10
  go_wp2_with fail
  go_loop [3] (fun i => ∃ k : Nat, k ≤ xss.length ∧ i = .int .i64 k) (fun i => xss.length - (intOf i).toNat)
  case atStart => exact ⟨0, Nat.zero_le _, rfl⟩
  case round =>
    obtain ⟨k, hk, rfl⟩ := hrel
    by_cases hlt : k < xss.length
    · obtain ⟨b, off, Ar, Cr, rfl, hb, hcell, -⟩ := HR.out.at_ hlt
      have hkI : (k : Int) < (xss.length : Int) := by omega
      have hk0 : (0 : Int) ≤ (k : Int) := by omega
      have hg := H70.out k hlt
      have hgI : ((row xss k).length : Int) ≤ 70 := by omega
      go_wp2_with fail
      exact ⟨⟨k + 1, by omega, by go_num⟩, by simp [intOf]; omega⟩
    · have hkI : (xss.length : Int) ≤ (k : Int) := by omega
      go_wp2_with fail
      go_ret
      exact ⟨rfl, rfl⟩
/-- The headers of two rows that a call lays. -/
theorem two_rows {w : World} {B : Nat} {A A' : Option Addr} {cap cap' : Nat} {a b : List Int} (hB : B ≤ w.heap.size) (hA : Is .i64 w B A a) (hA' : Is .i64 w B A' b) :
    RIs .i64 (w.alloc (.cells #[.slice A a.length cap, .slice A' b.length cap'] 22)) (w.heap.size + 1) (some ⟨w.heap.size, 0, none⟩) [a, b] := fun _ => by
  have hb : Below w.heap.size w (w.alloc (.cells #[.slice A a.length cap, .slice A' b.length cap'] 22)) := (Below.refl _ _).alloc (Nat.le_refl _) _
  refine ⟨w.heap.size, 0, rfl, by omega, fun r hr => ?_⟩
  have hr' : r < 2 := hr
  rcases (by omega : r = 0 ∨ r = 1) with rfl | rfl
  · exact ⟨A, cap, World.cell?_alloc_at _ _ _ _ rfl, ((hA.mono hB).below hb).mono (by omega)⟩
  · exact ⟨A', cap', World.cell?_alloc_at _ _ _ _ rfl, ((hA'.mono hB).below hb).mono (by omega)⟩
theorem lng_two {a b : List Int} : lngP [a, b] ↔ 70 < a.length ∨ 70 < b.length := by
  unfold lngP
  constructor
  · rintro (h | ⟨r, hr, h⟩)
    · simp at h
    · have hr' : r < 2 := hr
      rcases (by omega : r = 0 ∨ r = 1) with rfl | rfl
      · exact .inl h
      · exact .inr h
  · rintro (h | h)
    · exact .inr ⟨0, by simp, h⟩
    · exact .inr ⟨1, by simp, h⟩
theorem Is.len {k : IntKind} {w : World} {B : Nat} {A : Option Addr} {xs : List Int} (_h : Is k w B A xs) : True := trivial
end Go.Proofs.Ytmkpblfacnnnoaa
