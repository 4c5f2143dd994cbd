/- The search over all matchings: better; CopyPairs. -/
import Derived.Test.YtmkpblfacnnnoaaRows
import Derived.WalkKit
import Derived.WalkLawsBesides
import Derived.WalkSpells
import Derived.ProofKit
import Derived.Below
import Derived.Outline
import Derived.Lib.Hide
import Derived.Deep.RegionWith
import Derived.Deep.RegionHeld3
import Derived.Deep.DrawnRows
import Derived.StillTailTactics
import Derived.BigQuiet
import Derived.Deep.QuietTactic
import Derived.Deep.LoopGhost
import Derived.IntWalk
import Derived.Test.YtmkpblfacnnnoaaFrR
namespace Go.Proofs.Ytmkpblfacnnnoaa
open Go.RowKit
attribute [local go_sem ↓] Go.wp_at_zero Go.wp_at_succ
attribute [local go_sem] wrap_lit

theorem lxl_at : ∀ {l l' : List (Nat × Nat)} {k : Nat}, (∀ j, j < k → l.getD j (0, 0) = l'.getD j (0, 0)) → k < l.length → k < l'.length → l.getD k (0, 0) ≠ l'.getD k (0, 0) →
    lxl l l' = decide ((l.getD k (0, 0)).1 < (l'.getD k (0, 0)).1 ∨ (l.getD k (0, 0)).1 = (l'.getD k (0, 0)).1 ∧ (l.getD k (0, 0)).2 < (l'.getD k (0, 0)).2)
  | [], _, _, _, h, _, _ => by simp at h
  | _ :: _, [], _, _, _, h, _ => by simp at h
  | p :: l, q :: l', 0, _, _, _, hne => by
    have hne' : p ≠ q := by simpa using hne
    unfold lxl
    rw [if_neg hne']
    rfl
  | p :: l, q :: l', k + 1, h, h1, h2, hne => by
    have e : p = q := by simpa using h 0 (by omega)
    unfold lxl
    rw [if_pos e]
    have := lxl_at (l := l) (l' := l') (k := k) (fun j hj => by simpa using h (j + 1) (by omega)) (by simpa using h1) (by simpa using h2) (by simpa using hne)
    rw [this]
    simp
set_option maxHeartbeats 2000000 in
theorem better35 (A A' : Option Addr) (cap cap' : Nat) (l l' : List (Nat × Nat)) (B : Nat) (w : World) (hA : Is .i64 w B A (flat l)) (hA' : Is .i64 w B A' (flat l')) (hl : l.length ≤ 1000000) :
    Calls Try.prog 35 #[.slice A l.length cap, .slice A' l'.length cap'] w fun e w' => e = .returned (.bool (bet l l')) ∧ DrN w w' := by
  by_cases hlen : l.length = l'.length
  · have hlb : ((l.length : Int) != (l'.length : Int)) = false := by simp [hlen]
    have hbt : bet l l' = lxl l l' := by unfold bet; rw [if_pos hlen]
    rw [hbt]
    clear hbt
    go_enter Try.func35, Try.ntmps35
    go_wp2_with fail
    go_loopw [5] (fun i wr => ∃ k : Nat, k ≤ l.length ∧ i = .int .i64 k ∧ (∀ j, j < k → l.getD j (0, 0) = l'.getD j (0, 0)) ∧ DrN w wr) (fun i _ => l.length - (intOf i).toNat)
    case atStart => exact ⟨0, Nat.zero_le _, rfl, fun j h => absurd h (by omega), DrN.refl w⟩
    case round =>
      obtain ⟨k, hk, rfl, hall, hDr⟩ := hrel
      have Hall := Lib.hid hall; clear hall
      have HDr := Lib.hid hDr
      by_cases hlt : k < l.length
      · have hlt' : k < l'.length := by omega
        have f0 := flat_len l
        have f0' := flat_len l'
        obtain ⟨b, off, rfl, hbb, hc⟩ := (hDr.is hA) (by omega)
        obtain ⟨b', off', rfl, hbb', hc'⟩ := (hDr.is hA') (by omega)
        obtain ⟨f1, f2⟩ := flat_nth l k hlt
        obtain ⟨f1', f2'⟩ := flat_nth l' k hlt'
        have c1 := hc (k * 2) (by omega)
        have c2 := hc (k * 2 + 1) (by omega)
        have c1' := hc' (k * 2) (by omega)
        have c2' := hc' (k * 2 + 1) (by omega)
        rw [f1] at c1
        rw [f2] at c2
        rw [f1'] at c1'
        rw [f2'] at c2'
        obtain ⟨p, hp⟩ : ∃ p, p = l.getD k (0, 0) := ⟨_, rfl⟩
        obtain ⟨p', hp'⟩ : ∃ p, p = l'.getD k (0, 0) := ⟨_, rfl⟩
        have Hx := Lib.hid (lxl_at (l := l) (l' := l') (k := k) Hall.out hlt hlt')
        rw [← hp] at c1 c2 Hx
        rw [← hp'] at c1' c2' Hx
        rw [← Nat.add_assoc] at c2 c2'
        have Hlen := Lib.hid hlen
        have HP := Lib.hid (And.intro hp hp')
        clear hc hc' hA hA' f1 f2 f1' f2' f0 f0' hlen hp hp' hDr
        have h1 : (0 : Int) ≤ (k : Int) := by omega
        have h2 : (k : Int) < (l.length : Int) := by omega
        have h3 : (k : Int) < (l'.length : Int) := by have := Hlen.out; omega
        by_cases he : p = p'
        · subst he
          clear Hx
          go_wp2_with fail
          go_quiet (fail)
          go_wp2_with fail
          refine ⟨⟨k + 1, by omega, by go_num, fun j hj => ?_, HDr.out.on nq⟩, by simp [intOf]; omega⟩
          by_cases hjk : j = k
          · rw [hjk, ← HP.out.1, HP.out.2]
          · exact Hall.out j (by omega)
        · have Hx := Lib.hid (Hx.out he)
          obtain ⟨a1, a2⟩ := p
          obtain ⟨b1, b2⟩ := p'
          have hcase : (a1 < b1 ∨ b1 < a1) ∨ (a1 = b1 ∧ (a2 < b2 ∨ b2 < a2)) := by
            by_cases g : a1 = b1
            · exact .inr ⟨g, by have : a2 ≠ b2 := fun g2 => he (Prod.ext g g2); omega⟩
            · exact .inl (by omega)
          simp only at c1 c2 c1' c2'
          clear he
          rcases hcase with (g | g) | ⟨rfl, g | g⟩
          · have e1 : ((a1 : Int) == (b1 : Int)) = false := by rw [beq_eq_false_iff_ne]; omega
            have e2 : ¬ (a1 : Int) = (b1 : Int) := by omega
            have e3 : (a1 : Int) < (b1 : Int) := by omega
            have e4 : decide (a1 < b1) = true := decide_eq_true (by omega)
            have Hv := Lib.hid (show lxl l l' = true by rw [Hx.out]; exact decide_eq_true (.inl g))
            clear Hx
            go_wp2_with fail
            go_quiet (fail)
            go_wp2_with fail
            go_quiet (fail)
            go_wp2_with fail
            go_ret
            exact ⟨ret_bool (by rw [Hv.out]), by rw [World.drewN_drewN]; exact HDr.out.on _⟩
          · have e1 : ((a1 : Int) == (b1 : Int)) = false := by rw [beq_eq_false_iff_ne]; omega
            have e2 : ¬ (a1 : Int) = (b1 : Int) := by omega
            have e3 : (b1 : Int) ≤ (a1 : Int) := by omega
            have e4 : decide (a1 < b1) = false := decide_eq_false (by omega)
            have Hv := Lib.hid (show lxl l l' = false by rw [Hx.out]; exact decide_eq_false (fun h => by have h : _ ∨ _ ∧ _ := h; simp only at h; omega))
            clear Hx
            go_wp2_with fail
            go_quiet (fail)
            go_wp2_with fail
            go_quiet (fail)
            go_wp2_with fail
            go_ret
            exact ⟨ret_bool (by rw [Hv.out]), by rw [World.drewN_drewN]; exact HDr.out.on _⟩
          · have e1 : ((a2 : Int) == (b2 : Int)) = false := by rw [beq_eq_false_iff_ne]; omega
            have e2 : ¬ (a2 : Int) = (b2 : Int) := by omega
            have e3 : (a2 : Int) < (b2 : Int) := by omega
            have e4 : decide (a2 < b2) = true := decide_eq_true (by omega)
            have e5 : decide (a1 < a1) = false := decide_eq_false (by omega)
            have Hv := Lib.hid (show lxl l l' = true by rw [Hx.out]; exact decide_eq_true (.inr ⟨rfl, g⟩))
            clear Hx
            go_wp2_with fail
            go_quiet (fail)
            go_wp2_with fail
            go_quiet (fail)
            go_wp2_with fail
            go_ret
            exact ⟨ret_bool (by rw [Hv.out]), by rw [World.drewN_drewN]; exact HDr.out.on _⟩
          · have e1 : ((a2 : Int) == (b2 : Int)) = false := by rw [beq_eq_false_iff_ne]; omega
            have e2 : ¬ (a2 : Int) = (b2 : Int) := by omega
            have e3 : (b2 : Int) ≤ (a2 : Int) := by omega
            have e4 : decide (a2 < b2) = false := decide_eq_false (by omega)
            have e5 : decide (a1 < a1) = false := decide_eq_false (by omega)
            have Hv := Lib.hid (show lxl l l' = false by rw [Hx.out]; exact decide_eq_false (fun h => by have h : _ ∨ _ ∧ _ := h; simp only at h; omega))
            clear Hx
            go_wp2_with fail
            go_quiet (fail)
            go_wp2_with fail
            go_quiet (fail)
            go_wp2_with fail
            go_ret
            exact ⟨ret_bool (by rw [Hv.out]), by rw [World.drewN_drewN]; exact HDr.out.on _⟩
      · have he : l = l' := pairs_ext hlen fun j hj => Hall.out j (by omega)
        have He := Lib.hid (show lxl l l' = false by rw [← he]; exact lxl_irrefl l)
        have hkI : (l.length : Int) ≤ (k : Int) := by omega
        clear he hDr
        go_wp2_with fail
        go_ret
        exact ⟨ret_bool (by rw [He.out]), HDr.out⟩
  · have hlb : ((l.length : Int) != (l'.length : Int)) = true := by simp; omega
    have hbt : bet l l' = decide (l'.length < l.length) := by unfold bet; rw [if_neg hlen]
    rw [hbt]
    by_cases g : l'.length < l.length
    · have g1 : (l'.length : Int) < (l.length : Int) := by omega
      have Hg := Lib.hid (decide_eq_true g)
      clear hbt
      go_enter Try.func35, Try.ntmps35
      go_wp2_with fail
      go_ret
      exact ⟨ret_bool (by rw [Hg.out]), DrN.refl w⟩
    · have g1 : (l.length : Int) ≤ (l'.length : Int) := by omega
      have Hg := Lib.hid (decide_eq_false g)
      clear hbt
      go_enter Try.func35, Try.ntmps35
      go_wp2_with fail
      go_ret
      exact ⟨ret_bool (by rw [Hg.out]), DrN.refl w⟩
end Go.Proofs.Ytmkpblfacnnnoaa
