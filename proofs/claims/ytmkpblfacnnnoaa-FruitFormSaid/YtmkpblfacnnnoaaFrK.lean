/- The kit: numbers, pairs; the laws: matches, long. -/
import Derived.Test.YtmkpblfacnnnoaaRows
import Derived.WalkKit
import Derived.WalkLawsBesides
import Derived.WalkSpells
import Derived.ProofKit
import Derived.Below
import Derived.Outline
import Derived.Lib.Hide
import Derived.Deep.RegionWith
import Derived.Deep.RegionHeld3
import Derived.Deep.DrawnRows
import Derived.StillTailTactics
import Derived.BigQuiet
import Derived.Deep.QuietTactic
import Derived.Deep.LoopGhost
import Derived.IntWalk
import Derived.Test.YtmkpblfacnnnoaaFrI
import Derived.Test.YtmkpblfacnnnoaaKE
namespace Go.Proofs.Ytmkpblfacnnnoaa
open Go.RowKit
attribute [local go_sem ↓] Go.wp_at_zero Go.wp_at_succ
attribute [local go_sem] wrap_lit
set_option maxHeartbeats 1000000 in
theorem copyInts (A : Option Addr) (cap : Nat) (xs : List Int) (w : World) (hA : Is .i64 w w.heap.size A xs) (hl : xs.length ≤ 1000000) :
    Calls Try.prog 12 #[.slice A xs.length cap] w fun e w' => ∃ v, e = .returned v ∧ Acc .i64 w' w.heap.size 3 1 v xs.length xs ∧ Below w.heap.size w w' := by
  obtain ⟨i0, hi0, hz0, hz1, hz2⟩ := info_parts int_info
  go_enter Try.func12, Try.ntmps12
  go_wp2_with fail
  go_loopw [3, 4] (fun v i wr => ∃ k : Nat, k ≤ xs.length ∧ i = .int .i64 k ∧ Acc .i64 wr w.heap.size 3 1 v k (xs.take k) ∧ Below w.heap.size w wr) (fun _ i _ => xs.length - (intOf i).toNat)
  case atStart => exact ⟨0, Nat.zero_le _, rfl, Acc.nil _ _ _ _ _, Below.refl _ _⟩
  case round =>
    obtain ⟨k, hk, rfl, hown, hb⟩ := hrel
    by_cases hlt : k < xs.length
    · obtain ⟨b, off, rfl, hbb, hc⟩ := hA (by omega)
      have hcell : wr.cell? ⟨b, off + k, none⟩ = some (.int .i64 (nth xs k)) := (hb.cell (p := ⟨b, off + k, none⟩) hbb).trans (hc k hlt)
      clear hc
      have hlI : (k : Int) < (xs.length : Int) := by omega
      go_wp2_with (at_builtin; refine wpList_app rfl _ _ 22 rfl .i64 w.heap.size 3 i0 _ 1 8 Try.underlying22 hi0 hz0 hz1 hz2 rfl (by decide) _ _ _ [nth xs k] rfl hown _ rfl rfl rfl (by omega) (by decide) hb.size ?_; intro v' w1 hown1 hb1)
      exact ⟨⟨k + 1, by omega, by go_num, by rw [take_nth _ _ hlt]; exact hown1, hb.trans hb1⟩, by simp [intOf]; omega⟩
    · obtain rfl : k = xs.length := by omega
      rw [List.take_length] at hown
      go_wp2_with fail
      go_ret
      exact ⟨_, rfl, hown, hb⟩

theorem cell_in {w : World} {g : Nat} {cs : Array Value} {T : TypeId} (h : w.heap[g]? = some (.cells cs T (0, 0))) {i : Nat} (hi : i < cs.size) : (∃ u, w.cell? ⟨g, i, none⟩ = some u) ∧ w.frozen? ⟨g, i, none⟩ = false := by
  refine ⟨⟨cs[i], ?_⟩, ?_⟩ <;> simp [World.cell?, World.frozen?, h, hi]
theorem overInts28 (A : Option Addr) (cap : Nat) (xs : List Int) (B : Nat) (T : TypeId) (w : World) (hA : Own .i64 w B A T xs) (hl : xs.length ≤ 1000000) :
    Calls Try.prog 25 #[.slice A xs.length cap] w fun e w' => e = .returned (.tuple #[]) ∧ Below B w w' := by
  go_enter Try.func25, Try.ntmps25
  go_wp2_with fail
  go_loopw [2] (fun i wr => ∃ k : Nat, k ≤ xs.length ∧ i = .int .i64 k ∧ Below B w wr ∧ (0 < xs.length → ∃ g cs, A = some ⟨g, 0, none⟩ ∧ B ≤ g ∧ wr.heap[g]? = some (.cells cs T (0, 0)) ∧ xs.length ≤ cs.size)) (fun i _ => xs.length - (intOf i).toNat)
  case atStart =>
    refine ⟨0, Nat.zero_le _, rfl, Below.refl _ _, fun hn => ?_⟩
    obtain ⟨g, cs, e1, e2, e3, e4⟩ := hA hn
    have := (Array.getElem?_eq_some_iff.1 (e4 (xs.length - 1) (by omega))).1
    exact ⟨g, cs, e1, e2, e3, by omega⟩
  case round =>
    obtain ⟨k, hk, rfl, hb, hg⟩ := hrel
    by_cases hlt : k < xs.length
    · obtain ⟨g, cs, rfl, h1, h2, h3⟩ := hg (by omega)
      obtain ⟨⟨u, c0⟩, p0⟩ := cell_in h2 (i := k) (by omega)
      have Hg := Lib.hid hg; clear hg
      have hlI : (k : Int) < (xs.length : Int) := by omega
      go_wp2_with fail
      exact ⟨⟨k + 1, by omega, by go_num, hb.setCell h1 _, fun _ => ⟨g, _, rfl, h1, setH h2, by simpa using h3⟩⟩, by simp [intOf]; omega⟩
    · obtain rfl : k = xs.length := by omega
      clear hg
      go_wp2_with fail
      go_end0
      exact ⟨rfl, hb⟩


theorem pairs_ne {l l' : List (Nat × Nat)} {k : Nat} (h : l.getD k (0, 0) ≠ l'.getD k (0, 0)) : l ≠ l' := fun e => h (by rw [e])
theorem pairs_ext {l l' : List (Nat × Nat)} (hl : l.length = l'.length) (h : ∀ k, k < l.length → l.getD k (0, 0) = l'.getD k (0, 0)) : l = l' := by
  apply List.ext_getElem hl
  intro i h1 h2
  have := h i h1
  simpa [List.getD_eq_getElem?_getD, h1, h2] using this
set_option maxHeartbeats 2000000 in
theorem equalPairs (A A' : Option Addr) (cap cap' : Nat) (l l' : List (Nat × Nat)) (B : Nat) (w : World) (hA : Is .i64 w B A (flat l)) (hA' : Is .i64 w B A' (flat l')) (hl : l.length ≤ 1000000) :
    Calls Try.prog 17 #[.slice A l.length cap, .slice A' l'.length cap'] w fun e w' => e = .returned (.bool (decide (l = l'))) ∧ DrN w w' := by
  by_cases hlen : l.length = l'.length
  · have hlb : ((l.length : Int) != (l'.length : Int)) = false := by simp [hlen]
    go_enter Try.func17, Try.ntmps17
    go_wp2_with fail
    go_loopw [5] (fun i wr => ∃ k : Nat, k ≤ l.length ∧ i = .int .i64 k ∧ (∀ j, j < k → l.getD j (0, 0) = l'.getD j (0, 0)) ∧ DrN w wr) (fun i _ => l.length - (intOf i).toNat)
    case atStart => exact ⟨0, Nat.zero_le _, rfl, fun j h => absurd h (by omega), DrN.refl w⟩
    case round =>
      obtain ⟨k, hk, rfl, hall, hDr⟩ := hrel
      have Hall := Lib.hid hall; clear hall
      have HDr := Lib.hid hDr
      by_cases hlt : k < l.length
      · have hlt' : k < l'.length := by omega
        have f0 := flat_len l
        have f0' := flat_len l'
        obtain ⟨b, off, rfl, hbb, hc⟩ := (hDr.is hA) (by omega)
        obtain ⟨b', off', rfl, hbb', hc'⟩ := (hDr.is hA') (by omega)
        obtain ⟨f1, f2⟩ := flat_nth l k hlt
        obtain ⟨f1', f2'⟩ := flat_nth l' k hlt'
        have c1 := hc (k * 2) (by omega)
        have c2 := hc (k * 2 + 1) (by omega)
        have c1' := hc' (k * 2) (by omega)
        have c2' := hc' (k * 2 + 1) (by omega)
        rw [f1] at c1
        rw [f2] at c2
        rw [f1'] at c1'
        rw [f2'] at c2'
        obtain ⟨p, hp⟩ : ∃ p, p = l.getD k (0, 0) := ⟨_, rfl⟩
        obtain ⟨p', hp'⟩ : ∃ p, p = l'.getD k (0, 0) := ⟨_, rfl⟩
        rw [← hp] at c1 c2
        rw [← hp'] at c1' c2'
        rw [← Nat.add_assoc] at c2 c2'
        have Hlen := Lib.hid hlen
        have HP := Lib.hid (And.intro hp hp')
        clear hc hc' hA hA' f1 f2 f1' f2' f0 f0' hlen hp hp' hDr
        have h1 : (0 : Int) ≤ (k : Int) := by omega
        have h2 : (k : Int) < (l.length : Int) := by omega
        have h3 : (k : Int) < (l'.length : Int) := by have := Hlen.out; omega
        by_cases he : p = p'
        · subst he
          go_wp2_with fail
          go_quiet (fail)
          go_wp2_with fail
          refine ⟨⟨k + 1, by omega, by go_num, fun j hj => ?_, HDr.out.on nq⟩, by simp [intOf]; omega⟩
          by_cases hjk : j = k
          · rw [hjk, ← HP.out.1, HP.out.2]
          · exact Hall.out j (by omega)
        · have hne : l ≠ l' := pairs_ne (k := k) (by rw [← HP.out.1, ← HP.out.2]; exact he)
          have hcase : p.1 ≠ p'.1 ∨ (p.1 = p'.1 ∧ p.2 ≠ p'.2) := by
            by_cases g : p.1 = p'.1
            · exact .inr ⟨g, fun g2 => he (Prod.ext g g2)⟩
            · exact .inl g
          have Hne := Lib.hid hne
          obtain ⟨a1, a2⟩ := p
          obtain ⟨b1, b2⟩ := p'
          simp only at c1 c2 c1' c2' hcase
          clear he hne
          rcases hcase with g | ⟨rfl, g⟩
          · have e1 : ((a1 : Int) == (b1 : Int)) = false := by rw [beq_eq_false_iff_ne]; omega
            have e2 : ¬ (a1 : Int) = (b1 : Int) := by omega
            go_wp2_with fail
            go_quiet (fail)
            go_wp2_with fail
            go_ret
            exact ⟨ret_bool (by simp [Hne.out]), HDr.out.on nq⟩
          · have e1 : ((a2 : Int) == (b2 : Int)) = false := by rw [beq_eq_false_iff_ne]; omega
            have e2 : ¬ (a2 : Int) = (b2 : Int) := by omega
            go_wp2_with fail
            go_quiet (fail)
            go_wp2_with fail
            go_ret
            exact ⟨ret_bool (by simp [Hne.out]), HDr.out.on nq⟩
      · have he : l = l' := pairs_ext hlen fun j hj => Hall.out j (by omega)
        have He := Lib.hid he
        have hkI : (l.length : Int) ≤ (k : Int) := by omega
        clear he hDr
        go_wp2_with fail
        go_ret
        exact ⟨ret_bool (by simp [He.out]), HDr.out⟩
  · have hlb : ((l.length : Int) != (l'.length : Int)) = true := by simp; omega
    have hne : l ≠ l' := fun e => hlen (by rw [e])
    have Hne := Lib.hid hne
    clear hne
    go_enter Try.func17, Try.ntmps17
    go_wp2_with fail
    go_ret
    exact ⟨ret_bool (by simp [Hne.out]), DrN.refl w⟩

theorem overPairs (A : Option Addr) (cap : Nat) (l : List (Nat × Nat)) (B : Nat) (T : TypeId) (w : World) (hA : Own .i64 w B A T (flat l)) (hl : l.length ≤ 1000000) :
    Calls Try.prog 18 #[.slice A l.length cap] w fun e w' => e = .returned (.tuple #[]) ∧ Below B w w' := by
  have hfl := flat_len l
  go_enter Try.func18, Try.ntmps18
  go_wp2_with fail
  go_loopw [2] (fun i wr => ∃ k : Nat, k ≤ l.length ∧ i = .int .i64 k ∧ Below B w wr ∧ (0 < l.length → ∃ g cs, A = some ⟨g, 0, none⟩ ∧ B ≤ g ∧ wr.heap[g]? = some (.cells cs T (0, 0)) ∧ l.length * 2 ≤ cs.size)) (fun i _ => l.length - (intOf i).toNat)
  case atStart =>
    refine ⟨0, Nat.zero_le _, rfl, Below.refl _ _, fun hn => ?_⟩
    obtain ⟨g, cs, e1, e2, e3, e4⟩ := hA (by omega)
    have := (Array.getElem?_eq_some_iff.1 (e4 ((flat l).length - 1) (by omega))).1
    exact ⟨g, cs, e1, e2, e3, by omega⟩
  case round =>
    obtain ⟨k, hk, rfl, hb, hg⟩ := hrel
    by_cases hlt : k < l.length
    · obtain ⟨g, cs, rfl, h1, h2, h3⟩ := hg (by omega)
      obtain ⟨⟨u, c0⟩, p0⟩ := cell_in h2 (i := k * 2) (by omega)
      obtain ⟨⟨u', c1⟩, p1⟩ := cell_in h2 (i := k * 2 + 1) (by omega)
      have H2 := Lib.hid h2
      have Hg := Lib.hid hg; clear hg h2
      have hlI : (k : Int) < (l.length : Int) := by omega
      have hk0 : (0 : Int) ≤ (k : Int) := by omega
      go_wp2_with fail
      exact ⟨⟨k + 1, by omega, by go_num, (hb.setCell (p := ⟨g, k * 2, none⟩) h1 _).setCell (p := ⟨g, k * 2 + 1, none⟩) h1 _, fun _ => ⟨g, _, rfl, h1, setH (setH H2.out), by simpa using h3⟩⟩, by simp [intOf]; omega⟩
    · have hlI : (l.length : Int) ≤ (k : Int) := by omega
      clear hg
      go_wp2_with fail
      go_end0
      exact ⟨rfl, hb⟩
end Go.Proofs.Ytmkpblfacnnnoaa
