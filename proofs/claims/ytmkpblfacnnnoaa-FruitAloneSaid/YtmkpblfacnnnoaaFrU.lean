/- near and apart of the laws; the plain law of FruitAlone. -/
import Derived.Test.YtmkpblfacnnnoaaRows
import Derived.WalkKit
import Derived.WalkLawsBesides
import Derived.WalkSpells
import Derived.ProofKit
import Derived.Below
import Derived.Outline
import Derived.Lib.Hide
import Derived.Deep.RegionWith
import Derived.Deep.RegionHeld3
import Derived.Deep.DrawnRows
import Derived.StillTailTactics
import Derived.BigQuiet
import Derived.Deep.QuietTactic
import Derived.Deep.LoopGhost
import Derived.IntWalk
import Derived.Test.YtmkpblfacnnnoaaFrN
namespace Go.Proofs.Ytmkpblfacnnnoaa
open Go.RowKit
attribute [local go_sem ↓] Go.wp_at_zero Go.wp_at_succ
attribute [local go_sem] wrap_lit

theorem near28 (x y u : Int) (w : World) (hx : 0 ≤ x ∧ x ≤ 1023) (hy : 0 ≤ y ∧ y ≤ 1023) :
    Calls Try.prog 28 #[.int .i64 x, .int .i64 y, .int .i64 u] w fun e w' => e = .returned (.bool (nrB x y u)) ∧ w = w' := by
  obtain ⟨x0, x1⟩ := hx
  obtain ⟨y0, y1⟩ := hy
  by_cases h1 : x - y ≤ u <;> by_cases h2 : y - x ≤ u
  all_goals
    have H : Hid (nrB x y u = decide (x - y ≤ u ∧ y - x ≤ u)) := Lib.hid rfl
    go_enter Try.func28, Try.ntmps28
    go_wp2_with fail
    go_ret
    exact ⟨ret_bool (by rw [H.out]; simp [h1, h2]), rfl⟩
/-- All but one of the slots xs are far from x and y. -/
def ApR (xs : List Int) (but : Nat) (x y u : Int) (k : Nat) : Prop := ∀ j, j < k → j ≠ but → nrB (nth xs j) x u = false ∧ nrB (nth xs j) y u = false
instance apDec (xs : List Int) (but : Nat) (x y u : Int) (k : Nat) : Decidable (ApR xs but x y u k) := by unfold ApR; infer_instance
def apB (xs : List Int) (but : Nat) (x y u : Int) : Bool := decide (ApR xs but x y u xs.length)

theorem apart29 (A : Option Addr) (cap : Nat) (xs : List Int) (but : Nat) (x y u : Int) (B : Nat) (w : World) (hA : Is .i64 w B A xs) (hl : xs.length ≤ 1000) (hs : ∀ j, j < xs.length → 0 ≤ nth xs j ∧ nth xs j ≤ 1023) (hx : 0 ≤ x ∧ x ≤ 1023) (hy : 0 ≤ y ∧ y ≤ 1023) :
    Calls Try.prog 29 #[.slice A xs.length cap, .int .i64 but, .int .i64 x, .int .i64 y, .int .i64 u] w fun e w' => e = .returned (.bool (apB xs but x y u)) ∧ w = w' := by
  have Hs := Lib.hid hs
  have Hx := Lib.hid (And.intro hx hy)
  clear hs hx hy
  go_enter Try.func29, Try.ntmps29
  go_wp2_with fail
  go_loop [11] (fun i => ∃ k : Nat, k ≤ xs.length ∧ i = .int .i64 k ∧ ApR xs but x y u k) (fun i => xs.length - (intOf i).toNat)
  case atStart => exact ⟨0, Nat.zero_le _, rfl, fun j h => absurd h (by omega)⟩
  case round =>
    obtain ⟨k, hk, rfl, hall⟩ := hrel
    have HA := Lib.hid hall
    clear hall
    by_cases hlt : k < xs.length
    · obtain ⟨b, off, rfl, hb, hc⟩ := hA (by omega)
      have hcell := hc k hlt
      have Hv := Lib.hid (Hs.out k hlt)
      have C1 := Lib.hid (near28 (nth xs k) x u w Hv.out Hx.out.1)
      have C2 := Lib.hid (near28 (nth xs k) y u w Hv.out Hx.out.2)
      have hkI : (k : Int) < (xs.length : Int) := by omega
      have hk0 : (0 : Int) ≤ (k : Int) := by omega
      clear hA hc
      by_cases hb1 : k = but
      · have hbB : ((k : Int) != (but : Int)) = false := by simp [hb1]
        have HA' := Lib.hid (show ApR xs but x y u (k + 1) from fun q hq hne => by
          rcases Nat.lt_or_ge q k with g | g
          · exact HA.out q g hne
          · exact absurd (by omega) hne)
        clear hb1
        go_wp2_with fail
        exact ⟨⟨k + 1, by omega, by go_num, HA'.out⟩, by simp [intOf]; omega⟩
      · have hbB : ((k : Int) != (but : Int)) = true := by simp; omega
        by_cases n1 : nrB (nth xs k) x u = true
        · have Hn := Lib.hid (show apB xs but x y u = false from decide_eq_false fun h => by
            have := (h k hlt hb1).1
            rw [n1] at this; cases this)
          have Hb := Lib.hid hb1
          clear hb1
          go_wp2_with fail
          refine C1.out.mono ?_
          rintro e w' ⟨rfl, rfl⟩
          go_wp2_with fail
          go_ret
          exact ⟨ret_bool Hn.out.symm, rfl⟩
        · have n1' : nrB (nth xs k) x u = false := by simpa using n1
          clear n1
          by_cases n2 : nrB (nth xs k) y u = true
          · have Hn := Lib.hid (show apB xs but x y u = false from decide_eq_false fun h => by
              have := (h k hlt hb1).2
              rw [n2] at this; cases this)
            have Hb := Lib.hid hb1
            clear hb1
            go_wp2_with fail
            refine C1.out.mono ?_
            rintro e w' ⟨rfl, rfl⟩
            go_wp2_with fail
            refine C2.out.mono ?_
            rintro e w' ⟨rfl, rfl⟩
            go_wp2_with fail
            go_ret
            exact ⟨ret_bool Hn.out.symm, rfl⟩
          · have n2' : nrB (nth xs k) y u = false := by simpa using n2
            have HA' := Lib.hid (show ApR xs but x y u (k + 1) from fun q hq hne => by
              rcases Nat.lt_or_ge q k with g | g
              · exact HA.out q g hne
              · obtain rfl : q = k := by omega
                exact ⟨n1', n2'⟩)
            have Hb := Lib.hid hb1
            clear hb1 n2
            go_wp2_with fail
            refine C1.out.mono ?_
            rintro e w' ⟨rfl, rfl⟩
            go_wp2_with fail
            refine C2.out.mono ?_
            rintro e w' ⟨rfl, rfl⟩
            go_wp2_with fail
            exact ⟨⟨k + 1, by omega, by go_num, HA'.out⟩, by simp [intOf]; omega⟩
    · obtain rfl : k = xs.length := by omega
      have Hy := Lib.hid (show apB xs but x y u = true from decide_eq_true HA.out)
      have hkI : (xs.length : Int) ≤ (xs.length : Int) := by omega
      go_wp2_with fail
      go_ret
      exact ⟨ret_bool Hy.out.symm, rfl⟩
/-- The reply recurs from sweep q to sweep q + 1, alone. -/
def AlB (xss : List (List Int)) (pl : List Int) (u : Int) (q : Nat) : Prop :=
  nrB (nth (row xss q) (nth pl q).toNat) (nth (row xss (q + 1)) (nth pl (q + 1)).toNat) u = true ∧
  apB (row xss q) (nth pl q).toNat (nth (row xss q) (nth pl q).toNat) (nth (row xss (q + 1)) (nth pl (q + 1)).toNat) u = true ∧
  apB (row xss (q + 1)) (nth pl (q + 1)).toNat (nth (row xss q) (nth pl q).toNat) (nth (row xss (q + 1)) (nth pl (q + 1)).toNat) u = true
theorem alone_life {xss : List (List Int)} {pl : List Int} {u : Int} (hE : lfE xss u = 0) (hp : ∀ j, j < xss.length → 0 ≤ nth pl j ∧ nth pl j < (row xss j).length) (hA : ∀ q, q + 1 < xss.length → AlB xss pl u q) :
    ∀ k, k < xss.length → nth (lfA u xss (k + 1)) (nth pl k).toNat = ((k + 1 : Nat) : Int) := by
  have hck := ckR_all (lfE_ok.1 hE).2.1
  intro k
  induction k with
  | zero =>
    intro h
    have := hp 0 h
    show nth (lfS u [] [] (row xss 0)) _ = _
    rw [lfS_nil, nth_one _ _ (by omega)]; rfl
  | succ k ih =>
    intro h
    have p0 := hp k (by omega)
    have p1 := hp (k + 1) h
    obtain ⟨n, a1, a2⟩ := hA k h
    have o0 := (ckS_ok.1 (hck k (by omega))).2
    have o1 := (ckS_ok.1 (hck (k + 1) h)).2
    have n' := of_decide_eq_true n
    have a1' := of_decide_eq_true a1
    have a2' := of_decide_eq_true a2
    have hmem := gr_alone (w := u) o0 o1 (x := (nth pl k).toNat) (y := (nth pl (k + 1)).toNat) (by omega) (by omega) n'
      (fun y' hy hne hN => by
        have := (a2' y' hy hne).1
        have h2 : ¬ _ := of_decide_eq_false this
        exact h2 ⟨hN.2, hN.1⟩)
      (fun x' hx hne hN => by
        have := (a1' x' hx hne).2
        have h2 : ¬ _ := of_decide_eq_false this
        exact h2 ⟨hN.1, hN.2⟩)
    have hasc := gr_Asc u (row xss k) (row xss (k + 1)) _ 0 0 (Nat.le_refl _)
    have := lfP_at (lfA u xss (k + 1)) _ (List.replicate (row xss (k + 1)).length 1) hasc (fun p hp => by
      obtain ⟨-, -, -, q, -⟩ := gr_at hp
      simpa using q) _ hmem
    show nth (lfS u (row xss k) (lfA u xss (k + 1)) (row xss (k + 1))) _ = _
    unfold lfS
    rw [this, ih (by omega)]
    push_cast; rfl
end Go.Proofs.Ytmkpblfacnnnoaa
