/- Package fixed and its reference: the small functions. -/
import Derived.Test.YtmalpalepaomdaaDoorRows
import Derived.WalkKit
import Derived.WalkLawsBesides
import Derived.WalkSpells
import Derived.ProofKit
import Derived.Below
import Derived.Outline
import Derived.Lib.Hide
import Derived.Deep.RegionWith
import Derived.Deep.RegionHeld3
import Derived.Deep.DrawnRows
import Derived.StillTailTactics
import Derived.BigQuiet
import Derived.Deep.QuietTactic
import Derived.Deep.LoopGhost
import Derived.IntWalk
import Derived.Test.YtmalpalepaomdaaDoorK2
namespace Go.Proofs.YtmalpalepaomdaaDoor
open Go.RowKit
attribute [local go_sem ↓] Go.wp_at_zero Go.wp_at_succ
attribute [local go_sem] wrap_lit

theorem Is.lit {k : IntKind} {w : World} {B g : Nat} {T : TypeId} {xs : List Int} (h : w.heap[g]? = some (.cells (xs.map (Value.int k)).toArray T (0, 0))) (hg : g < B) : Is k w B (some ⟨g, 0, none⟩) xs := fun _ =>
  ⟨g, 0, rfl, hg, fun j hj => by simp [World.cell?, h, nth, List.getD_eq_getElem?_getD, hj]⟩
def vF (x : Int) : Bool := decide (-274877906944 ≤ x) && decide (x ≤ 274877906944)
theorem vF_t {x : Int} (h1 : -274877906944 ≤ x) (h2 : x ≤ 274877906944) : vF x = true := by simp [vF, h1, h2]
theorem vF_f {x : Int} (h : x < -274877906944 ∨ 274877906944 < x) : vF x = false := by
  cases e : vF x with
  | false => rfl
  | true => simp [vF] at e; omega
theorem vF_iff {x : Int} (h : vF x = true) : -274877906944 ≤ x ∧ x ≤ 274877906944 := by simpa [vF] using h
theorem vF_not {x : Int} (h : vF x = false) : x < -274877906944 ∨ 274877906944 < x := by
  rcases Int.lt_or_le x (-274877906944) with g | g
  · exact .inl g
  · rcases Int.lt_or_le 274877906944 x with g' | g'
    · exact .inr g'
    · rw [vF_t g g'] at h; cases h
theorem all_bad {xs : List Int} {k : Nat} (hk : k < xs.length) (h : vF (nth xs k) = false) : xs.all vF = false := by
  rw [← Bool.not_eq_true, List.all_eq_true]
  intro ha
  have := ha (nth xs k) (by unfold nth; rw [List.getD_eq_getElem?_getD, List.getElem?_eq_getElem hk]; exact List.getElem_mem hk)
  rw [h] at this; cases this
theorem all_step {xs : List Int} {k : Nat} (hk : k < xs.length) (h : (xs.take k).all vF = true) (h' : vF (nth xs k) = true) : (xs.take (k + 1)).all vF = true := by
  rw [take_nth xs k hk, List.all_append, h]; simp [h']
set_option maxHeartbeats 1000000 in
theorem valid34 (A : Option Addr) (cap : Nat) (xs : List Int) (B : Nat) (w : World) (hA : Is .i64 w B A xs) (hl : xs.length ≤ 1000) :
    Calls Tryd.prog 34 #[.slice A xs.length cap] w fun e w' => e = .returned (.bool (xs.all vF)) ∧ w = w' := by
  go_enter Tryd.func34, Tryd.ntmps34
  go_wp2_with fail
  go_loop [7] (fun i => ∃ k : Nat, k ≤ xs.length ∧ i = .int .i64 k ∧ (xs.take k).all vF = true) (fun i => xs.length - (intOf i).toNat)
  case atStart => exact ⟨0, Nat.zero_le _, rfl, rfl⟩
  case round =>
    obtain ⟨k, hk, rfl, hok⟩ := hrel
    have HO := Lib.hid hok
    clear hok
    by_cases hlt : k < xs.length
    · obtain ⟨b, off, rfl, hbb, hc⟩ := hA (by omega)
      have hcell := hc k hlt
      clear hc hA
      have h2 : (k : Int) < (xs.length : Int) := by omega
      by_cases h1 : nth xs k < -274877906944
      · have HF := Lib.hid (all_bad hlt (vF_f (.inl h1)))
        go_wp2_with fail
        go_ret
        exact ⟨ret_bool HF.out.symm, rfl⟩
      · by_cases h3 : 274877906944 < nth xs k
        · have HF := Lib.hid (all_bad hlt (vF_f (.inr h3)))
          go_wp2_with fail
          go_ret
          exact ⟨ret_bool HF.out.symm, rfl⟩
        · have HS := Lib.hid (all_step hlt HO.out (vF_t (by omega) (by omega)))
          go_wp2_with fail
          exact ⟨⟨k + 1, by omega, by go_num, HS.out⟩, by simp [intOf]; omega⟩
    · have HF : Hid (xs.all vF = true) := Lib.hid (by have := HO.out; rw [List.take_of_length_le (by omega)] at this; exact this)
      go_wp2_with fail
      go_ret
      exact ⟨ret_bool HF.out.symm, rfl⟩
/-- valid of a fresh slice of numbers. -/
theorem valid_new (xs : List Int) (T : TypeId) (H : Nat) (w : World) (hH : w.heap.size = H) (n : Nat) (hn : xs.length = n) (hl : n ≤ 1000) (ob : Obj) (hob : ob = .cells (xs.map (Value.int .i64)).toArray T (0, 0)) :
    Calls Tryd.prog 34 #[.slice (some ⟨H, 0, none⟩) n n] (w.alloc ob) fun e w' => e = .returned (.bool (xs.all vF)) ∧ w.alloc ob = w' := by
  subst hH; subst hob; subst hn
  exact valid34 _ _ xs (w.heap.size + 1) _ (Is.lit (heap_alloc_new _ _) (by omega)) hl
def fitV (x : Int) : Int := if vF x = true then x else 0
def fitE (x : Int) : Int := if vF x = true then 0 else 7
theorem ret_ii {a b m n : Int} (h : a = b) (h' : m = n) : Ending.returned (.tuple #[.int .i64 a, .int .i64 m]) = .returned (.tuple #[.int .i64 b, .int .i64 n]) := by rw [h, h']
set_option maxHeartbeats 1000000 in
theorem fit37 (x : Int) (w : World) : Calls Tryd.prog 37 #[.int .i64 x] w fun e w' => e = .returned (.tuple #[.int .i64 (fitV x), .int .i64 (fitE x)]) ∧ Below w.heap.size w w' := by
  cases hv : vF x with
  | true =>
    have HV := Lib.hid hv
    have h1 : [x].all vF = true := by simp [hv]
    have H1 := Lib.hid h1
    clear h1 hv
    go_enter Tryd.func37, Tryd.ntmps37
    go_wp2_with fail
    refine (valid_new [x] _ _ _ rfl 1 rfl (by omega) _ rfl).mono ?_
    rintro e w1 ⟨rfl, rfl⟩
    rw [H1.out]
    go_wp2_with fail
    go_ret2
    exact ⟨ret_ii (by unfold fitV; rw [HV.out]; rfl) (by unfold fitE; rw [HV.out]; rfl), (Below.refl _ _).alloc (Nat.le_refl _) _⟩
  | false =>
    have HV := Lib.hid hv
    have h1 : [x].all vF = false := by simp [hv]
    have H1 := Lib.hid h1
    clear h1 hv
    go_enter Tryd.func37, Tryd.ntmps37
    go_wp2_with fail
    refine (valid_new [x] _ _ _ rfl 1 rfl (by omega) _ rfl).mono ?_
    rintro e w1 ⟨rfl, rfl⟩
    rw [H1.out]
    go_wp2_with fail
    go_ret2
    exact ⟨ret_ii (by unfold fitV; rw [HV.out]; rfl) (by unfold fitE; rw [HV.out]; rfl), (Below.refl _ _).alloc (Nat.le_refl _) _⟩
theorem valid41 (x : Int) (w : World) : Calls Tryd.prog 41 #[.int .i64 x] w fun e w' => e = .returned (.bool (vF x)) ∧ w = w' := by
  by_cases h1 : -274877906944 ≤ x
  · by_cases h2 : x ≤ 274877906944
    · have HV := Lib.hid (vF_t h1 h2)
      go_enter Tryd.func41, Tryd.ntmps41
      go_wp2_with fail
      go_ret
      exact ⟨ret_bool HV.out.symm, rfl⟩
    · have HV := Lib.hid (vF_f (x := x) (by omega))
      go_enter Tryd.func41, Tryd.ntmps41
      go_wp2_with fail
      go_ret
      exact ⟨ret_bool HV.out.symm, rfl⟩
  · have HV := Lib.hid (vF_f (x := x) (by omega))
    go_enter Tryd.func41, Tryd.ntmps41
    go_wp2_with fail
    go_ret
    exact ⟨ret_bool HV.out.symm, rfl⟩
theorem fit42 (x : Int) (w : World) : Calls Tryd.prog 42 #[.int .i64 x] w fun e w' => e = .returned (.tuple #[.int .i64 (fitV x), .int .i64 (fitE x)]) ∧ w = w' := by
  by_cases h1 : -274877906944 ≤ x
  · by_cases h2 : x ≤ 274877906944
    · have HV := Lib.hid (vF_t h1 h2)
      go_enter Tryd.func42, Tryd.ntmps42
      go_wp2_with fail
      go_ret2
      exact ⟨ret_ii (by unfold fitV; rw [HV.out]; rfl) (by unfold fitE; rw [HV.out]; rfl), rfl⟩
    · have HV := Lib.hid (vF_f (x := x) (by omega))
      go_enter Tryd.func42, Tryd.ntmps42
      go_wp2_with fail
      go_ret2
      exact ⟨ret_ii (by unfold fitV; rw [HV.out]; rfl) (by unfold fitE; rw [HV.out]; rfl), rfl⟩
  · have HV := Lib.hid (vF_f (x := x) (by omega))
    go_enter Tryd.func42, Tryd.ntmps42
    go_wp2_with fail
    go_ret2
    exact ⟨ret_ii (by unfold fitV; rw [HV.out]; rfl) (by unfold fitE; rw [HV.out]; rfl), rfl⟩
def absI (x : Int) : Int := if x < 0 then -x else x
theorem absI_n {x : Int} (h : x < 0) : absI x = -x := if_pos h
theorem absI_p {x : Int} (h : 0 ≤ x) : absI x = x := if_neg (by omega)
theorem absI_nn (x : Int) : 0 ≤ absI x := by unfold absI; split <;> omega
theorem abs43 (x : Int) (w : World) (h1 : -4611686018427387904 ≤ x) : Calls Tryd.prog 43 #[.int .i64 x] w fun e w' => e = .returned (.int .i64 (absI x)) ∧ w = w' := by
  by_cases h : x < 0
  · have HE := Lib.hid (absI_n h)
    go_enter Tryd.func43, Tryd.ntmps43
    go_wp2_with fail
    go_ret
    exact ⟨ret_int HE.out.symm, rfl⟩
  · have HE := Lib.hid (absI_p (x := x) (by omega))
    go_enter Tryd.func43, Tryd.ntmps43
    go_wp2_with fail
    go_ret
    exact ⟨ret_int HE.out.symm, rfl⟩
/-- p / q, rounded, for p that is not negative and positive q. -/
def rdN (p q : Int) : Int := if q ≤ 2 * (p % q) then p / q + 1 else p / q
theorem rdN_bd {p q : Int} (hp : 0 ≤ p) (hq : 0 < q) : 0 ≤ rdN p q ∧ rdN p q ≤ p := by
  have e := Int.emod_add_mul_ediv p q
  have m0 := Int.emod_nonneg p (show q ≠ 0 by omega)
  have m1 := Int.emod_lt_of_pos p hq
  have d0 := Int.ediv_nonneg hp (show 0 ≤ q by omega)
  have hb : p / q ≤ q * (p / q) := by
    have := Int.mul_le_mul_of_nonneg_right (show 1 ≤ q by omega) d0
    omega
  unfold rdN
  split <;> omega
set_option maxHeartbeats 1000000 in
theorem quo44 (p q : Int) (w : World) (h0 : -288230376151711744 ≤ p) (h1 : p ≤ 288230376151711744) (hq : 0 < q) (hq1 : q ≤ 288230376151711744) :
    Calls Tryd.prog 44 #[.int .i64 p, .int .i64 q] w fun e w' => e = .returned (.int .i64 (if p < 0 then -rdN (absI p) q else rdN (absI p) q)) ∧ w = w' := by
  obtain ⟨a, ha⟩ : ∃ a, absI p = a := ⟨_, rfl⟩
  have a0 : 0 ≤ a := ha ▸ absI_nn p
  have a1 : a ≤ 288230376151711744 := by rw [← ha]; unfold absI; split <;> omega
  have e := Int.emod_add_mul_ediv a q
  have m0 := Int.emod_nonneg a (show q ≠ 0 by omega)
  have m1 := Int.emod_lt_of_pos a hq
  have d0 := Int.ediv_nonneg a0 (show 0 ≤ q by omega)
  have d1 : a / q ≤ a := Int.ediv_le_self q a0
  have HA := Lib.hid ha
  have he : a / q * q = a - a % q := by rw [Int.mul_comm]; omega
  rw [ha]
  clear ha e
  have g0 : 0 ≤ a / q * q := Int.mul_nonneg d0 (by omega)
  have g1 : a / q * q ≤ a := by omega
  have r0 : 0 ≤ rdN a q := (rdN_bd a0 hq).1
  by_cases hc : q ≤ 2 * (a - a / q * q)
  all_goals
    first
    | (have HR : Hid (rdN a q = a / q + 1) := Lib.hid (if_pos (by omega)))
    | (have HR : Hid (rdN a q = a / q) := Lib.hid (if_neg (by omega)))
    clear he m0 m1
    by_cases hp : p < 0
    all_goals
      go_enter Tryd.func44, Tryd.ntmps44
      go_wp2_with fail
      refine (abs43 p _ (by omega)).mono ?_
      rintro e w' ⟨rfl, rfl⟩
      rw [HA.out]
      go_wp2_with fail
      refine (abs43 p _ (by omega)).mono ?_
      rintro e w' ⟨rfl, rfl⟩
      rw [HA.out]
      go_wp2_with fail
      go_ret
      exact ⟨ret_int (by rw [HR.out]), rfl⟩
end Go.Proofs.YtmalpalepaomdaaDoor
