/- Contracts of New, Predict and Update of package ranging and of its reference, for every input. -/
import Derived.Test.YtephkhaebkajkaaRgU13a
import Derived.Test.YtephkhaebkajkaaRgU13b
import Derived.Test.YtephkhaebkajkaaRgU13c
import Derived.Test.YtephkhaebkajkaaRgU14a
import Derived.Test.YtephkhaebkajkaaRgU14b
import Derived.Test.YtephkhaebkajkaaRgU14c
namespace Go.Proofs.Ytephkhaebkajkaa
open Go.RowKit
attribute [local go_sem ↓] Go.wp_at_zero Go.wp_at_succ
attribute [local go_sem] wrap_lit

def nwR (r : Int) : Int := if okr r then 256 * r else 0
def nwN (r : Int) : Int := if okr r then 1 else 0
def nwE (r : Int) : Int := if okr r then 0 else 1

theorem new9 (r : Int) (w : World) : Calls Try.prog 9 #[.int .i64 r] w fun e w' => e = .returned (.tuple #[.agg #[.int .i64 (nwR r), .int .i64 0, .int .i64 (nwN r)], .int .i64 (nwE r)]) ∧ Below w.heap.size w w' := by
  by_cases h : okr r
  · have H1 : nwR r = 256 * r := by unfold nwR; rw [if_pos h]
    have H2 : nwN r = 1 := by unfold nwN; rw [if_pos h]
    have H3 : nwE r = 0 := by unfold nwE; rw [if_pos h]
    rw [H1, H2, H3]; clear H1 H2 H3
    obtain ⟨h1, h2⟩ := h
    go_enter Try.func9, Try.ntmps9
    go_wp2
    exact bodyPost_ret (v := .tuple #[.agg #[.int .i64 (256 * r), .int .i64 0, .int .i64 1], .int .i64 0]) (by simp [results, Try.results9, go_sem]) rfl ⟨rfl, (Below.refl _ _).alloc (Nat.le_refl _) _⟩
  · have H1 : nwR r = 0 := by unfold nwR; rw [if_neg h]
    have H2 : nwN r = 0 := by unfold nwN; rw [if_neg h]
    have H3 : nwE r = 1 := by unfold nwE; rw [if_neg h]
    rw [H1, H2, H3]; clear H1 H2 H3
    unfold okr at h
    go_enter Try.func9, Try.ntmps9
    go_wp2
    all_goals first | omega | exact bodyPost_ret (v := .tuple #[.agg #[.int .i64 0, .int .i64 0, .int .i64 0], .int .i64 1]) (by simp [results, Try.results9, go_sem]) rfl ⟨rfl, (Below.refl _ _).alloc (Nat.le_refl _) _⟩

theorem new10 (r : Int) (w : World) : Calls Try.prog 10 #[.int .i64 r] w fun e w' => e = .returned (.tuple #[.agg #[.int .i64 (nwR r), .int .i64 0, .int .i64 (nwN r)], .int .i64 (nwE r)]) ∧ Below w.heap.size w w' := by
  by_cases h : okr r
  · have H1 : nwR r = 256 * r := by unfold nwR; rw [if_pos h]
    have H2 : nwN r = 1 := by unfold nwN; rw [if_pos h]
    have H3 : nwE r = 0 := by unfold nwE; rw [if_pos h]
    rw [H1, H2, H3]; clear H1 H2 H3
    obtain ⟨h1, h2⟩ := h
    go_enter Try.func10, Try.ntmps10
    go_wp2
    exact bodyPost_ret (v := .tuple #[.agg #[.int .i64 (256 * r), .int .i64 0, .int .i64 1], .int .i64 0]) (by simp [results, Try.results10, go_sem]) rfl ⟨rfl, (Below.refl _ _).alloc (Nat.le_refl _) _⟩
  · have H1 : nwR r = 0 := by unfold nwR; rw [if_neg h]
    have H2 : nwN r = 0 := by unfold nwN; rw [if_neg h]
    have H3 : nwE r = 1 := by unfold nwE; rw [if_neg h]
    rw [H1, H2, H3]; clear H1 H2 H3
    unfold okr at h
    go_enter Try.func10, Try.ntmps10
    go_wp2
    all_goals first | omega | exact bodyPost_ret (v := .tuple #[.agg #[.int .i64 0, .int .i64 0, .int .i64 0], .int .i64 1]) (by simp [results, Try.results10, go_sem]) rfl ⟨rfl, (Below.refl _ _).alloc (Nat.le_refl _) _⟩

def uR (R V N r c : Int) : Int := if okU R V N r c then upR R V N r c else 0
def uV (R V N r c : Int) : Int := if okU R V N r c then upV R V N r c else 0
def uN (R V N r c : Int) : Int := if okU R V N r c then upN N else 0
def uE (R V N r c : Int) : Int := if okU R V N r c then 0 else 1

theorem upd13n (R V N r c : Int) (w : World) (h : ¬ okU R V N r c) : Calls Try.prog 13 #[.agg #[.int .i64 R, .int .i64 V, .int .i64 N], .int .i64 r, .int .i64 c] w fun e w' => e = .returned (.tuple #[.agg #[.int .i64 0, .int .i64 0, .int .i64 0], .int .i64 1]) ∧ Below w.heap.size w w' := by
  by_cases hx : okX R V N
  · have h' : ¬ (0 ≤ r ∧ r ≤ 8192 ∧ 1 ≤ c ∧ c ≤ 16) := fun h2 => h ⟨hx, h2⟩
    have HC := chk17 R V N
    rw [show chk R V N = 0 by unfold chk; rw [if_pos hx]] at HC
    have HC' := Lib.hid HC; clear HC hx h
    go_enter Try.func13, Try.ntmps13
    go_wp2_with (go_at_call 17; refine (HC'.out _).mono ?_; rintro e w1 ⟨rfl, rfl⟩)
    all_goals first | omega | exact bodyPost_ret (v := .tuple #[.agg #[.int .i64 0, .int .i64 0, .int .i64 0], .int .i64 1]) (by simp [results, Try.results13, go_sem]) rfl ⟨rfl, by repeat' (first | exact Below.refl _ _ | refine Below.drew ?_ | refine Below.alloc ?_ ?_ _ | (simp <;> omega))⟩
  · have HC := chk17 R V N
    rw [show chk R V N = 1 by unfold chk; rw [if_neg hx]] at HC
    have HC' := Lib.hid HC; clear HC hx h
    go_enter Try.func13, Try.ntmps13
    go_wp2_with (go_at_call 17; refine (HC'.out _).mono ?_; rintro e w1 ⟨rfl, rfl⟩)
    all_goals first | omega | exact bodyPost_ret (v := .tuple #[.agg #[.int .i64 0, .int .i64 0, .int .i64 0], .int .i64 1]) (by simp [results, Try.results13, go_sem]) rfl ⟨rfl, by repeat' (first | exact Below.refl _ _ | refine Below.drew ?_ | refine Below.alloc ?_ ?_ _ | (simp <;> omega))⟩

theorem upd14n (R V N r c : Int) (w : World) (h : ¬ okU R V N r c) : Calls Try.prog 14 #[.agg #[.int .i64 R, .int .i64 V, .int .i64 N], .int .i64 r, .int .i64 c] w fun e w' => e = .returned (.tuple #[.agg #[.int .i64 0, .int .i64 0, .int .i64 0], .int .i64 1]) ∧ Below w.heap.size w w' := by
  by_cases hx : okX R V N
  · have h' : ¬ (0 ≤ r ∧ r ≤ 8192 ∧ 1 ≤ c ∧ c ≤ 16) := fun h2 => h ⟨hx, h2⟩
    have HC := chk18 R V N
    rw [show chk R V N = 0 by unfold chk; rw [if_pos hx]] at HC
    have HC' := Lib.hid HC; clear HC hx h
    go_enter Try.func14, Try.ntmps14
    go_wp2_with (go_at_call 18; refine (HC'.out _).mono ?_; rintro e w1 ⟨rfl, rfl⟩)
    all_goals first | omega | exact bodyPost_ret (v := .tuple #[.agg #[.int .i64 0, .int .i64 0, .int .i64 0], .int .i64 1]) (by simp [results, Try.results14, go_sem]) rfl ⟨rfl, by repeat' (first | exact Below.refl _ _ | refine Below.drew ?_ | refine Below.alloc ?_ ?_ _ | (simp <;> omega))⟩
  · have HC := chk18 R V N
    rw [show chk R V N = 1 by unfold chk; rw [if_neg hx]] at HC
    have HC' := Lib.hid HC; clear HC hx h
    go_enter Try.func14, Try.ntmps14
    go_wp2_with (go_at_call 18; refine (HC'.out _).mono ?_; rintro e w1 ⟨rfl, rfl⟩)
    all_goals first | omega | exact bodyPost_ret (v := .tuple #[.agg #[.int .i64 0, .int .i64 0, .int .i64 0], .int .i64 1]) (by simp [results, Try.results14, go_sem]) rfl ⟨rfl, by repeat' (first | exact Below.refl _ _ | refine Below.drew ?_ | refine Below.alloc ?_ ?_ _ | (simp <;> omega))⟩

theorem upd13 (R V N r c : Int) (w : World) : Calls Try.prog 13 #[.agg #[.int .i64 R, .int .i64 V, .int .i64 N], .int .i64 r, .int .i64 c] w fun e w' => e = .returned (.tuple #[.agg #[.int .i64 (uR R V N r c), .int .i64 (uV R V N r c), .int .i64 (uN R V N r c)], .int .i64 (uE R V N r c)]) ∧ Below w.heap.size w w' := by
  unfold uR uV uN uE
  by_cases h : okU R V N r c
  · simp only [if_pos h]
    by_cases h7 : N ≤ 7
    · exact upd13a R V N r c w h h7
    · by_cases h9 : N ≤ 999
      · exact upd13b R V N r c w h (by omega) h9
      · obtain rfl : N = 1000 := by have := h.1; unfold okX at this; omega
        exact upd13c R V r c w h
  · simp only [if_neg h]
    exact upd13n R V N r c w h

theorem upd14 (R V N r c : Int) (w : World) : Calls Try.prog 14 #[.agg #[.int .i64 R, .int .i64 V, .int .i64 N], .int .i64 r, .int .i64 c] w fun e w' => e = .returned (.tuple #[.agg #[.int .i64 (uR R V N r c), .int .i64 (uV R V N r c), .int .i64 (uN R V N r c)], .int .i64 (uE R V N r c)]) ∧ Below w.heap.size w w' := by
  unfold uR uV uN uE
  by_cases h : okU R V N r c
  · simp only [if_pos h]
    by_cases h7 : N ≤ 7
    · exact upd14a R V N r c w h h7
    · by_cases h9 : N ≤ 999
      · exact upd14b R V N r c w h (by omega) h9
      · obtain rfl : N = 1000 := by have := h.1; unfold okX at this; omega
        exact upd14c R V r c w h
  · simp only [if_neg h]
    exact upd14n R V N r c w h

def okP (R V N c : Int) : Prop := okX R V N ∧ 0 ≤ c ∧ c ≤ 16
instance (R V N c : Int) : Decidable (okP R V N c) := by unfold okP; infer_instance
def pdP (R V N c : Int) : Int := if okP R V N c then lim (R + c * V) 0 2097152 else 0
def pdE (R V N c : Int) : Int := if okP R V N c then 0 else 1

theorem prd11n (R V N c : Int) (w : World) (h : ¬ okP R V N c) : Calls Try.prog 11 #[.agg #[.int .i64 R, .int .i64 V, .int .i64 N], .int .i64 c] w fun e w' => e = .returned (.tuple #[.int .i64 0, .int .i64 1]) ∧ Below w.heap.size w w' := by
  by_cases hx : okX R V N
  · have h' : ¬ (0 ≤ c ∧ c ≤ 16) := fun h2 => h ⟨hx, h2⟩
    have HC := chk17 R V N
    rw [show chk R V N = 0 by unfold chk; rw [if_pos hx]] at HC
    have HC' := Lib.hid HC; clear HC hx h
    by_cases hc : c < 0
    all_goals
      go_enter Try.func11, Try.ntmps11
      go_wp2_with (go_at_call 17; refine (HC'.out _).mono ?_; rintro e w1 ⟨rfl, rfl⟩)
      go_ret2
      exact ⟨rfl, by repeat' (first | exact Below.refl _ _ | refine Below.drew ?_ | refine Below.alloc ?_ ?_ _ | (simp <;> omega))⟩
  · have HC := chk17 R V N
    rw [show chk R V N = 1 by unfold chk; rw [if_neg hx]] at HC
    have HC' := Lib.hid HC; clear HC hx h
    go_enter Try.func11, Try.ntmps11
    go_wp2_with (go_at_call 17; refine (HC'.out _).mono ?_; rintro e w1 ⟨rfl, rfl⟩)
    go_ret2
    exact ⟨rfl, by repeat' (first | exact Below.refl _ _ | refine Below.drew ?_ | refine Below.alloc ?_ ?_ _ | (simp <;> omega))⟩

theorem prd12n (R V N c : Int) (w : World) (h : ¬ okP R V N c) : Calls Try.prog 12 #[.agg #[.int .i64 R, .int .i64 V, .int .i64 N], .int .i64 c] w fun e w' => e = .returned (.tuple #[.int .i64 0, .int .i64 1]) ∧ Below w.heap.size w w' := by
  by_cases hx : okX R V N
  · have h' : ¬ (0 ≤ c ∧ c ≤ 16) := fun h2 => h ⟨hx, h2⟩
    have HC := chk18 R V N
    rw [show chk R V N = 0 by unfold chk; rw [if_pos hx]] at HC
    have HC' := Lib.hid HC; clear HC hx h
    by_cases hc : c < 0
    all_goals
      go_enter Try.func12, Try.ntmps12
      go_wp2_with (go_at_call 18; refine (HC'.out _).mono ?_; rintro e w1 ⟨rfl, rfl⟩)
      go_ret2
      exact ⟨rfl, by repeat' (first | exact Below.refl _ _ | refine Below.drew ?_ | refine Below.alloc ?_ ?_ _ | (simp <;> omega))⟩
  · have HC := chk18 R V N
    rw [show chk R V N = 1 by unfold chk; rw [if_neg hx]] at HC
    have HC' := Lib.hid HC; clear HC hx h
    go_enter Try.func12, Try.ntmps12
    go_wp2_with (go_at_call 18; refine (HC'.out _).mono ?_; rintro e w1 ⟨rfl, rfl⟩)
    go_ret2
    exact ⟨rfl, by repeat' (first | exact Below.refl _ _ | refine Below.drew ?_ | refine Below.alloc ?_ ?_ _ | (simp <;> omega))⟩

theorem prd12y (R V N c : Int) (w : World) (h : okP R V N c) : Calls Try.prog 12 #[.agg #[.int .i64 R, .int .i64 V, .int .i64 N], .int .i64 c] w fun e w' => e = .returned (.tuple #[.int .i64 (lim (R + c * V) 0 2097152), .int .i64 0]) ∧ Below w.heap.size w w' := by
  obtain ⟨hx, h2, h3⟩ := h
  have HC := chk18 R V N
  rw [show chk R V N = 0 by unfold chk; rw [if_pos hx]] at HC
  have HC' := Lib.hid HC; clear HC
  obtain ⟨x1, x2, x3, x4, x5, x6⟩ := hx
  obtain ⟨a1, a2⟩ := mul_bd (a := c) (b := V) (A := 16) (B := 16384) (by omega) (by omega) (by omega) (by omega)
  go_enter Try.func12, Try.ntmps12
  go_wp2_with (first | (go_at_call 18; refine (HC'.out _).mono ?_; rintro e w1 ⟨rfl, rfl⟩) | (go_at_call 27; refine (lim27 _ _ _ _).mono ?_; rintro e w1 ⟨rfl, rfl⟩))
  go_ret2
  exact ⟨rfl, by repeat' (first | exact Below.refl _ _ | refine Below.drew ?_ | refine Below.alloc ?_ ?_ _ | (simp <;> omega))⟩

set_option maxHeartbeats 1000000 in
theorem prd11y (R V N c : Int) (w : World) (h : okP R V N c) : Calls Try.prog 11 #[.agg #[.int .i64 R, .int .i64 V, .int .i64 N], .int .i64 c] w fun e w' => e = .returned (.tuple #[.int .i64 (lim (R + c * V) 0 2097152), .int .i64 0]) ∧ Below w.heap.size w w' := by
  obtain ⟨hx, h2, h3⟩ := h
  have HC := chk17 R V N
  rw [show chk R V N = 0 by unfold chk; rw [if_pos hx]] at HC
  have HC' := Lib.hid HC; clear HC
  obtain ⟨x1, x2, x3, x4, x5, x6⟩ := hx
  obtain ⟨a1, a2⟩ := mul_bd (a := c) (b := V) (A := 16) (B := 16384) (by omega) (by omega) (by omega) (by omega)
  have q1 : IntKind.i64.wrap (c * V) = c * V := IntWalk.i64_in _ (by omega)
  have q2 : IntKind.i64.wrap (R + c * V) = R + c * V := IntWalk.i64_in _ (by omega)
  have Q1 := Lib.hid q1; have Q2 := Lib.hid q2; clear q1 q2
  go_enter Try.func11, Try.ntmps11
  go_wp2_with (go_at_call 17; refine (HC'.out _).mono ?_; rintro e w1 ⟨rfl, rfl⟩)
  have q1 := Q1.out
  have q2 := Q2.out
  go_region_with (first | (go_at_call 26; refine (lim26 _ _ _).mono ?_; rintro e w2 ⟨rfl, rfl⟩) | (go_at_call 31; refine (clo31 _ 0 2097152 _ _ _ ?_ ?_).mono ?_; (focus (go_simp; done)); (focus (go_simp; done)); rintro e w2 ⟨rfl, rfl⟩))
  all_goals go_wp2_with fail
  all_goals go_ret2
  all_goals exact ⟨rfl, by repeat' (first | exact Below.refl _ _ | refine Below.drew ?_ | refine Below.alloc ?_ ?_ _ | (simp <;> omega))⟩

theorem prd11 (R V N c : Int) (w : World) : Calls Try.prog 11 #[.agg #[.int .i64 R, .int .i64 V, .int .i64 N], .int .i64 c] w fun e w' => e = .returned (.tuple #[.int .i64 (pdP R V N c), .int .i64 (pdE R V N c)]) ∧ Below w.heap.size w w' := by
  unfold pdP pdE
  by_cases h : okP R V N c
  · simp only [if_pos h]; exact prd11y R V N c w h
  · simp only [if_neg h]; exact prd11n R V N c w h
theorem prd12 (R V N c : Int) (w : World) : Calls Try.prog 12 #[.agg #[.int .i64 R, .int .i64 V, .int .i64 N], .int .i64 c] w fun e w' => e = .returned (.tuple #[.int .i64 (pdP R V N c), .int .i64 (pdE R V N c)]) ∧ Below w.heap.size w w' := by
  unfold pdP pdE
  by_cases h : okP R V N c
  · simp only [if_pos h]; exact prd12y R V N c w h
  · simp only [if_neg h]; exact prd12n R V N c w h
end Go.Proofs.Ytephkhaebkajkaa
