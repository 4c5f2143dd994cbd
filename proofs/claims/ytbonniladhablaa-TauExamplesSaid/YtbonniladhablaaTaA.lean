/- Contracts of the small functions of package tau and of its reference. -/
import Derived.Test.YtbonniladhablaaK2
namespace Go.Proofs.Ytbonniladhablaa
open Go.RowKit
attribute [local go_sem ↓] Go.wp_at_zero Go.wp_at_succ
attribute [local go_sem] wrap_lit

def okX (R V N : Int) : Prop := 0 ≤ R ∧ R ≤ 2097152 ∧ -16384 ≤ V ∧ V ≤ 16384 ∧ 1 ≤ N ∧ N ≤ 1000
instance (R V N : Int) : Decidable (okX R V N) := by unfold okX; infer_instance
def chk (R V N : Int) : Int := if okX R V N then 0 else 1

theorem chk17 (R V N : Int) (w : World) : Calls Try.prog 31 #[.agg #[.int .i64 R, .int .i64 V, .int .i64 N]] w fun e w' => e = .returned (.int .i64 (chk R V N)) ∧ w.alloc (.cells #[.int .i64 R, .int .i64 V, .int .i64 N] 23) = w' := by
  by_cases h : okX R V N
  · have H : chk R V N = 0 := by unfold chk; rw [if_pos h]
    rw [H]; clear H
    obtain ⟨h1, h2, h3, h4, h5, h6⟩ := h
    go_enter Try.func31, Try.ntmps31
    go_wp2
    go_ret
    exact ⟨rfl, rfl⟩
  · have H : chk R V N = 1 := by unfold chk; rw [if_neg h]
    rw [H]; clear H
    unfold okX at h
    go_enter Try.func31, Try.ntmps31
    go_wp2
    all_goals first | omega | (go_ret; exact ⟨rfl, rfl⟩)

theorem chk18 (R V N : Int) (w : World) : Calls Try.prog 33 #[.agg #[.int .i64 R, .int .i64 V, .int .i64 N]] w fun e w' => e = .returned (.int .i64 (chk R V N)) ∧ w.alloc (.cells #[.int .i64 R, .int .i64 V, .int .i64 N] 23) = w' := by
  by_cases h : okX R V N
  · have H : chk R V N = 0 := by unfold chk; rw [if_pos h]
    rw [H]; clear H
    obtain ⟨h1, h2, h3, h4, h5, h6⟩ := h
    go_enter Try.func33, Try.ntmps33
    go_wp2
    go_ret
    exact ⟨rfl, rfl⟩
  · have H : chk R V N = 1 := by unfold chk; rw [if_neg h]
    rw [H]; clear H
    unfold okX at h
    go_enter Try.func33, Try.ntmps33
    go_wp2
    all_goals first | omega | (go_ret; exact ⟨rfl, rfl⟩)


theorem Is.fresh (w : World) (T : TypeId) (xs : List Int) : Is .i64 (w.alloc (.cells (xs.map (Value.int .i64)).toArray T)) (w.heap.size + 1) (some ⟨w.heap.size, 0, none⟩) xs := fun _ =>
  ⟨w.heap.size, 0, rfl, by omega, fun j hj => by
    rw [World.cell?_alloc_at _ _ _ _ rfl]
    simp [nth, List.getD_eq_getElem?_getD, hj]⟩

theorem fresh3 (w : World) (T : TypeId) (H : Nat) (x0 x1 x2 : Int) (hH : w.heap.size = H) : Is .i64 (w.alloc (.cells #[.int .i64 x0, .int .i64 x1, .int .i64 x2] T)) (H + 1) (some ⟨H, 0, none⟩) [x0, x1, x2] := by subst hH; exact Is.fresh w T [x0, x1, x2]
theorem fresh6 (w : World) (T : TypeId) (H : Nat) (x0 x1 x2 x3 x4 x5 : Int) (hH : w.heap.size = H) : Is .i64 (w.alloc (.cells #[.int .i64 x0, .int .i64 x1, .int .i64 x2, .int .i64 x3, .int .i64 x4, .int .i64 x5] T)) (H + 1) (some ⟨H, 0, none⟩) [x0, x1, x2, x3, x4, x5] := by subst hH; exact Is.fresh w T [x0, x1, x2, x3, x4, x5]
theorem fresh12 (w : World) (T : TypeId) (H : Nat) (x0 x1 x2 x3 x4 x5 x6 x7 x8 x9 x10 x11 : Int) (hH : w.heap.size = H) : Is .i64 (w.alloc (.cells #[.int .i64 x0, .int .i64 x1, .int .i64 x2, .int .i64 x3, .int .i64 x4, .int .i64 x5, .int .i64 x6, .int .i64 x7, .int .i64 x8, .int .i64 x9, .int .i64 x10, .int .i64 x11] T)) (H + 1) (some ⟨H, 0, none⟩) [x0, x1, x2, x3, x4, x5, x6, x7, x8, x9, x10, x11] := by subst hH; exact Is.fresh w T [x0, x1, x2, x3, x4, x5, x6, x7, x8, x9, x10, x11]

def wOk (xs : List Int) (n : Nat) : Prop := ∀ k, k < n → nth xs (k * 3 + 1) ≤ nth xs (k * 3) ∧ nth xs (k * 3) ≤ nth xs (k * 3 + 2)
instance (xs : List Int) (n : Nat) : Decidable (wOk xs n) := by unfold wOk; infer_instance

set_option maxHeartbeats 1000000 in
theorem within32 (A : Option Addr) (cap n : Nat) (xs : List Int) (B : Nat) (r : Int) (w : World) (hA : Is .i64 w B A xs) (hB : B ≤ w.heap.size) (hx : xs.length = n * 3) (hn : n ≤ 1000) (hr : r = if wOk xs n then 0 else 1) :
    Calls Try.prog 32 #[.slice A n cap] w fun e w' => e = .returned (.int .i64 r) ∧ Below w.heap.size w w' := by
  have HR := Lib.hid hr; clear hr
  go_enter Try.func32, Try.ntmps32
  go_wp2_with fail
  go_loopw [7] (fun i wr => ∃ k : Nat, k ≤ n ∧ i = .int .i64 k ∧ (∀ j, j < k → nth xs (j * 3 + 1) ≤ nth xs (j * 3) ∧ nth xs (j * 3) ≤ nth xs (j * 3 + 2)) ∧ Below w.heap.size w wr) (fun i _ => n - (intOf i).toNat)
  case atStart => exact ⟨0, Nat.zero_le _, rfl, fun j h => absurd h (by omega), Below.refl _ _⟩
  case round =>
    obtain ⟨k, hk, rfl, hall, hb⟩ := hrel
    have Hall := Lib.hid hall; clear hall
    by_cases hlt : k < n
    · obtain ⟨b, off, rfl, hbb, hc⟩ := hA (by omega)
      have c0 := (hb.cell (p := ⟨b, off + k * 3, none⟩) (by show b < _; omega)).trans (hc (k * 3) (by omega))
      have c1 := (hb.cell (p := ⟨b, off + (k * 3 + 1), none⟩) (by show b < _; omega)).trans (hc (k * 3 + 1) (by omega))
      have c2 := (hb.cell (p := ⟨b, off + (k * 3 + 2), none⟩) (by show b < _; omega)).trans (hc (k * 3 + 2) (by omega))
      rw [← Nat.add_assoc] at c1 c2
      clear hc hA
      have hlI : (k : Int) < (n : Int) := by omega
      have hbad : ¬ (nth xs (k * 3 + 1) ≤ nth xs (k * 3) ∧ nth xs (k * 3) ≤ nth xs (k * 3 + 2)) → r = 1 := fun h => by
        rw [HR.out, if_neg (fun hw => h (hw k hlt))]
      have HB := Lib.hid hbad; clear hbad
      have hsz := hb.size
      have Hx := Lib.hid hx; clear hx
      by_cases g1 : nth xs (k * 3) < nth xs (k * 3 + 1)
      · have HR1 := Lib.hid (HB.out (by omega))
        go_wp2_with fail
        go_ret
        rw [HR1.out]
        exact ⟨rfl, hb.alloc hsz _⟩
      · by_cases g2 : nth xs (k * 3 + 2) < nth xs (k * 3)
        · have HR1 := Lib.hid (HB.out (by omega))
          go_wp2_with fail
          go_ret
          rw [HR1.out]
          exact ⟨rfl, hb.alloc hsz _⟩
        · go_wp2_with fail
          refine ⟨⟨k + 1, by omega, by go_num, fun j hj => ?_, hb.alloc hsz _⟩, by simp [intOf]; omega⟩
          by_cases hjk : j = k
          · rw [hjk]; omega
          · exact Hall.out j (by omega)
    · obtain rfl : k = n := by omega
      have HR1 : Hid (r = 0) := by
        have : r = 0 := by rw [HR.out, if_pos (show wOk xs k from Hall.out)]
        exact Lib.hid this
      go_wp2_with fail
      go_ret
      rw [HR1.out]
      exact ⟨rfl, hb⟩

/-! ### levels -/
def okL (T Ne H V : Int) : Prop := 0 ≤ T ∧ T ≤ 120 ∧ 0 ≤ V ∧ V ≤ 120 ∧ 0 ≤ Ne ∧ Ne ≤ 1024 ∧ 0 ≤ H ∧ H ≤ 10000
instance (T Ne H V : Int) : Decidable (okL T Ne H V) := by unfold okL; infer_instance
def lvE (T Ne H V : Int) : Int := if okL T Ne H V then 0 else 1
def okA (a r : Int) : Prop := -51000 ≤ a ∧ a ≤ 51000 ∧ -200 ≤ r ∧ r ≤ 200
instance (a r : Int) : Decidable (okA a r) := by unfold okA; infer_instance
def rlE (a r : Int) : Int := if okA a r then 0 else 1

theorem wOk4 (T Ne H V : Int) : wOk [T, 0, 120, V, 0, 120, Ne, 0, 1024, H, 0, 10000] 4 ↔ okL T Ne H V := by
  constructor
  · intro h
    have h0 := h 0 (by omega); have h1 := h 1 (by omega); have h2 := h 2 (by omega); have h3 := h 3 (by omega)
    simp only [nth] at h0 h1 h2 h3
    unfold okL
    exact ⟨h0.1, h0.2, h1.1, h1.2, h2.1, h2.2, h3.1, h3.2⟩
  · rintro ⟨a, b, c, d, e, f, g, i⟩ k hk
    rcases (by omega : k = 0 ∨ k = 1 ∨ k = 2 ∨ k = 3) with rfl | rfl | rfl | rfl
    · exact ⟨a, b⟩
    · exact ⟨c, d⟩
    · exact ⟨e, f⟩
    · exact ⟨g, i⟩
theorem wOk2 (a b x y z u : Int) : wOk [a, x, y, b, z, u] 2 ↔ x ≤ a ∧ a ≤ y ∧ z ≤ b ∧ b ≤ u := by
  constructor
  · intro h
    have h0 := h 0 (by omega); have h1 := h 1 (by omega)
    exact ⟨h0.1, h0.2, h1.1, h1.2⟩
  · rintro ⟨a, b, c, d⟩ k hk
    rcases (by omega : k = 0 ∨ k = 1) with rfl | rfl
    · exact ⟨a, b⟩
    · exact ⟨c, d⟩
theorem wOk1 (a x y : Int) : wOk [a, x, y] 1 ↔ x ≤ a ∧ a ≤ y := by
  constructor
  · intro h; exact h 0 (by omega)
  · intro h k hk
    obtain rfl : k = 0 := by omega
    exact h

theorem level34 (T Ne H V : Int) (w : World) : Calls Try.prog 34 #[.agg #[.int .i64 T, .int .i64 Ne, .int .i64 H, .int .i64 V]] w fun e w' => e = .returned (.int .i64 (lvE T Ne H V)) ∧ Below w.heap.size w w' := by
  have hr : lvE T Ne H V = if wOk [T, 0, 120, V, 0, 120, Ne, 0, 1024, H, 0, 10000] 4 then 0 else 1 := by unfold lvE; simp only [wOk4]
  have HR := Lib.hid hr; clear hr
  go_enter Try.func34, Try.ntmps34
  go_wp2_with fail
  refine (within32 _ 4 4 [T, 0, 120, V, 0, 120, Ne, 0, 1024, H, 0, 10000] _ _ _ (fresh12 _ _ _ _ _ _ _ _ _ _ _ _ _ _ _ (by simp)) (by simp) rfl (by omega) HR.out).mono ?_
  rintro e w1 ⟨rfl, hb1⟩
  go_wp2_with fail
  go_ret
  exact ⟨rfl, (((Below.refl _ _).alloc (Nat.le_refl _) _).alloc (by simp) _).trans (hb1.mono (by simp; omega))⟩
theorem relative37 (a r : Int) (w : World) : Calls Try.prog 37 #[.int .i64 a, .int .i64 r] w fun e w' => e = .returned (.int .i64 (rlE a r)) ∧ Below w.heap.size w w' := by
  have hr : rlE a r = if wOk [a, -51000, 51000, r, -200, 200] 2 then 0 else 1 := by unfold rlE okA; simp only [wOk2]
  have HR := Lib.hid hr; clear hr
  go_enter Try.func37, Try.ntmps37
  go_wp2_with fail
  refine (within32 _ 2 2 [a, -51000, 51000, r, -200, 200] _ _ _ (fresh6 _ _ _ _ _ _ _ _ _ (by simp)) (by simp) rfl (by omega) HR.out).mono ?_
  rintro e w1 ⟨rfl, hb1⟩
  go_wp2_with fail
  go_ret
  exact ⟨rfl, ((Below.refl _ _).alloc (Nat.le_refl _) _).trans (hb1.mono (by simp))⟩
theorem level36 (T Ne H V : Int) (w : World) : Calls Try.prog 36 #[.agg #[.int .i64 T, .int .i64 Ne, .int .i64 H, .int .i64 V]] w fun e w' => e = .returned (.int .i64 (lvE T Ne H V)) ∧ Below w.heap.size w w' := by
  by_cases h : okL T Ne H V
  · have Hh : lvE T Ne H V = 0 := by unfold lvE; rw [if_pos h]
    rw [Hh]; clear Hh
    obtain ⟨h1, h2, h3, h4, h5, h6, h7, h8⟩ := h
    go_enter Try.func36, Try.ntmps36
    go_wp2
    go_ret
    exact ⟨rfl, (Below.refl _ _).alloc (Nat.le_refl _) _⟩
  · have Hh : lvE T Ne H V = 1 := by unfold lvE; rw [if_neg h]
    rw [Hh]; clear Hh
    unfold okL at h
    go_enter Try.func36, Try.ntmps36
    go_wp2
    all_goals first | omega | (go_ret; exact ⟨rfl, (Below.refl _ _).alloc (Nat.le_refl _) _⟩)
theorem relative39 (a r : Int) (w : World) : Calls Try.prog 39 #[.int .i64 a, .int .i64 r] w fun e w' => e = .returned (.int .i64 (rlE a r)) ∧ w = w' := by
  by_cases h : okA a r
  · have Hh : rlE a r = 0 := by unfold rlE; rw [if_pos h]
    rw [Hh]; clear Hh
    obtain ⟨h1, h2, h3, h4⟩ := h
    go_enter Try.func39, Try.ntmps39
    go_wp2
    go_ret
    exact ⟨rfl, rfl⟩
  · have Hh : rlE a r = 1 := by unfold rlE; rw [if_neg h]
    rw [Hh]; clear Hh
    unfold okA at h
    go_enter Try.func39, Try.ntmps39
    go_wp2
    all_goals first | omega | (go_ret; exact ⟨rfl, rfl⟩)
end Go.Proofs.Ytbonniladhablaa
