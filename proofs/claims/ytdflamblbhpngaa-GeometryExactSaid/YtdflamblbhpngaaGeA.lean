/- Small contracts of package geometry and of its reference. -/
import Derived.Test.YtdflamblbhpngaaRows
import Derived.WalkKit
import Derived.WalkLawsBesides
import Derived.WalkSpells
import Derived.ProofKit
import Derived.Below
import Derived.Outline
import Derived.Lib.Hide
import Derived.Deep.RegionWith
import Derived.Deep.RegionHeld3
import Derived.Deep.DrawnRows
import Derived.StillTailTactics
import Derived.BigQuiet
import Derived.Deep.QuietTactic
import Derived.Deep.LoopGhost
import Derived.IntWalk
import Derived.Test.YtdflamblbhpngaaK2
import Derived.Shelf.Bits.Mul64
import Derived.ChangeKeysEq
namespace Go.Proofs.Ytdflamblbhpngaa
open Go.RowKit
attribute [local go_sem ↓] Go.wp_at_zero Go.wp_at_succ
attribute [local go_sem] wrap_lit

structure V3 where
  x : Int
  y : Int
  z : Int

def okP (p : V3) : Prop := -8192 ≤ p.x ∧ p.x ≤ 8192 ∧ -8192 ≤ p.y ∧ p.y ≤ 8192 ∧ -1000 ≤ p.z ∧ p.z ≤ 50000
instance (p : V3) : Decidable (okP p) := by unfold okP; infer_instance
def okV (p : V3) : Prop := -64 ≤ p.x ∧ p.x ≤ 64 ∧ -64 ≤ p.y ∧ p.y ≤ 64 ∧ -100 ≤ p.z ∧ p.z ≤ 100
instance (p : V3) : Decidable (okV p) := by unfold okV; infer_instance
def ckP (p : V3) : Int := if okP p then 0 else 1
def ckV (p : V3) : Int := if okV p then 0 else 1

theorem check31 (p : V3) (w : World) : Calls Try.prog 31 #[.agg #[.int .i64 p.x, .int .i64 p.y, .int .i64 p.z]] w fun e w' => e = .returned (.int .i64 (ckP p)) ∧ w.alloc (.cells #[.int .i64 p.x, .int .i64 p.y, .int .i64 p.z] 23) = w' := by
  by_cases h : okP p
  · have H : ckP p = 0 := by unfold ckP; rw [if_pos h]
    rw [H]; clear H
    obtain ⟨h1, h2, h3, h4, h5, h6⟩ := h
    go_enter Try.func31, Try.ntmps31
    go_wp2
    go_ret
    exact ⟨rfl, rfl⟩
  · have H : ckP p = 1 := by unfold ckP; rw [if_neg h]
    rw [H]; clear H
    unfold okP at h
    go_enter Try.func31, Try.ntmps31
    go_wp2
    all_goals first | omega | (go_ret; exact ⟨rfl, rfl⟩)

theorem check32 (p : V3) (w : World) : Calls Try.prog 32 #[.agg #[.int .i64 p.x, .int .i64 p.y, .int .i64 p.z]] w fun e w' => e = .returned (.int .i64 (ckP p)) ∧ w.alloc (.cells #[.int .i64 p.x, .int .i64 p.y, .int .i64 p.z] 23) = w' := by
  by_cases h : okP p
  · have H : ckP p = 0 := by unfold ckP; rw [if_pos h]
    rw [H]; clear H
    obtain ⟨h1, h2, h3, h4, h5, h6⟩ := h
    go_enter Try.func32, Try.ntmps32
    go_wp2
    go_ret
    exact ⟨rfl, rfl⟩
  · have H : ckP p = 1 := by unfold ckP; rw [if_neg h]
    rw [H]; clear H
    unfold okP at h
    go_enter Try.func32, Try.ntmps32
    go_wp2
    all_goals first | omega | (go_ret; exact ⟨rfl, rfl⟩)

theorem checkV33 (p : V3) (w : World) : Calls Try.prog 33 #[.agg #[.int .i64 p.x, .int .i64 p.y, .int .i64 p.z]] w fun e w' => e = .returned (.int .i64 (ckV p)) ∧ w.alloc (.cells #[.int .i64 p.x, .int .i64 p.y, .int .i64 p.z] 24) = w' := by
  by_cases h : okV p
  · have H : ckV p = 0 := by unfold ckV; rw [if_pos h]
    rw [H]; clear H
    obtain ⟨h1, h2, h3, h4, h5, h6⟩ := h
    go_enter Try.func33, Try.ntmps33
    go_wp2
    go_ret
    exact ⟨rfl, rfl⟩
  · have H : ckV p = 1 := by unfold ckV; rw [if_neg h]
    rw [H]; clear H
    unfold okV at h
    go_enter Try.func33, Try.ntmps33
    go_wp2
    all_goals first | omega | (go_ret; exact ⟨rfl, rfl⟩)

theorem checkV34 (p : V3) (w : World) : Calls Try.prog 34 #[.agg #[.int .i64 p.x, .int .i64 p.y, .int .i64 p.z]] w fun e w' => e = .returned (.int .i64 (ckV p)) ∧ w.alloc (.cells #[.int .i64 p.x, .int .i64 p.y, .int .i64 p.z] 24) = w' := by
  by_cases h : okV p
  · have H : ckV p = 0 := by unfold ckV; rw [if_pos h]
    rw [H]; clear H
    obtain ⟨h1, h2, h3, h4, h5, h6⟩ := h
    go_enter Try.func34, Try.ntmps34
    go_wp2
    go_ret
    exact ⟨rfl, rfl⟩
  · have H : ckV p = 1 := by unfold ckV; rw [if_neg h]
    rw [H]; clear H
    unfold okV at h
    go_enter Try.func34, Try.ntmps34
    go_wp2
    all_goals first | omega | (go_ret; exact ⟨rfl, rfl⟩)

def dot (a b : V3) : Int := a.x * b.x + a.y * b.y + a.z * b.z
/-- Small enough for a scalar product. -/
def sm (a : V3) : Prop := -1600000 ≤ a.x ∧ a.x ≤ 1600000 ∧ -1600000 ≤ a.y ∧ a.y ≤ 1600000 ∧ -1600000 ≤ a.z ∧ a.z ≤ 1600000
theorem dot_bd (a b : V3) (ha : sm a) (hb : sm b) : (-2560000000000 ≤ a.x * b.x ∧ a.x * b.x ≤ 2560000000000) ∧ (-2560000000000 ≤ a.y * b.y ∧ a.y * b.y ≤ 2560000000000) ∧ (-2560000000000 ≤ a.z * b.z ∧ a.z * b.z ≤ 2560000000000) := by
  obtain ⟨a1, a2, a3, a4, a5, a6⟩ := ha
  obtain ⟨b1, b2, b3, b4, b5, b6⟩ := hb
  exact ⟨mul_bd (A := 1600000) (B := 1600000) a1 a2 b1 b2, mul_bd (A := 1600000) (B := 1600000) a3 a4 b3 b4, mul_bd (A := 1600000) (B := 1600000) a5 a6 b5 b6⟩

theorem dot43 (a b : V3) (w : World) (ha : sm a) (hb : sm b) : Calls Try.prog 43 #[.agg #[.int .i64 a.x, .int .i64 a.y, .int .i64 a.z], .agg #[.int .i64 b.x, .int .i64 b.y, .int .i64 b.z]] w fun e w' => e = .returned (.int .i64 (dot a b)) ∧ (w.alloc (.cells #[.int .i64 a.x, .int .i64 a.y, .int .i64 a.z] 55)).alloc (.cells #[.int .i64 b.x, .int .i64 b.y, .int .i64 b.z] 55) = w' := by
  obtain ⟨⟨m1, m2⟩, ⟨m3, m4⟩, m5, m6⟩ := dot_bd a b ha hb
  obtain ⟨a1, a2, a3, a4, a5, a6⟩ := ha
  obtain ⟨b1, b2, b3, b4, b5, b6⟩ := hb
  go_enter Try.func43, Try.ntmps43
  go_wp2_with fail
  go_ret
  exact ⟨rfl, rfl⟩

set_option maxHeartbeats 1000000 in
open Go.Proofs.Mul64 in
theorem mul51 (x y : Nat) (hx : x < 18446744073709551616) (hy : y < 18446744073709551616) (w : World) : Calls Try.prog 51 #[.int .u64 x, .int .u64 y] w fun e w' => e = .returned (.tuple #[.int .u64 ((x * y / 18446744073709551616 : Nat) : Int), .int .u64 ((x * y % 18446744073709551616 : Nat) : Int)]) ∧ w = w' := by
  obtain ⟨b1, b2, b3, hh⟩ := Lib.mul64_hi x y hx hy
  have p1 := Lib.half_mul_le (a := x / 4294967296) (b := y / 4294967296) (by omega) (by omega)
  have p2 := Lib.half_mul_le (a := x / 4294967296) (b := y % 4294967296) (by omega) (by omega)
  have p3 := Lib.half_mul_le (a := x % 4294967296) (b := y / 4294967296) (by omega) (by omega)
  have q1 : x / 4294967296 * (y / 4294967296) < 18446744073709551616 := by omega
  have q2 : x / 4294967296 * (y % 4294967296) < 18446744073709551616 := by omega
  have q3 : x % 4294967296 * (y / 4294967296) < 18446744073709551616 := by omega
  have q4 : x / 4294967296 * (y / 4294967296) + (x / 4294967296 * (y % 4294967296) + x % 4294967296 * (y % 4294967296) / 4294967296) / 4294967296 < 18446744073709551616 := by omega
  have q5 : x / 4294967296 * (y / 4294967296) + (x / 4294967296 * (y % 4294967296) + x % 4294967296 * (y % 4294967296) / 4294967296) / 4294967296 + ((x / 4294967296 * (y % 4294967296) + x % 4294967296 * (y % 4294967296) / 4294967296) % 4294967296 + x % 4294967296 * (y / 4294967296)) / 4294967296 < 18446744073709551616 := by omega
  go_enter Try.func51, Try.ntmps51
  go_wp2_with fail
  simp only [maskN x hx, maskN y hy, divN, mulN, addN, wrapN _ b1, wrapN _ q2, wrapN _ b2, maskN _ b2, wrapN _ q3, wrapN _ b3, wrapN _ q1, wrapN _ q4, wrapN _ q5, wrapM (x * y)]
  rw [hh]
  go_ret2
  exact ⟨rfl, rfl⟩

/-- The two words of a product. -/
def hiW (x y : Nat) : Int := ((x * y / 18446744073709551616 : Nat) : Int)
def loW (x y : Nat) : Int := ((x * y % 18446744073709551616 : Nat) : Int)
theorem mult48 (x y : Nat) (w : World) (hx : x < 9223372036854775808) (hy : y < 9223372036854775808) : Calls Try.prog 48 #[.int .i64 x, .int .i64 y] w fun e w' => e = .returned (.agg #[.int .u64 (hiW x y), .int .u64 (loW x y)]) ∧ Below w.heap.size w w' := by
  have H0 : ∀ w, Calls Try.prog 51 #[.int .u64 x, .int .u64 y] w fun e w' => e = .returned (.tuple #[.int .u64 (hiW x y), .int .u64 (loW x y)]) ∧ w = w' := mul51 x y (by omega) (by omega)
  have H := Lib.hid H0
  have k1 : IntKind.u64.wrap (x : Int) = x := by rw [IntKind.wrap_u64]; omega
  have k2 : IntKind.u64.wrap (y : Int) = y := by rw [IntKind.wrap_u64]; omega
  clear hx hy H0
  go_enter Try.func48, Try.ntmps48
  go_wp2_with fail
  refine (H.out _).mono ?_
  rintro e w1 ⟨rfl, rfl⟩
  go_wp2_with fail
  exact bodyPost_ret (v := .agg #[.int .u64 (hiW x y), .int .u64 (loW x y)]) (by simp [results, Try.results48, go_sem]) rfl ⟨rfl, (Below.refl _ _).alloc (Nat.le_refl _) _⟩

theorem info_u64 : (Try.prog.info? 73).isSome = true := by kernel_rfl
theorem neq75 (a b c d : Int) (w : World) : (binOp .neq 75 (.agg #[.int .u64 a, .int .u64 b]) (.agg #[.int .u64 c, .int .u64 d])).run Try.prog w = .ok (.bool (!(a == c && b == d))) w := by
  obtain ⟨i, hi⟩ := Option.isSome_iff_exists.1 info_u64
  have hc : Try.prog.cellsOf 73 = 1 := by kernel_rfl
  rw [run_neq_struct, run_equalIn_array w 9999 _ _ Try.underlying75 hi, hc]
  have h2 : List.range 2 = [0, 1] := rfl
  rw [h2]
  simp [Op.eqItems, go_sem]
  by_cases h1 : a = c <;> by_cases h2 : b = d <;> simp [h1, h2]
attribute [local go_sem high] neq75

def ltW (a b c d : Int) : Prop := a < c ∨ a = c ∧ b < d
instance (a b c d : Int) : Decidable (ltW a b c d) := by unfold ltW; infer_instance
theorem less47 (a b c d : Int) (w : World) : Calls Try.prog 47 #[.agg #[.int .u64 a, .int .u64 b], .agg #[.int .u64 c, .int .u64 d]] w fun e w' => e = .returned (.bool (decide (ltW a b c d))) ∧ Below w.heap.size w w' := by
  have key : ∀ (a b c d : Int) (r : Bool) (w : World), ((a = c ∧ b = d ∧ r = false) ∨ (a < c ∧ r = true) ∨ (c < a ∧ r = false) ∨ (a = c ∧ b < d ∧ r = true) ∨ (a = c ∧ d < b ∧ r = false)) → Calls Try.prog 47 #[.agg #[.int .u64 a, .int .u64 b], .agg #[.int .u64 c, .int .u64 d]] w fun e w' => e = .returned (.bool r) ∧ Below w.heap.size w w' := by
    intro a b c d r w h
    rcases h with ⟨rfl, rfl, rfl⟩ | ⟨h, rfl⟩ | ⟨h, rfl⟩ | ⟨rfl, h, rfl⟩ | ⟨rfl, h, rfl⟩
    all_goals
      try have h' : (a == c) = false := by simp; omega
      try have h'' : (b == d) = false := by simp; omega
      try have h3 : decide (a < c) = false := by simp; omega
      try have h4 : decide (b < d) = false := by simp; omega
      go_enter Try.func47, Try.ntmps47
      go_wp2_with fail
      (go_ret; exact ⟨rfl, ((Below.refl _ _).alloc (Nat.le_refl _) _).alloc (by simp) _⟩)
  refine key a b c d _ w ?_
  rcases Int.lt_trichotomy a c with h | h | h
  · exact .inr (.inl ⟨h, decide_eq_true (.inl h)⟩)
  · rcases Int.lt_trichotomy b d with g | g | g
    · exact .inr (.inr (.inr (.inl ⟨h, g, decide_eq_true (.inr ⟨h, g⟩)⟩)))
    · exact .inl ⟨h, g, decide_eq_false (fun k => by unfold ltW at k; omega)⟩
    · exact .inr (.inr (.inr (.inr ⟨h, g, decide_eq_false (fun k => by unfold ltW at k; omega)⟩)))
  · exact .inr (.inr (.inl ⟨h, decide_eq_false (fun k => by unfold ltW at k; omega)⟩))
theorem ltW_mul (x y x' y' : Nat) : ltW (hiW x y) (loW x y) (hiW x' y') (loW x' y') ↔ x * y < x' * y' := by
  unfold ltW hiW loW
  generalize x * y = m
  generalize x' * y' = n
  omega
end Go.Proofs.Ytdflamblbhpngaa
