/- Contracts of the small methods of package chance. -/
import Derived.Test.YtfpogcdffccldaaK2
namespace Go.Proofs.Ytfpogcdffccldaa
open Go.RowKit
attribute [local go_sem ↓] Go.wp_at_zero Go.wp_at_succ
attribute [local go_sem] wrap_lit

def tms (a b : Int) : Int := a * b % 2147483647
theorem tms_bd (a b : Int) : 0 ≤ tms a b ∧ tms a b < 2147483647 := ⟨Int.emod_nonneg _ (by omega), Int.emod_lt_of_pos _ (by omega)⟩
theorem mul_lt {a b : Int} (ha : 0 ≤ a) (ha2 : a < 2147483647) (hb : 0 ≤ b) (hb2 : b < 2147483647) : 0 ≤ a * b ∧ a * b ≤ 4611686018427387904 := by
  have h := mul_bd (a := a) (b := b) (A := 2147483648) (B := 2147483648) (by omega) (by omega) (by omega) (by omega)
  exact ⟨Int.mul_nonneg ha hb, by omega⟩
theorem emul (a b n : Int) : a % n * b % n = a * b % n := by rw [Int.mul_emod (a % n) b n, Int.emod_emod, ← Int.mul_emod]
theorem tms_tms (x a b : Int) : tms (tms x a) b = x * (a * b) % 2147483647 := by unfold tms; rw [emul, Int.mul_assoc]
theorem inv_one (x : Int) (h0 : 0 ≤ x) (h1 : x < 2147483647) : x * 91706141661489 % 2147483647 = x := by
  rw [show x * 91706141661489 = x + 2147483647 * (x * 42704) by omega, Int.add_mul_emod_self_left]
  exact Int.emod_eq_of_lt h0 h1
theorem tms_inv (x : Int) (h0 : 0 ≤ x) (h1 : x < 2147483647) : tms (tms x 48271) 1899818559 = x := by
  rw [tms_tms]; exact inv_one x h0 h1
theorem tms_inv2 (x : Int) (h0 : 0 ≤ x) (h1 : x < 2147483647) : tms (tms x 1899818559) 48271 = x := by
  rw [tms_tms]; exact inv_one x h0 h1
theorem tms_pos (x : Int) (h0 : 1 ≤ x) (h1 : x < 2147483647) : 1 ≤ tms x 48271 := by
  have hb := tms_bd x 48271
  rcases Int.lt_or_le 0 (tms x 48271) with h | h
  · omega
  · have e : tms x 48271 = 0 := by omega
    have := tms_inv x (by omega) h1
    rw [e] at this
    have h2 : tms 0 1899818559 = 0 := rfl
    omega
theorem tms_pos2 (x : Int) (h0 : 1 ≤ x) (h1 : x < 2147483647) : 1 ≤ tms x 1899818559 := by
  have hb := tms_bd x 1899818559
  rcases Int.lt_or_le 0 (tms x 1899818559) with h | h
  · omega
  · have e : tms x 1899818559 = 0 := by omega
    have := tms_inv2 x (by omega) h1
    rw [e] at this
    have h2 : tms 0 48271 = 0 := rfl
    omega

/-- A source at block g: its state and whether New returned it. -/
def Src (w : World) (g : Nat) (x : Int) (m : Bool) : Prop := w.heap[g]? = some (.cells #[.int .i64 x, .bool m] 55 (0, 0))
theorem Src.cells {w : World} {g : Nat} {x : Int} {m : Bool} (h : Src w g x m) : w.cell? ⟨g, 0, none⟩ = some (.int .i64 x) ∧ w.cell? ⟨g, 1, none⟩ = some (.bool m) ∧ w.frozen? ⟨g, 0, none⟩ = false ∧ w.frozen? ⟨g, 1, none⟩ = false := by
  unfold Src at h
  refine ⟨?_, ?_, ?_, ?_⟩ <;> simp [World.cell?, World.frozen?, h]
theorem Src.set {w : World} {g : Nat} {x : Int} {m : Bool} (h : Src w g x m) (y : Int) : Src (w.setCell ⟨g, 0, none⟩ (.int .i64 y)) g y m := by
  unfold Src at h ⊢
  simp [World.setCell, Array.getElem?_modify, h]
theorem Src.lt {w : World} {g : Nat} {x : Int} {m : Bool} (h : Src w g x m) : g < w.heap.size := heap_lt h
theorem Src.below {w w1 : World} {g : Nat} {x : Int} {m : Bool} (h : Src w g x m) {B : Nat} (hb : Below B w w1) (hg : g < B) : Src w1 g x m := (hb.block g hg).trans h
theorem Src.alloc {w : World} {g : Nat} {x : Int} {m : Bool} (h : Src w g x m) (o : Obj) : Src (w.alloc o) g x m := (Below.heap_alloc w o g h.lt).trans h
theorem Src.far {w : World} {g : Nat} {x : Int} {m : Bool} (h : Src w g x m) {p : Addr} (hp : g ≠ p.block) (u : Value) : Src (w.setCell p u) g x m := (Below.heap_setCell w p u g hp).trans h

theorem times35 (a b : Int) (w : World) (ha : 0 ≤ a) (ha2 : a < 2147483647) (hb : 0 ≤ b) (hb2 : b < 2147483647) : Calls Try.prog 35 #[.int .i64 a, .int .i64 b] w fun e w' => e = .returned (.int .i64 (tms a b)) ∧ w = w' := by
  obtain ⟨h1, h2⟩ := mul_lt ha ha2 hb hb2
  unfold tms
  go_enter Try.func35, Try.ntmps35
  go_wp2
  go_ret
  exact ⟨rfl, rfl⟩

theorem move34 (g : Nat) (x b : Int) (w : World) (hc : w.cell? ⟨g, 0, none⟩ = some (.int .i64 x)) (hf : w.frozen? ⟨g, 0, none⟩ = false) (ha : 0 ≤ x) (ha2 : x < 2147483647) (hb : 0 ≤ b) (hb2 : b < 2147483647) :
    Calls Try.prog 34 #[.pointer (some ⟨g, 0, none⟩), .int .i64 b] w fun e w' => e = .returned (.int .i64 (tms x b)) ∧ w.setCell ⟨g, 0, none⟩ (.int .i64 (tms x b)) = w' := by
  go_enter Try.func34, Try.ntmps34
  go_wp2_with (go_at_call 35; refine (times35 x b _ ha ha2 hb hb2).mono ?_; rintro e w1 ⟨rfl, rfl⟩)
  go_ret
  exact ⟨rfl, rfl⟩

theorem check32t (g : Nat) (x : Int) (r : Bool) (w : World) (h : Src w g x true) : Calls Try.prog 32 #[.pointer (some ⟨g, 0, none⟩), .bool r] w fun e w' => e = .returned (.int .i64 (if r then 0 else 1)) ∧ w = w' := by
  obtain ⟨h1, h2, h3, h4⟩ := h.cells
  clear h
  cases r
  all_goals
    go_enter Try.func32, Try.ntmps32
    go_wp2
    go_ret
    exact ⟨rfl, rfl⟩
theorem check32f (g : Nat) (x : Int) (r : Bool) (w : World) (h : Src w g x false) : Calls Try.prog 32 #[.pointer (some ⟨g, 0, none⟩), .bool r] w fun e w' => e = .returned (.int .i64 11) ∧ w = w' := by
  obtain ⟨h1, h2, h3, h4⟩ := h.cells
  clear h
  go_enter Try.func32, Try.ntmps32
  go_wp2
  go_ret
  exact ⟨rfl, rfl⟩
theorem check32n (r : Bool) (w : World) : Calls Try.prog 32 #[.pointer none, .bool r] w fun e w' => e = .returned (.int .i64 11) ∧ w = w' := by
  go_enter Try.func32, Try.ntmps32
  go_wp2
  go_ret
  exact ⟨rfl, rfl⟩

theorem draw33 (g : Nat) (w : World) : Calls Try.prog 33 #[.pointer (some ⟨g, 0, none⟩)] w fun e w' => e = .returned (.func (.func 36) #[] #[.pointer (some ⟨w.heap.size, 0, none⟩)]) ∧ w.alloc (.cells #[.pointer (some ⟨g, 0, none⟩)] 23) = w' := by
  go_enter Try.func33, Try.ntmps33
  go_wp2
  go_ret
  exact ⟨rfl, rfl⟩

def drw (x n : Int) : Int := (tms x 48271 - 1) % n
theorem drw_bd (x n : Int) (hn : 1 ≤ n) : 0 ≤ drw x n ∧ drw x n < n := ⟨Int.emod_nonneg _ (by omega), Int.emod_lt_of_pos _ (by omega)⟩
theorem draw36 (g b : Nat) (x n : Int) (w : World) (hb : w.cell? ⟨b, 0, none⟩ = some (.pointer (some ⟨g, 0, none⟩))) (hc : w.cell? ⟨g, 0, none⟩ = some (.int .i64 x)) (hf : w.frozen? ⟨g, 0, none⟩ = false) (h0 : 1 ≤ x) (h1 : x < 2147483647) (hn : 1 ≤ n) (hn2 : n ≤ 2147483647) :
    Calls Try.prog 36 #[.int .i64 n, .pointer (some ⟨b, 0, none⟩)] w fun e w' => e = .returned (.int .i64 (drw x n)) ∧ w.setCell ⟨g, 0, none⟩ (.int .i64 (tms x 48271)) = w' := by
  have hp := tms_pos x h0 h1
  have hb2 := (tms_bd x 48271).2
  unfold drw
  have hnb : (n == 0) = false := by rw [beq_eq_false_iff_ne]; omega
  go_enter Try.func36, Try.ntmps36
  go_wp2_with (go_at_call 34; refine (move34 g x 48271 _ hc hf (by omega) h1 (by omega) (by omega)).mono ?_; rintro e w1 ⟨rfl, rfl⟩)
  go_ret
  exact ⟨rfl, rfl⟩

theorem new15y (s : Int) (w : World) (h0 : 1 ≤ s) (h1 : s < 2147483647) : Calls Try.prog 15 #[.int .i64 s] w fun e w' => e = .returned (.tuple #[.pointer (some ⟨w.heap.size, 0, none⟩), .int .i64 0]) ∧ w.alloc (.cells #[.int .i64 s, .bool true] 55) = w' := by
  go_enter Try.func15, Try.ntmps15
  go_wp2
  go_ret2
  exact ⟨rfl, rfl⟩
theorem new15n (s : Int) (w : World) (h : ¬ (1 ≤ s ∧ s < 2147483647)) : Calls Try.prog 15 #[.int .i64 s] w fun e w' => e = .returned (.tuple #[.pointer none, .int .i64 1]) ∧ w = w' := by
  by_cases h0 : s < 1
  all_goals
    go_enter Try.func15, Try.ntmps15
    go_wp2
    go_ret2
    exact ⟨rfl, rfl⟩
theorem source10y (s : Int) (w : World) (h0 : 1 ≤ s) (h1 : s < 2147483647) : Calls Try.prog 10 #[.int .i64 s] w fun e w' => e = .returned (.pointer (some ⟨w.heap.size, 0, none⟩)) ∧ w.alloc (.cells #[.int .i64 s, .bool true] 55) = w' := by
  go_enter Try.func10, Try.ntmps10
  go_wp2_with (go_at_call 15; refine (new15y s _ h0 h1).mono ?_; rintro e w1 ⟨rfl, rfl⟩)
  go_ret
  exact ⟨rfl, rfl⟩
theorem source10n (s : Int) (w : World) (h : ¬ (1 ≤ s ∧ s < 2147483647)) : Calls Try.prog 10 #[.int .i64 s] w fun e w' => e = .returned (.pointer (some ⟨w.heap.size, 0, none⟩)) ∧ w.alloc (.cells #[.int .i64 0, .bool false] 55) = w' := by
  have H := Lib.hid (fun w => new15n s w h)
  clear h
  go_enter Try.func10, Try.ntmps10
  go_wp2_with (go_at_call 15; refine (H.out _).mono ?_; rintro e w1 ⟨rfl, rfl⟩)
  go_ret
  exact ⟨rfl, rfl⟩
end Go.Proofs.Ytfpogcdffccldaa
