/- A block of numbers that is written in a loop. -/
import Derived.Test.YtdflamblbhpngaaGeN
namespace Go.Proofs.Ytdflamblbhpngaa
open Go.RowKit

/-- Block g holds the numbers l, and may be written. -/
def OutB (w : World) (g : Nat) (T : TypeId) (l : List Int) : Prop := ∃ cs, w.heap[g]? = some (.cells cs T (0, 0)) ∧ cs.size = l.length ∧ ∀ j, j < l.length → cs[j]? = some (.int .i64 (nth l j))
theorem OutB.cell {w : World} {g : Nat} {T : TypeId} {l : List Int} (h : OutB w g T l) {j : Nat} (hj : j < l.length) : w.cell? ⟨g, j, none⟩ = some (.int .i64 (nth l j)) := by
  obtain ⟨cs, h1, h2, h3⟩ := h
  simp [World.cell?, h1, h3 j hj]
theorem OutB.frozen {w : World} {g : Nat} {T : TypeId} {l : List Int} (h : OutB w g T l) (j : Nat) : w.frozen? ⟨g, j, none⟩ = false := by
  obtain ⟨cs, h1, h2, h3⟩ := h
  simp [World.frozen?, h1]
theorem OutB.set {w : World} {g : Nat} {T : TypeId} {l : List Int} (h : OutB w g T l) (j : Nat) (v : Int) (hj : j < l.length) : OutB (w.setCell ⟨g, j, none⟩ (.int .i64 v)) g T (l.set j v) := by
  obtain ⟨cs, h1, h2, h3⟩ := h
  refine ⟨cs.setIfInBounds j (.int .i64 v), by simp [World.setCell, Array.getElem?_modify, h1], by simp [h2], fun k hk => ?_⟩
  rw [List.length_set] at hk
  rw [nth_set l j k v hj, Array.getElem?_setIfInBounds]
  by_cases e : j = k
  · subst e; simp [h2, hj]
  · rw [if_neg e, if_neg (fun g => e g.symm), h3 k hk]
theorem OutB.drew {w : World} {g : Nat} {T : TypeId} {l : List Int} (h : OutB w g T l) : OutB w.drew g T l := h
theorem OutB.drewN {w : World} {g : Nat} {T : TypeId} {l : List Int} (h : OutB w g T l) (n : Nat) : OutB (w.drewN n) g T l := h
theorem OutB.lt {w : World} {g : Nat} {T : TypeId} {l : List Int} (h : OutB w g T l) : g < w.heap.size := by
  obtain ⟨cs, h1, _⟩ := h; exact heap_lt h1
theorem OutB.is {w : World} {g : Nat} {T : TypeId} {l : List Int} (h : OutB w g T l) (n : Nat) (hn : n ≤ l.length) : Is .i64 w w.heap.size (some ⟨g, 0, none⟩) (l.take n) := fun h0 =>
  ⟨g, 0, rfl, h.lt, fun j hj => by
    have hj' : j < n := by simp at hj; omega
    have := h.cell (j := j) (by omega)
    rw [Nat.zero_add, this]
    simp [nth, List.getD_eq_getElem?_getD, hj']⟩
theorem OutB.far {w : World} {g : Nat} {T : TypeId} {l : List Int} (h : OutB w g T l) {p : Addr} (hp : g ≠ p.block) (u : Value) : OutB (w.setCell p u) g T l := by
  obtain ⟨cs, h1, h2, h3⟩ := h
  exact ⟨cs, (Below.heap_setCell _ _ _ _ hp).trans h1, h2, h3⟩
theorem run_makeN {P : Program} (t e : TypeId) (i : TypeInfo) (z : Value) (ht : P.underlying t = some (.slice e)) (hi : P.info? e = some i) (hz : i.zero = some z)
    (n : Nat) (hb : i.bytes ≤ 1000) (hn : n ≤ 1000000) (w : World) :
    (Instr.makeSlice t (.int .i64 (n : Int)) (.int .i64 (n : Int))).run P w = .ok (.slice (some ⟨w.heap.size, 0, none⟩) n n) (w.alloc (.cells (madeCells z.cells (n * i.size)) e)) := by
  have h0 : i.bytes * n ≤ 1000 * 1000000 := Nat.mul_le_mul hb hn
  have h1 : (i.bytes : Int) * (n : Int) ≤ 281474976710656 := by
    have h : ((i.bytes * n : Nat) : Int) ≤ 281474976710656 := by omega
    rwa [Int.natCast_mul] at h
  have hr := run_make (P := P) w t e i z ht hi hz .i64 .i64 n n (by omega) (by omega) h1 (by omega)
  simp only [Int.toNat_natCast] at hr
  exact hr
end Go.Proofs.Ytdflamblbhpngaa
