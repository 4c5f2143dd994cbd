/- Words for slices of slices of numbers that are read. -/
import Derived.Test.YtkikokldijccnaaDoorK2
import Derived.Deep.Matrix
namespace Go.Proofs.YtkikokldijccnaaDoor
open Go.RowKit

/-- The r-th row of a list of rows; empty beyond it. -/
def row (xss : List (List Int)) (r : Nat) : List Int := xss.getD r []
/-- A slice at A, below block B, whose elements are slices that read as the rows xss. -/
def RIs (k : IntKind) (w : World) (B : Nat) (A : Option Addr) (xss : List (List Int)) : Prop :=
  0 < xss.length → ∃ b off, A = some ⟨b, off, none⟩ ∧ b < B ∧ ∀ r, r < xss.length → ∃ Ar Cr, w.cell? ⟨b, off + r, none⟩ = some (.slice Ar (row xss r).length Cr) ∧ Is k w B Ar (row xss r)
theorem RIs.below {k : IntKind} {w w1 : World} {B : Nat} {A : Option Addr} {xss : List (List Int)} (h : RIs k w B A xss) (hb : Below B w w1) : RIs k w1 B A xss := fun hn => by
  obtain ⟨b, off, e, hlt, hc⟩ := h hn
  refine ⟨b, off, e, hlt, fun r hr => ?_⟩
  obtain ⟨Ar, Cr, h1, h2⟩ := hc r hr
  exact ⟨Ar, Cr, (hb.cell (p := ⟨b, off + r, none⟩) hlt).trans h1, h2.below hb⟩
theorem RIs.mono {k : IntKind} {w : World} {B B' : Nat} {A : Option Addr} {xss : List (List Int)} (h : RIs k w B A xss) (hB : B ≤ B') : RIs k w B' A xss := fun hn => by
  obtain ⟨b, off, e, hlt, hc⟩ := h hn
  refine ⟨b, off, e, by omega, fun r hr => ?_⟩
  obtain ⟨Ar, Cr, h1, h2⟩ := hc r hr
  exact ⟨Ar, Cr, h1, h2.mono hB⟩
theorem RIs.at_ {k : IntKind} {w : World} {B : Nat} {A : Option Addr} {xss : List (List Int)} (h : RIs k w B A xss) {r : Nat} (hr : r < xss.length) :
    ∃ b off Ar Cr, A = some ⟨b, off, none⟩ ∧ b < B ∧ w.cell? ⟨b, off + r, none⟩ = some (.slice Ar (row xss r).length Cr) ∧ Is k w B Ar (row xss r) := by
  obtain ⟨b, off, e, hlt, hc⟩ := h (by omega)
  obtain ⟨Ar, Cr, h1, h2⟩ := hc r hr
  exact ⟨b, off, Ar, Cr, e, hlt, h1, h2⟩
theorem addr_add (b off j : Nat) : (⟨b, off, none⟩ : Addr).add j = ⟨b, off + j, none⟩ := by
  unfold Addr.add
  by_cases h0 : j = 0
  · subst h0; rfl
  · simp [h0]
theorem RIs.of {k : IntKind} {w : World} {base : Nat} {a : Addr} {len cap : Nat} {A : Nat → Option Addr} {L C : Nat → Nat} {Z : Nat → List Int} (hl : len ≤ cap)
    (h : ∀ r, r < cap → w.cell? (a.add r) = some (.slice (A r) (L r) (C r)) ∧ L r ≤ C r ∧ C r ≤ maxLen ∧ (Z r).length = C r ∧ (∀ n ∈ Z r, (Lit.int k n).wf = true) ∧ (A r = none → C r = 0) ∧
        ∀ a', A r = some a' → base ≤ a'.block ∧ ∀ c, c < C r → w.cell? (a'.add c) = some (.int k ((Z r).getD c 0))) :
    ∃ xss : List (List Int), RIs k w w.heap.size (some a) xss ∧ xss.length = len ∧ ∀ xs ∈ xss, xs.length ≤ maxLen ∧ ∀ n ∈ xs, (Lit.int k n).wf = true := by
  have hrow : ∀ r, r < cap → IsRow k w (A r) (L r) (C r) (Z r) := fun r hr => by
    obtain ⟨h1, h2, h3, h4, h5, h6, h7⟩ := h r hr
    cases hA : A r with
    | none =>
      have c0 := h6 hA
      exact .inl ⟨rfl, by omega, c0, List.eq_nil_of_length_eq_zero (by omega)⟩
    | some a' => exact .inr ⟨a', rfl, h2, h3, h4, fun i hi => (h7 a' hA).2 i (by omega), h5⟩
  refine ⟨(List.range len).map fun r => (Z r).take (L r), fun hn => ?_, by simp, fun xs hxs => ?_⟩
  · have hn' : 0 < len := by simpa using hn
    have h0 := (h 0 (by omega)).1
    obtain ⟨b, off, spot⟩ := a
    have hspot : spot = none := by simpa [Addr.add] using World.cell?_spot h0
    subst hspot
    have hb : b < w.heap.size := by
      rcases Nat.lt_or_ge b w.heap.size with g | g
      · exact g
      · have hc' := h0
        simp [World.cell?, Addr.add, Array.getElem?_eq_none g] at hc'
    refine ⟨b, off, rfl, hb, fun r hr => ?_⟩
    have hr' : r < len := by simpa using hr
    have e : row ((List.range len).map fun r => (Z r).take (L r)) r = (Z r).take (L r) := by
      unfold row; rw [List.getD_eq_getElem?_getD]; simp [hr']
    obtain ⟨h1, h2⟩ := h r (by omega)
    rw [addr_add] at h1
    obtain ⟨k1, k2, -⟩ := Is.of_row (hrow r (by omega))
    rw [e, k2]
    exact ⟨A r, C r, h1, k1⟩
  · obtain ⟨r, hr, rfl⟩ := List.mem_map.1 hxs
    have hr' : r < len := by simpa using hr
    obtain ⟨-, k2, k3, k4⟩ := Is.of_row (hrow r (by omega))
    exact ⟨by omega, k4⟩
end Go.Proofs.YtkikokldijccnaaDoor
