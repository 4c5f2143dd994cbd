/- Opening a parameter that is a struct of five fields of one cell each. -/
import Derived.Test.YtbonniladhablaaKS
import Derived.Lib.SmallJoins
namespace Go.Proofs.Ytbonniladhablaa
open Go.RowKit Go.WideShapes
section
variable {H : Type} {enc : TypeId × Value → H} {P : Program} {w : World} {base : Nat} {spare : Nat → Bool} {held : Bool}
theorem open_five {b0 : Nat} {r : Reach} {t : TypeId} {f0 f1 f2 f3 f4 : Field} {v : Value} {d : DataW H} {p : List MemPlace} (hs : P.underlying t = some (.struct #[f0, f1, f2, f3, f4]))
    (hk : (f0.offset, P.cellsOf f0.type, f1.offset, P.cellsOf f1.type, f2.offset, P.cellsOf f2.type, f3.offset, P.cellsOf f3.type, f4.offset, P.cellsOf f4.type, P.cellsOf t) = (0, 1, 1, 1, 2, 1, 3, 1, 4, 1, 5))
    (hv : Value.okWide P w r b0 t v) (h : DataW.Trod enc P w base spare held t v d p) :
    ∃ (v0 v1 v2 v3 v4 : Value) (y0 y1 y2 y3 y4 : DataW H × List MemPlace) (n : Nat), v = .agg #[v0, v1, v2, v3, v4] ∧ DataW.trod enc P w base spare held n f0.type [v0] = some y0 ∧ DataW.trod enc P w base spare held n f1.type [v1] = some y1 ∧ DataW.trod enc P w base spare held n f2.type [v2] = some y2 ∧ DataW.trod enc P w base spare held n f3.type [v3] = some y3 ∧ DataW.trod enc P w base spare held n f4.type [v4] = some y4 := by
  obtain ⟨cs, rfl⟩ := okWide_agg (by rw [hs]) hv
  obtain ⟨m, hm⟩ := h
  simp only [Prod.mk.injEq] at hk
  obtain ⟨o0, k0, o1, k1, o2, k2, o3, k3, o4, k4, kt⟩ := hk
  obtain ⟨xs, n, -, -, hlen, hxs, hf⟩ := DataW.trod_struct hs (by simpa [Value.cells] using hm)
  have hx5 : xs.length = 5 := by simpa using hxs
  have hc5 : cs.toList.length = 5 := by rw [kt] at hlen; simpa using hlen
  obtain ⟨x0, x1, x2, x3, x4, rfl⟩ : ∃ x0 x1 x2 x3 x4, xs = [x0, x1, x2, x3, x4] := by
    match xs, hx5 with
    | [x0, x1, x2, x3, x4], _ => exact ⟨x0, x1, x2, x3, x4, rfl⟩
  obtain ⟨c0, c1, c2, c3, c4, hc⟩ : ∃ c0 c1 c2 c3 c4, cs.toList = [c0, c1, c2, c3, c4] := by
    generalize cs.toList = l at hc5
    match l, hc5 with
    | [x0, x1, x2, x3, x4], _ => exact ⟨x0, x1, x2, x3, x4, rfl⟩
  have e : cs = #[c0, c1, c2, c3, c4] := by
    have := congrArg List.toArray hc
    simpa using this
  subst e
  have g0 := hf 0 f0 rfl
  have g1 := hf 1 f1 rfl
  have g2 := hf 2 f2 rfl
  have g3 := hf 3 f3 rfl
  have g4 := hf 4 f4 rfl
  rw [o0, k0] at g0; rw [o1, k1] at g1; rw [o2, k2] at g2; rw [o3, k3] at g3; rw [o4, k4] at g4
  exact ⟨c0, c1, c2, c3, c4, x0, x1, x2, x3, x4, n, rfl, by simpa using g0, by simpa using g1, by simpa using g2, by simpa using g3, by simpa using g4⟩
end

theorem flat_ex {w : World} {c : Value} {k : IntKind} {m : Nat} (h : [c] = [.slice none 0 0] ∨ ∃ (a : Addr) (len cap : Nat) (xs : List Int), [c] = [.slice (some a) len cap] ∧ len ≤ cap ∧ cap ≤ maxLen ∧ xs.length = len * m ∧ Is k w w.heap.size (some a) xs ∧ ∀ q ∈ xs, (Lit.int k q).wf = true) :
    ∃ (A : Option Addr) (len cap : Nat) (xs : List Int), c = .slice A len cap ∧ xs.length = len * m ∧ Is k w w.heap.size A xs ∧ (A = none → cap = 0) ∧ ∀ q ∈ xs, (Lit.int k q).wf = true := by
  rcases h with h | ⟨a, len, cap, xs, h, -, -, hl, hi, hw⟩
  · simp only [List.cons.injEq, and_true] at h
    exact ⟨none, 0, 0, [], h, by simp, fun h => absurd h (by simp), fun _ => rfl, by simp⟩
  · simp only [List.cons.injEq, and_true] at h
    exact ⟨some a, len, cap, xs, h, hl, hi, by simp, hw⟩
end Go.Proofs.Ytbonniladhablaa
