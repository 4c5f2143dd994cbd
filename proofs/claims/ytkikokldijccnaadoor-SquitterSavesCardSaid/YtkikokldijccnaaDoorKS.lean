/- Opening a parameter that is a slice whose elements are flat: integers of one kind, a fixed number each. -/
import Derived.Test.YtkikokldijccnaaDoorK2
import Derived.Test.YtkikokldijccnaaDoorKO
import Derived.Deep.Slices
namespace Go.Proofs.YtkikokldijccnaaDoor
open Go.RowKit Go.WideShapes

theorem Ints.rep : ∀ {m : Nat} {k : IntKind} {cs : List Value}, Ints (List.replicate m k) cs → ∀ j, j < m → ∃ n, cs[j]? = some (.int k n) ∧ (Lit.int k n).wf = true
  | m + 1, k, _, ⟨n, cs', e, hw, h⟩, 0, _ => by subst e; exact ⟨n, rfl, hw⟩
  | m + 1, k, _, ⟨n, cs', e, hw, h⟩, j + 1, hj => by
    subst e
    obtain ⟨q, h1, h2⟩ := Ints.rep (m := m) h j (by omega)
    exact ⟨q, by simpa using h1, h2⟩
theorem addr_add' (b off j : Nat) : (⟨b, off, none⟩ : Addr).add j = ⟨b, off + j, none⟩ := by
  unfold Addr.add
  by_cases h0 : j = 0
  · subst h0; rfl
  · simp [h0]
section
variable {H : Type} {enc : TypeId × Value → H} {P : Program} {w : World} {base : Nat} {spare : Nat → Bool} {held : Bool}
/-- The argument: nil, or an address at which len times m numbers lie. -/
theorem open_flat {t e : TypeId} {fuel n : Nat} {cs : List Value} {x : DataW H × List MemPlace} (k : IntKind) (m : Nat) (hm : 0 < m) (hk : leaves P n e = some (List.replicate m k)) (hc : P.cellsOf e = m) (ht : P.underlying t = some (.slice e)) (h : DataW.trod enc P w base spare held fuel t cs = some x) :
    cs = [.slice none 0 0] ∨ ∃ (a : Addr) (len cap : Nat) (xs : List Int), cs = [.slice (some a) len cap] ∧ len ≤ cap ∧ cap ≤ maxLen ∧ xs.length = len * m ∧ Is k w w.heap.size (some a) xs ∧ ∀ q ∈ xs, (Lit.int k q).wf = true := by
  rcases Go.Deep.open_slice ht h with h0 | ⟨a, len, cap, m', n', D, Pl, hcs, hb, hl, hm', hmm, -, hx⟩
  · exact .inl h0.1
  right
  have hlm : len ≤ m' := by rw [hmm]; split <;> omega
  have each : ∀ j, j < len * m → ∃ q : Int, w.cell? (a.add j) = some (.int k q) ∧ (Lit.int k q).wf = true := by
    intro j hj
    have hi : j / m < len := (Nat.div_lt_iff_lt_mul hm).2 hj
    obtain ⟨cs', h1, h2⟩ := hx (j / m) (by omega)
    rw [hc] at h1
    obtain ⟨_, _, hcell⟩ := World.cells?_some h1
    have hI := trod_leaves n e _ hk _ _ _ h2
    obtain ⟨q, e1, e2⟩ := hI.rep (j % m) (Nat.mod_lt _ hm)
    have := hcell (j % m) (Nat.mod_lt _ hm)
    rw [Go.Deep.add_add, show j / m * m + j % m = j by rw [Nat.mul_comm]; exact Nat.div_add_mod j m] at this
    exact ⟨q, this.trans e1, e2⟩
  obtain ⟨f, hf⟩ := Go.Deep.choose_lt each
  refine ⟨a, len, cap, (List.range (len * m)).map f, hcs, hl, hm', by simp, fun hn => ?_, fun q hq => ?_⟩
  · have hn' : 0 < len * m := by simpa using hn
    have h0 := (hf 0 hn').1
    obtain ⟨b, off, spot⟩ := a
    have hspot : spot = none := by simpa [Addr.add] using World.cell?_spot h0
    subst hspot
    have hb : b < w.heap.size := by
      rcases Nat.lt_or_ge b w.heap.size with g | g
      · exact g
      · have hc' := h0
        simp [World.cell?, Addr.add, Array.getElem?_eq_none g] at hc'
    refine ⟨b, off, rfl, hb, fun j hj => ?_⟩
    have hj' : j < len * m := by simpa using hj
    have := (hf j hj').1
    rw [addr_add'] at this
    rw [this]
    simp [nth, List.getD_eq_getElem?_getD, hj']
  · obtain ⟨j, hj, rfl⟩ := List.mem_map.1 hq
    exact (hf j (by simpa using hj)).2
end
end Go.Proofs.YtkikokldijccnaaDoor
