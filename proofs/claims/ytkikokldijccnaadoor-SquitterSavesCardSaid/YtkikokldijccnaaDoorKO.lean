/- Opening a parameter whose cells are all integers (structs and arrays, nested). -/
import Derived.Test.YtkikokldijccnaaDoorRows
import Derived.WalkKit
import Derived.ProofKit
import Derived.OpenShut
import Derived.ShutString
import Derived.ChangeOld
import Derived.ChangeArms
import Derived.Lib.SmallJoins
namespace Go.Proofs.YtkikokldijccnaaDoor
open Go.RowKit Go.WideShapes

/-- The cells cs are integers of the kinds ks. -/
def Ints : List IntKind → List Value → Prop
  | [], cs => cs = []
  | k :: ks, cs => ∃ n cs', cs = .int k n :: cs' ∧ (Lit.int k n).wf = true ∧ Ints ks cs'

theorem Ints.append : ∀ {ks ls : List IntKind} {a b : List Value}, Ints ks a → Ints ls b → Ints (ks ++ ls) (a ++ b)
  | [], _, _, _, h, h' => by
    have e : _ = [] := h
    subst e; exact h'
  | k :: ks, _, _, _, ⟨n, cs', e, hw, h⟩, h' => by
    subst e; exact ⟨n, _, rfl, hw, h.append h'⟩
theorem Ints.length : ∀ {ks : List IntKind} {a : List Value}, Ints ks a → a.length = ks.length
  | [], _, h => by
    have e : _ = [] := h
    subst e; rfl
  | k :: ks, _, ⟨n, cs', e, hw, h⟩ => by subst e; simp [h.length]

/-- The kinds of the cells of a type that has integers alone. -/
def leaves (P : Program) : Nat → TypeId → Option (List IntKind)
  | 0, _ => none
  | n + 1, t => match P.underlying t with
    | some (.int k) => if P.cellsOf t = 1 then some [k] else none
    | some (.struct fs) =>
      (fs.toList.foldlM (fun acc f => if f.offset = acc.length then (leaves P n f.type).bind fun l => if l.length = P.cellsOf f.type then some (acc ++ l) else none else none) []).bind fun ks =>
        if ks.length = P.cellsOf t then some ks else none
    | some (.array m e) => (leaves P n e).bind fun l => if l.length = P.cellsOf e ∧ m * l.length = P.cellsOf t then some (List.replicate m l).flatten else none
    | _ => none

section
variable {H : Type} {enc : TypeId × Value → H} {P : Program} {w : World} {base : Nat} {spare : Nat → Bool} {held : Bool}

theorem fold_ints {n : Nat} (cs : List Value) (ih : ∀ (t : TypeId) (ks : List IntKind), leaves P n t = some ks → ∀ (m : Nat) (cs : List Value) (x : DataW H × List MemPlace), DataW.trod enc P w base spare held m t cs = some x → Ints ks cs) :
    ∀ (fs : List Field) (acc ks : List IntKind), fs.foldlM (fun acc f => if f.offset = acc.length then (leaves P n f.type).bind fun l => if l.length = P.cellsOf f.type then some (acc ++ l) else none else none) acc = some ks →
      Ints acc (cs.take acc.length) → (∀ f ∈ fs, ∃ m x, DataW.trod enc P w base spare held m f.type ((cs.drop f.offset).take (P.cellsOf f.type)) = some x) → Ints ks (cs.take ks.length) := by
  intro fs
  induction fs with
  | nil =>
    intro acc ks h hacc _
    simp at h; subst h; exact hacc
  | cons f fs ihf =>
    intro acc ks h hacc hf
    rw [List.foldlM_cons] at h
    by_cases ho : f.offset = acc.length
    · rw [if_pos ho] at h
      cases hl : leaves P n f.type with
      | none => simp [hl] at h
      | some l =>
        rw [hl] at h
        simp only [Option.bind_some] at h
        by_cases hc : l.length = P.cellsOf f.type
        · rw [if_pos hc] at h
          obtain ⟨m, x, hx⟩ := hf f (List.mem_cons_self ..)
          have hi := ih f.type l hl m _ x hx
          rw [← hc, ho] at hi
          refine ihf (acc ++ l) ks h ?_ fun g hg => hf g (List.mem_cons_of_mem _ hg)
          rw [List.length_append, List.take_add]
          exact hacc.append hi
        · rw [if_neg hc] at h; simp at h
    · rw [if_neg ho] at h; simp at h

theorem array_ints {l : List IntKind} (cs : List Value) : ∀ (m : Nat), (∀ i, i < m → Ints l ((cs.drop (i * l.length)).take l.length)) → Ints (List.replicate m l).flatten (cs.take (m * l.length)) := by
  intro m
  induction m with
  | zero => intro _; simp [Ints]
  | succ m ih =>
    intro h
    have h1 := ih fun i hi => h i (by omega)
    have h2 := h m (by omega)
    have e : (List.replicate (m + 1) l).flatten = (List.replicate m l).flatten ++ l := by
      rw [List.replicate_succ', List.flatten_append]; simp
    rw [e, Nat.succ_mul, List.take_add]
    exact h1.append h2

theorem trod_leaves : ∀ (n : Nat) (t : TypeId) (ks : List IntKind), leaves P n t = some ks → ∀ (m : Nat) (cs : List Value) (x : DataW H × List MemPlace), DataW.trod enc P w base spare held m t cs = some x → Ints ks cs := by
  intro n
  induction n with
  | zero => intro t ks h; simp [leaves] at h
  | succ n ih =>
    intro t ks h m cs x hx
    unfold leaves at h
    cases ht : P.underlying t with
    | none => simp [ht] at h
    | some d =>
      cases d <;> simp only [ht] at h <;> try (simp at h; done)
      case int k =>
        by_cases hc : P.cellsOf t = 1
        · rw [if_pos hc] at h
          injection h with h; subst h
          cases m with
          | zero => simp [DataW.trod] at hx
          | succ m =>
            unfold DataW.trod at hx
            rw [ht] at hx
            split at hx <;> simp_all
            rename_i k' n' _ _
            obtain ⟨⟨rfl, hw⟩, _⟩ := hx
            exact ⟨_, _, rfl, hw, rfl⟩
        · rw [if_neg hc] at h; simp at h
      case struct fs =>
        obtain ⟨xs, m', rfl, _, hlen, hxs, hf⟩ := DataW.trod_struct ht hx
        cases hk : fs.toList.foldlM (fun acc f => if f.offset = acc.length then (leaves P n f.type).bind fun l => if l.length = P.cellsOf f.type then some (acc ++ l) else none else none) [] with
        | none => simp [hk] at h
        | some ks' =>
          rw [hk] at h
          simp only [Option.bind_some] at h
          by_cases hc : ks'.length = P.cellsOf t
          · rw [if_pos hc] at h
            injection h with h; subst h
            have := fold_ints cs ih fs.toList [] ks' hk rfl fun f hfm => by
              obtain ⟨i, hi, rfl⟩ := List.mem_iff_getElem.1 hfm
              have hi' : i < fs.size := by simpa using hi
              have h1 := hf i (fs.toList[i]) (by simp)
              exact ⟨m', xs[i]'(by omega), by rw [h1]; exact List.getElem?_eq_getElem _⟩
            rwa [List.take_of_length_le (by omega)] at this
          · rw [if_neg hc] at h; simp at h
      case array q e =>
        obtain ⟨xs, m', rfl, _, hlen, hxs, hf⟩ := DataW.trod_array ht hx
        cases hl : leaves P n e with
        | none => simp [hl] at h
        | some l =>
          rw [hl] at h
          simp only [Option.bind_some] at h
          by_cases hc : l.length = P.cellsOf e ∧ q * l.length = P.cellsOf t
          · rw [if_pos hc] at h
            injection h with h; subst h
            have := array_ints (l := l) cs q fun i hi => by
              have h1 := hf i hi
              rw [← hc.1] at h1
              exact ih e l hl m' _ (xs[i]'(by omega)) (by rw [h1]; exact List.getElem?_eq_getElem _)
            rwa [List.take_of_length_le (by omega)] at this
          · rw [if_neg hc] at h; simp at h

theorem okWide_agg {r : Reach} {t : TypeId} {v : Value} (hs : (match P.underlying t with | some (.struct _) | some (.array _ _) => true | _ => false) = true) (h : Value.okWide P w r base t v) : ∃ cs, v = .agg cs := by
  unfold Value.okWide at h
  split at h
  · obtain ⟨cs, h1, _⟩ := h; exact ⟨cs, h1⟩
  · obtain ⟨cs, h1, _⟩ := h; exact ⟨cs, h1⟩
  · split at hs <;> simp_all

/-- A parameter whose cells are integers: an aggregate. -/
theorem open_leaves {b0 : Nat} {r : Reach} {t : TypeId} {v : Value} {d : DataW H} {p : List MemPlace} (n : Nat) (ks : List IntKind) (hk : leaves P n t = some ks)
    (hs : (match P.underlying t with | some (.struct _) | some (.array _ _) => true | _ => false) = true) (hv : Value.okWide P w r b0 t v) (h : DataW.Trod enc P w base spare held t v d p) : ∃ cs, v = .agg cs.toArray ∧ Ints ks cs := by
  obtain ⟨cs, rfl⟩ := okWide_agg hs hv
  obtain ⟨m, hm⟩ := h
  exact ⟨cs.toList, by simp, trod_leaves n t ks hk m _ _ (by simpa [Value.cells] using hm)⟩
end
end Go.Proofs.YtkikokldijccnaaDoor
