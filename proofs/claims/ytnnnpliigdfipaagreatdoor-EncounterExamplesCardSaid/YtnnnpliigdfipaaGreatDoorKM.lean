/- Opening a parameter whose cells are integers and slices (structs and arrays, nested). -/
import Derived.Test.YtnnnpliigdfipaaGreatDoorRows
import Derived.WalkKit
import Derived.ProofKit
import Derived.OpenShut
import Derived.ShutString
import Derived.ChangeOld
import Derived.ChangeArms
import Derived.Lib.SmallJoins
import Derived.Deep.Slices
import Derived.Test.YtnnnpliigdfipaaGreatDoorKO
import Derived.Test.YtnnnpliigdfipaaGreatDoorKS
namespace Go.Proofs.YtnnnpliigdfipaaGreatDoor
open Go.RowKit Go.WideShapes

/-- A cell: an integer of a kind, or a slice of a type. -/
inductive Leaf where
  | num (k : IntKind)
  | sl (t : TypeId)
/-- The cells cs are as the leaves say. -/
def Mixed (R : Leaf → Value → Prop) : List Leaf → List Value → Prop
  | [], cs => cs = []
  | k :: ks, cs => ∃ v cs', cs = v :: cs' ∧ R k v ∧ Mixed R ks cs'
theorem Mixed.append {R : Leaf → Value → Prop} : ∀ {ks ls : List Leaf} {a b : List Value}, Mixed R ks a → Mixed R ls b → Mixed R (ks ++ ls) (a ++ b)
  | [], _, _, _, h, h' => by
    have e : _ = [] := h
    subst e; exact h'
  | k :: ks, _, _, _, ⟨n, cs', e, hw, h⟩, h' => by
    subst e; exact ⟨n, _, rfl, hw, h.append h'⟩
theorem Mixed.length {R : Leaf → Value → Prop} : ∀ {ks : List Leaf} {a : List Value}, Mixed R ks a → a.length = ks.length
  | [], _, h => by
    have e : _ = [] := h
    subst e; rfl
  | k :: ks, _, ⟨n, cs', e, hw, h⟩ => by subst e; simp [h.length]
/-- The leaves of a type that has integers and slices alone. -/
def mixed (P : Program) : Nat → TypeId → Option (List Leaf)
  | 0, _ => none
  | n + 1, t => match P.underlying t with
    | some (.int k) => if P.cellsOf t = 1 then some [.num k] else none
    | some (.slice _) => if P.cellsOf t = 1 then some [.sl t] else none
    | some (.struct fs) =>
      (fs.toList.foldlM (fun acc f => if f.offset = acc.length then (mixed P n f.type).bind fun l => if l.length = P.cellsOf f.type then some (acc ++ l) else none else none) []).bind fun ks =>
        if ks.length = P.cellsOf t then some ks else none
    | some (.array m e) => (mixed P n e).bind fun l => if l.length = P.cellsOf e ∧ m * l.length = P.cellsOf t then some (List.replicate m l).flatten else none
    | _ => none
section
variable {H : Type} (enc : TypeId × Value → H) (P : Program) (w : World) (base : Nat) (spare : Nat → Bool) (held : Bool)
def OkLeaf : Leaf → Value → Prop
  | .num k, v => ∃ n, v = .int k n ∧ (Lit.int k n).wf = true
  | .sl t, v => ∃ m x, DataW.trod enc P w base spare held m t [v] = some x
end
section
variable {H : Type} {enc : TypeId × Value → H} {P : Program} {w : World} {base : Nat} {spare : Nat → Bool} {held : Bool}
theorem fold_mixed {n : Nat} (cs : List Value) (ih : ∀ (t : TypeId) (ks : List Leaf), mixed P n t = some ks → ∀ (m : Nat) (cs : List Value) (x : DataW H × List MemPlace), DataW.trod enc P w base spare held m t cs = some x → Mixed (OkLeaf enc P w base spare held) ks cs) :
    ∀ (fs : List Field) (acc ks : List Leaf), fs.foldlM (fun acc f => if f.offset = acc.length then (mixed P n f.type).bind fun l => if l.length = P.cellsOf f.type then some (acc ++ l) else none else none) acc = some ks →
      Mixed (OkLeaf enc P w base spare held) acc (cs.take acc.length) → (∀ f ∈ fs, ∃ m x, DataW.trod enc P w base spare held m f.type ((cs.drop f.offset).take (P.cellsOf f.type)) = some x) → Mixed (OkLeaf enc P w base spare held) ks (cs.take ks.length) := by
  intro fs
  induction fs with
  | nil =>
    intro acc ks h hacc _
    simp at h; subst h; exact hacc
  | cons f fs ihf =>
    intro acc ks h hacc hf
    rw [List.foldlM_cons] at h
    by_cases ho : f.offset = acc.length
    · rw [if_pos ho] at h
      cases hl : mixed P n f.type with
      | none => simp [hl] at h
      | some l =>
        rw [hl] at h
        simp only [Option.bind_some] at h
        by_cases hc : l.length = P.cellsOf f.type
        · rw [if_pos hc] at h
          obtain ⟨m, x, hx⟩ := hf f (List.mem_cons_self ..)
          have hi := ih f.type l hl m _ x hx
          rw [← hc, ho] at hi
          refine ihf (acc ++ l) ks h ?_ fun g hg => hf g (List.mem_cons_of_mem _ hg)
          rw [List.length_append, List.take_add]
          exact hacc.append hi
        · rw [if_neg hc] at h; simp at h
    · rw [if_neg ho] at h; simp at h

theorem array_mixed {l : List Leaf} (cs : List Value) : ∀ (m : Nat), (∀ i, i < m → Mixed (OkLeaf enc P w base spare held) l ((cs.drop (i * l.length)).take l.length)) → Mixed (OkLeaf enc P w base spare held) (List.replicate m l).flatten (cs.take (m * l.length)) := by
  intro m
  induction m with
  | zero => intro _; simp [Mixed]
  | succ m ih =>
    intro h
    have h1 := ih fun i hi => h i (by omega)
    have h2 := h m (by omega)
    have e : (List.replicate (m + 1) l).flatten = (List.replicate m l).flatten ++ l := by
      rw [List.replicate_succ', List.flatten_append]; simp
    rw [e, Nat.succ_mul, List.take_add]
    exact h1.append h2

theorem trod_mixed : ∀ (n : Nat) (t : TypeId) (ks : List Leaf), mixed P n t = some ks → ∀ (m : Nat) (cs : List Value) (x : DataW H × List MemPlace), DataW.trod enc P w base spare held m t cs = some x → Mixed (OkLeaf enc P w base spare held) ks cs := by
  intro n
  induction n with
  | zero => intro t ks h; simp [mixed] at h
  | succ n ih =>
    intro t ks h m cs x hx
    unfold mixed at h
    cases ht : P.underlying t with
    | none => simp [ht] at h
    | some d =>
      cases d <;> simp only [ht] at h <;> try (simp at h; done)
      case int k =>
        by_cases hc : P.cellsOf t = 1
        · rw [if_pos hc] at h
          injection h with h; subst h
          cases m with
          | zero => simp [DataW.trod] at hx
          | succ m =>
            unfold DataW.trod at hx
            rw [ht] at hx
            split at hx <;> simp_all
            rename_i k' n' _ _
            obtain ⟨⟨rfl, hw⟩, _⟩ := hx
            exact ⟨_, _, rfl, ⟨_, rfl, hw⟩, rfl⟩
        · rw [if_neg hc] at h; simp at h
      case slice e =>
        by_cases hc : P.cellsOf t = 1
        · rw [if_pos hc] at h
          injection h with h; subst h
          rcases Go.Deep.open_slice ht hx with h0 | ⟨a, len, cap, m', n', D, Pl, hcs, -⟩
          · exact ⟨_, [], h0.1, ⟨m, x, by rw [← h0.1]; exact hx⟩, rfl⟩
          · exact ⟨_, [], hcs, ⟨m, x, by rw [← hcs]; exact hx⟩, rfl⟩
        · rw [if_neg hc] at h; simp at h
      case struct fs =>
        obtain ⟨xs, m', rfl, _, hlen, hxs, hf⟩ := DataW.trod_struct ht hx
        cases hk : fs.toList.foldlM (fun acc f => if f.offset = acc.length then (mixed P n f.type).bind fun l => if l.length = P.cellsOf f.type then some (acc ++ l) else none else none) [] with
        | none => simp [hk] at h
        | some ks' =>
          rw [hk] at h
          simp only [Option.bind_some] at h
          by_cases hc : ks'.length = P.cellsOf t
          · rw [if_pos hc] at h
            injection h with h; subst h
            have := fold_mixed cs ih fs.toList [] ks' hk rfl fun f hfm => by
              obtain ⟨i, hi, rfl⟩ := List.mem_iff_getElem.1 hfm
              have hi' : i < fs.size := by simpa using hi
              have h1 := hf i (fs.toList[i]) (by simp)
              exact ⟨m', xs[i]'(by omega), by rw [h1]; exact List.getElem?_eq_getElem _⟩
            rwa [List.take_of_length_le (by omega)] at this
          · rw [if_neg hc] at h; simp at h
      case array q e =>
        obtain ⟨xs, m', rfl, _, hlen, hxs, hf⟩ := DataW.trod_array ht hx
        cases hl : mixed P n e with
        | none => simp [hl] at h
        | some l =>
          rw [hl] at h
          simp only [Option.bind_some] at h
          by_cases hc : l.length = P.cellsOf e ∧ q * l.length = P.cellsOf t
          · rw [if_pos hc] at h
            injection h with h; subst h
            have := array_mixed (l := l) cs q fun i hi => by
              have h1 := hf i hi
              rw [← hc.1] at h1
              exact ih e l hl m' _ (xs[i]'(by omega)) (by rw [h1]; exact List.getElem?_eq_getElem _)
            rwa [List.take_of_length_le (by omega)] at this
          · rw [if_neg hc] at h; simp at h

/-- A parameter whose cells are integers and slices: an aggregate. -/
theorem open_mixed {b0 : Nat} {r : Reach} {t : TypeId} {v : Value} {d : DataW H} {p : List MemPlace} (n : Nat) (ks : List Leaf) (hk : mixed P n t = some ks)
    (hs : (match P.underlying t with | some (.struct _) | some (.array _ _) => true | _ => false) = true) (hv : Value.okWide P w r b0 t v) (h : DataW.Trod enc P w base spare held t v d p) : ∃ cs, v = .agg cs.toArray ∧ Mixed (OkLeaf enc P w base spare held) ks cs := by
  obtain ⟨cs, rfl⟩ := okWide_agg hs hv
  obtain ⟨m, hm⟩ := h
  exact ⟨cs.toList, by simp, trod_mixed n t ks hk m _ _ (by simpa [Value.cells] using hm)⟩
/-- A slice whose elements are mixed. -/
theorem open_rows {t e : TypeId} {fuel n : Nat} {cs : List Value} {x : DataW H × List MemPlace} (ks : List Leaf) (hk : mixed P n e = some ks) (hc : P.cellsOf e = ks.length) (h0 : 0 < ks.length) (ht : P.underlying t = some (.slice e)) (h : DataW.trod enc P w base spare held fuel t cs = some x) :
    ∃ A len cap, cs = [.slice A len cap] ∧ len ≤ cap ∧ cap ≤ maxLen ∧ (0 < len → ∃ b off, A = some ⟨b, off, none⟩ ∧ b < w.heap.size ∧ ∀ j, j < len → ∃ cs', Mixed (OkLeaf enc P w base spare held) ks cs' ∧ ∀ i v, cs'[i]? = some v → w.cell? ⟨b, off + j * ks.length + i, none⟩ = some v) := by
  rcases Go.Deep.open_slice ht h with hn | ⟨a, len, cap, m', n', D, Pl, hcs, hb, hl, hm', hmm, -, hx⟩
  · exact ⟨none, 0, 0, hn.1, Nat.le_refl _, by unfold maxLen; omega, fun hl => absurd hl (by omega)⟩
  refine ⟨some a, len, cap, hcs, hl, hm', fun hlen => ?_⟩
  have hlm : len ≤ m' := by rw [hmm]; split <;> omega
  have each : ∀ j, j < len → ∃ cs', Mixed (OkLeaf enc P w base spare held) ks cs' ∧ ∀ i v, cs'[i]? = some v → w.cell? (a.add (j * ks.length + i)) = some v := by
    intro j hj
    obtain ⟨cs', h1, h2⟩ := hx j (by omega)
    rw [hc] at h1
    obtain ⟨_, hlen', hcell⟩ := World.cells?_some h1
    refine ⟨cs', trod_mixed n e ks hk _ _ _ h2, fun i v hv => ?_⟩
    have hi : i < ks.length := by rw [← hlen']; exact (List.getElem?_eq_some_iff.1 hv).1
    have := hcell i hi
    rw [Go.Deep.add_add] at this
    exact this.trans hv
  obtain ⟨b, off, spot⟩ := a
  obtain ⟨cs0, hm0, hc0⟩ := each 0 hlen
  have hl0 := hm0.length
  have hv0 : cs0[0]? = some (cs0[0]'(by omega)) := List.getElem?_eq_getElem _
  have h00 := hc0 0 _ hv0
  have hspot : spot = none := by simpa [Addr.add] using World.cell?_spot h00
  subst hspot
  have hb' : b < w.heap.size := by
    rcases Nat.lt_or_ge b w.heap.size with g | g
    · exact g
    · simp [World.cell?, Addr.add, Array.getElem?_eq_none g] at h00
  refine ⟨b, off, rfl, hb', fun j hj => ?_⟩
  obtain ⟨cs', h1, h2⟩ := each j hj
  refine ⟨cs', h1, fun i v hv => ?_⟩
  have := h2 i v hv
  rw [addr_add', ← Nat.add_assoc] at this
  exact this
end
end Go.Proofs.YtnnnpliigdfipaaGreatDoor
