/- Small words for memory: slices of numbers that are read, blocks that the call itself made. -/
import Derived.Test.YtkikokldijccnaaDoorRows
import Derived.WalkKit
import Derived.WalkLawsBesides
import Derived.WalkSpells
import Derived.ProofKit
import Derived.Below
import Derived.Outline
import Derived.Lib.Hide
import Derived.Deep.RegionWith
import Derived.Deep.RegionHeld3
import Derived.Deep.DrawnRows
import Derived.StillTailTactics
import Derived.BigQuiet
import Derived.Deep.QuietTactic
import Derived.Deep.LoopGhost
import Derived.IntWalk
import Derived.OpenShut
import Derived.ShutString
import Derived.ChangeOld
import Derived.Lib.SmallJoins
import Derived.OwnWalk
import Derived.Deep.AppendLies
import Derived.Laws.OwnMore
import Derived.Laws.MakeOwn
import Derived.Deep.Draws
namespace Go.Proofs.YtkikokldijccnaaDoor
open Go.RowKit

theorem wrap_lit (n : Int) (h1 : -1000000000000 ≤ n) (h2 : n ≤ 1000000000000) : IntKind.i64.wrap n = n := IntWalk.i64_in _ (by omega)
theorem below_drewN {B : Nat} {a w : World} (h : Below B a w) (n : Nat) : Below B a (w.drewN n) := ⟨h.os, h.tape, h.output, h.size, h.block⟩
theorem still_drew {P : Program} {id : Nat} {Q : Exit → Act → World → Prop} {a : Act} {w : World} {l : List Oper} (n : Nat) (hm : P.follows .mixedOrders = true) (hB : Region.lexTailB .any l.toArray n = true)
    (h : wpStill P l.toArray w.drew (fun a' => wpList P l.toArray Q (l.drop n) a' w.drew) (l.take n) a) : (Code.region id l.toArray true).wp P Q a w := wp_region_still_tail n hm hB h
theorem flipc {P : Program} {f : FuncId} {args : Array Value} {w : World} {v : Value} (h : Calls P f args w fun e w' => e = .returned v ∧ w = w') : Calls P f args w fun e w'' => e = .returned v ∧ w'' = w := h.mono fun _ _ ⟨a, b⟩ => ⟨a, b.symm⟩
theorem ret_int {k : IntKind} {a b : Int} (h : a = b) : Ending.returned (.int k a) = .returned (.int k b) := by rw [h]
theorem ret_bool {a b : Bool} (h : a = b) : Ending.returned (.bool a) = .returned (.bool b) := by rw [h]
theorem bcell {W w1 : World} (hb : Below W.heap.size W w1) : (∀ b o, b < W.heap.size → w1.cell? ⟨b, o, none⟩ = W.cell? ⟨b, o, none⟩) ∧ (∀ b o, b < W.heap.size → w1.frozen? ⟨b, o, none⟩ = W.frozen? ⟨b, o, none⟩) :=
  ⟨fun b o h => hb.cell (p := ⟨b, o, none⟩) h, fun b o h => hb.frozen (p := ⟨b, o, none⟩) h⟩
theorem mul_bd {a b A B : Int} (h1 : -A ≤ a) (h2 : a ≤ A) (h3 : -B ≤ b) (h4 : b ≤ B) : -(A * B) ≤ a * b ∧ a * b ≤ A * B := by
  have e1 : 0 ≤ (A - a) * (B + b) := Int.mul_nonneg (by omega) (by omega)
  have e2 : 0 ≤ (A + a) * (B - b) := Int.mul_nonneg (by omega) (by omega)
  have e3 : 0 ≤ (A - a) * (B - b) := Int.mul_nonneg (by omega) (by omega)
  have e4 : 0 ≤ (A + a) * (B + b) := Int.mul_nonneg (by omega) (by omega)
  simp only [Int.sub_mul, Int.add_mul, Int.mul_sub, Int.mul_add] at e1 e2 e3 e4
  omega

/-- The frame's word for a slice of integers that came in. -/
def IsRow (k : IntKind) (w : World) (a : Option Addr) (len cap : Nat) (zs : List Int) : Prop :=
  (a = none ∧ len = 0 ∧ cap = 0 ∧ zs = []) ∨
  ∃ x, a = some x ∧ len ≤ cap ∧ cap ≤ maxLen ∧ zs.length = cap ∧ (∀ i, i < zs.length → w.cell? (x.add i) = some (.int k (zs.getD i 0))) ∧ ∀ n ∈ zs, (Lit.int k n).wf = true

/-- The k-th number of a list; 0 beyond it. -/
def nth (xs : List Int) (k : Nat) : Int := xs.getD k 0

/-- A slice at A, below block B, whose cells are the numbers xs of kind k. -/
def Is (k : IntKind) (w : World) (B : Nat) (A : Option Addr) (xs : List Int) : Prop :=
  0 < xs.length → ∃ b off, A = some ⟨b, off, none⟩ ∧ b < B ∧ ∀ j, j < xs.length → w.cell? ⟨b, off + j, none⟩ = some (.int k (nth xs j))

theorem Is.below {k : IntKind} {w w1 : World} {B : Nat} {A : Option Addr} {xs : List Int} (h : Is k w B A xs) (hb : Below B w w1) : Is k w1 B A xs := fun hn => by
  obtain ⟨b, off, e, hlt, hc⟩ := h hn
  exact ⟨b, off, e, hlt, fun j hj => (hb.cell (p := ⟨b, off + j, none⟩) hlt).trans (hc j hj)⟩
theorem Is.mono {k : IntKind} {w : World} {B B' : Nat} {A : Option Addr} {xs : List Int} (h : Is k w B A xs) (hB : B ≤ B') : Is k w B' A xs := fun hn => by
  obtain ⟨b, off, e, hlt, hc⟩ := h hn
  exact ⟨b, off, e, by omega, hc⟩
theorem Is.of_row {k : IntKind} {w : World} {a : Option Addr} {len cap : Nat} {zs : List Int} (h : IsRow k w a len cap zs) :
    Is k w w.heap.size a (zs.take len) ∧ (zs.take len).length = len ∧ len ≤ maxLen ∧ ∀ n ∈ zs.take len, (Lit.int k n).wf = true := by
  rcases h with ⟨rfl, rfl, rfl, rfl⟩ | ⟨x, rfl, hl, hm, hz, hcell, hwz⟩
  · exact ⟨fun h => by simp at h, rfl, by simp, by simp⟩
  · have hlen : (zs.take len).length = len := by simp; omega
    refine ⟨fun hn => ?_, hlen, by omega, fun n hn => hwz n (List.mem_of_mem_take hn)⟩
    obtain ⟨b, off, spot⟩ := x
    have hc := hcell 0 (by omega)
    have hspot : spot = none := by simpa [Addr.add] using World.cell?_spot hc
    subst hspot
    have hb : b < w.heap.size := by
      rcases Nat.lt_or_ge b w.heap.size with h | h
      · exact h
      · have hc' := hc
        simp [World.cell?, Addr.add, Array.getElem?_eq_none h] at hc'
    refine ⟨b, off, rfl, hb, fun j hj => ?_⟩
    have hj' : j < len := by omega
    have e : (⟨b, off, none⟩ : Addr).add j = ⟨b, off + j, none⟩ := by
      unfold Addr.add
      by_cases h0 : j = 0
      · subst h0; rfl
      · simp [h0]
    have := hcell j (by omega)
    rw [e] at this
    rw [this]
    congr 2
    simp [nth, List.getD_eq_getElem?_getD, hj']
theorem Is.none_ {k : IntKind} {w : World} {B : Nat} {A : Option Addr} : Is k w B A [] := fun h => by simp at h

/-- A slice at A over a whole block from B on that the call made: its cells are the numbers xs. -/
def Own (k : IntKind) (w : World) (B : Nat) (A : Option Addr) (T : TypeId) (xs : List Int) : Prop :=
  0 < xs.length → ∃ g cs, A = some ⟨g, 0, none⟩ ∧ B ≤ g ∧ w.heap[g]? = some (.cells cs T (0, 0)) ∧ ∀ j, j < xs.length → cs[j]? = some (.int k (nth xs j))

theorem heap_lt {w : World} {g : Nat} {o : Obj} (h : w.heap[g]? = some o) : g < w.heap.size := by
  rcases Nat.lt_or_ge g w.heap.size with hlt | hge
  · exact hlt
  · rw [Array.getElem?_eq_none hge] at h; cases h
theorem Own.is {k : IntKind} {w : World} {B : Nat} {A : Option Addr} {T : TypeId} {xs : List Int} (h : Own k w B A T xs) : Is k w w.heap.size A xs := fun hn => by
  obtain ⟨g, cs, e, _, hh, hc⟩ := h hn
  exact ⟨g, 0, e, heap_lt hh, fun j hj => by simp [World.cell?, hh, hc j hj]⟩
theorem Own.below {k : IntKind} {w w1 : World} {B : Nat} {A : Option Addr} {T : TypeId} {xs : List Int} (h : Own k w B A T xs) (hb : Below w.heap.size w w1) : Own k w1 B A T xs := fun hn => by
  obtain ⟨g, cs, e, hB, hh, hc⟩ := h hn
  exact ⟨g, cs, e, hB, (hb.block g (heap_lt hh)).trans hh, hc⟩
theorem Own.of_row {k : IntKind} {w : World} {base : Nat} {T : TypeId} {size n : Nat} {v : Value} {xs : List Int} (h : w.ownsRow base T size v n (xs.map (Value.int k))) (hs : xs.length = n * size) :
    ∃ A cap, v = .slice A n cap ∧ Own k w base A T xs := by
  obtain ⟨hl, ⟨rfl, rfl⟩ | ⟨g, cap, cur, rfl, hb, hh, hnc, hm, hcur, htake⟩⟩ := h
  · refine ⟨none, 0, rfl, fun h0 => ?_⟩
    rw [hs] at h0; simp at h0
  · refine ⟨_, _, rfl, fun h0 => ⟨g, cur, rfl, hb, hh, fun j hj => ?_⟩⟩
    have hj' : j < n * size := by omega
    have e : (cur.toList.take (n * size))[j]? = (xs.map (Value.int k))[j]? := by rw [htake]
    rw [List.getElem?_take_of_lt hj', List.getElem?_map] at e
    rw [← Array.getElem?_toList, e, List.getElem?_eq_getElem hj]
    simp [nth, List.getD_eq_getElem?_getD, hj]

theorem take_nth (xs : List Int) (k : Nat) (h : k < xs.length) : xs.take (k + 1) = xs.take k ++ [nth xs k] := by
  rw [List.take_succ_eq_append_getElem h]; simp [nth, List.getD_eq_getElem?_getD, h]
theorem nth_ext {xs ys : List Int} (hl : xs.length = ys.length) (h : ∀ j, j < xs.length → nth xs j = nth ys j) : xs = ys := by
  apply List.ext_getElem hl
  intro i h1 h2
  have := h i h1
  simpa [nth, List.getD_eq_getElem?_getD, h1, h2] using this

/-- A slice value v of the call's own, of n elements of size cells each, the numbers ys: an accumulator. -/
def Acc (k : IntKind) (w : World) (base : Nat) (e : TypeId) (size : Nat) (v : Value) (n : Nat) (ys : List Int) : Prop := w.ownsRow base e size v n (ys.map (Value.int k))
theorem Acc.nil (k : IntKind) (w : World) (base : Nat) (e : TypeId) (size : Nat) : Acc k w base e size (.slice none 0 0) 0 [] := World.ownsRow_nil _ _ _ _
theorem Acc.own {k : IntKind} {w : World} {base : Nat} {e : TypeId} {size n : Nat} {v : Value} {ys : List Int} (h : Acc k w base e size v n ys) :
    ∃ A cap, v = .slice A n cap ∧ Own k w base A e ys := Own.of_row (size := size) h (by have := h.1; simpa using this)
theorem Acc.len {k : IntKind} {w : World} {base : Nat} {e : TypeId} {size n : Nat} {v : Value} {ys : List Int} (h : Acc k w base e size v n ys) : ys.length = n * size := by have := h.1; simpa using this
theorem Acc.below {k : IntKind} {w w1 : World} {base : Nat} {e : TypeId} {size n : Nat} {v : Value} {ys : List Int} (h : Acc k w base e size v n ys) (hb : Below w.heap.size w w1) : Acc k w1 base e size v n ys :=
  World.ownsRow.kept (row := none) h ⟨hb.os, hb.tape, hb.output, hb.size, fun i hi _ => hb.block i hi⟩ (by cases hv : v.ownBlock; exact .inl rfl; exact .inr (by simp))

theorem Acc.setCell {k : IntKind} {w : World} {base : Nat} {e : TypeId} {size n : Nat} {v : Value} {ys : List Int} (h : Acc k w base e size v n ys) {p : Addr} (hp : p.block < base) (u : Value) : Acc k (w.setCell p u) base e size v n ys := by
  obtain ⟨hl, h0 | ⟨g, cap, cur, e1, hb, hh, hrest⟩⟩ := h
  · exact ⟨hl, .inl h0⟩
  · exact ⟨hl, .inr ⟨g, cap, cur, e1, hb, (Below.heap_setCell _ _ _ _ (by omega)).trans hh, hrest⟩⟩
theorem Acc.drewN {k : IntKind} {w : World} {base : Nat} {e : TypeId} {size n : Nat} {v : Value} {ys : List Int} (h : Acc k w base e size v n ys) (m : Nat) : Acc k (w.drewN m) base e size v n ys := h
theorem Acc.drew {k : IntKind} {w : World} {base : Nat} {e : TypeId} {size n : Nat} {v : Value} {ys : List Int} (h : Acc k w base e size v n ys) : Acc k w.drew base e size v n ys := h
theorem wpList_app {P : Program} {ops : Array Oper} {rest : List Oper} {o : Oper} {a : Act} {Q : Exit → Act → World → Prop} {w : World} (hgd : o.guard = none) (s x : Operand) (t : TypeId)
    (ho : o.op = .call { callee := .builtin .append, args := #[s, x], argTypes := #[t, t] }) (k : IntKind)
    (base : Nat) (e : TypeId) (i : TypeInfo) (z : Value) (size bytes : Nat) (ht : P.underlying t = some (.slice e)) (hi : P.info? e = some i) (hz : i.zero = some z)
    (hsize : i.size = size) (hby : i.bytes = bytes) (hzs : z.cells.size = size) (hsz : 0 < size)
    (v : Value) (n : Nat) (ys news : List Int) (hs : a.eval s = v) (hown : Acc k w base e size v n ys)
    (ob : Obj) (hob : ob = .cells (news.map (Value.int k)).toArray e) (hx : a.eval x = .slice (some ⟨w.heap.size, 0, none⟩) 1 1) (hl : news.length = size)
    (hn : n ≤ 1000000) (hb1 : bytes ≤ 1000) (hbase : base ≤ w.heap.size)
    (h : ∀ v' w', Acc k w' base e size v' (n + 1) (ys ++ news) → Below base w w' → wpList P ops Q rest (a.put o.dst v') w') : wpList P ops Q (o :: rest) a (w.alloc ob) := by
  subst hob
  have hcells : ∀ (j : Nat) (u : Value), (news.map (Value.int k))[j]? = some u → (w.alloc (.cells (news.map (Value.int k)).toArray e)).cell? ((⟨w.heap.size, 0, none⟩ : Addr).add j) = some u := by
    intro j u hu
    have e1 : (⟨w.heap.size, 0, none⟩ : Addr).add j = ⟨w.heap.size, j, none⟩ := by
      unfold Addr.add
      by_cases h0 : j = 0
      · subst h0; rfl
      · simp [h0]
    rw [e1, World.cell?_alloc_at _ _ _ _ rfl]
    simpa using hu
  have hbytes : (n + 1) * bytes ≤ 1000001 * 1000 := Nat.mul_le_mul (by omega) hb1
  refine wpList_append_own _ hgd s x t ho base e i z size bytes ht hi hz hsize hby hzs hsz v n _ hs (World.ownsRow.alloc hown _) ⟨w.heap.size, 0, none⟩ 1 1 (news.map (Value.int k)) hx (by simp [hl]) hcells (fun u hu => ?_) (by unfold maxLen; omega) (by omega) (by simp; omega) ?_
  · obtain ⟨q, _, rfl⟩ := List.mem_map.1 hu; rfl
  · intro v' w' hown' hg _
    refine h v' w' (by unfold Acc; rw [List.map_append]; exact hown') (((Below.refl base w).alloc hbase _).grown hg (by simp; omega) fun g hg' => (World.ownsRow.lt hown g hg').1)

/-! ### clearwaykit: CopyInts, EqualInts -/
theorem int_info : (Tryd.prog.info? 3).map (fun i => (i.zero, i.size, i.bytes)) = some (some (.int .i64 0), 1, 8) := by kernel_rfl

end Go.Proofs.YtkikokldijccnaaDoor
