/- Words for memory: blocks that are written, draws, rows, appended values. -/
import Derived.Test.YtbonniladhablaaRows
import Derived.WalkKit
import Derived.WalkLawsBesides
import Derived.WalkSpells
import Derived.ProofKit
import Derived.Below
import Derived.Outline
import Derived.Lib.Hide
import Derived.Deep.RegionWith
import Derived.Deep.RegionHeld3
import Derived.Deep.DrawnRows
import Derived.StillTailTactics
import Derived.BigQuiet
import Derived.Deep.QuietTactic
import Derived.Deep.LoopGhost
import Derived.IntWalk
import Derived.Test.YtbonniladhablaaKR
namespace Go.Proofs.Ytbonniladhablaa
open Go.RowKit
attribute [local go_sem ↓] Go.wp_at_zero Go.wp_at_succ
attribute [local go_sem] wrap_lit
theorem nth_set (l : List Int) (k j : Nat) (v : Int) (h : k < l.length) : nth (l.set k v) j = if j = k then v else nth l j := by
  unfold nth
  rw [List.getD_eq_getElem?_getD, List.getD_eq_getElem?_getD]
  by_cases e : j = k
  · subst e; simp [h]
  · rw [if_neg e, List.getElem?_set_ne (fun g => e g.symm)]
/-- Block g holds the numbers l, and may be written. -/
def OutB (w : World) (g : Nat) (T : TypeId) (l : List Int) : Prop := ∃ cs, w.heap[g]? = some (.cells cs T (0, 0)) ∧ cs.size = l.length ∧ ∀ j, j < l.length → cs[j]? = some (.int .i64 (nth l j))
theorem OutB.cell {w : World} {g : Nat} {T : TypeId} {l : List Int} (h : OutB w g T l) {j : Nat} (hj : j < l.length) : w.cell? ⟨g, j, none⟩ = some (.int .i64 (nth l j)) := by
  obtain ⟨cs, h1, h2, h3⟩ := h
  simp [World.cell?, h1, h3 j hj]
theorem OutB.frozen {w : World} {g : Nat} {T : TypeId} {l : List Int} (h : OutB w g T l) (j : Nat) : w.frozen? ⟨g, j, none⟩ = false := by
  obtain ⟨cs, h1, h2, h3⟩ := h
  simp [World.frozen?, h1]
theorem OutB.set {w : World} {g : Nat} {T : TypeId} {l : List Int} (h : OutB w g T l) (j : Nat) (v : Int) (hj : j < l.length) : OutB (w.setCell ⟨g, j, none⟩ (.int .i64 v)) g T (l.set j v) := by
  obtain ⟨cs, h1, h2, h3⟩ := h
  refine ⟨cs.setIfInBounds j (.int .i64 v), by simp [World.setCell, Array.getElem?_modify, h1], by simp [h2], fun k hk => ?_⟩
  rw [List.length_set] at hk
  rw [nth_set l j k v hj, Array.getElem?_setIfInBounds]
  by_cases e : j = k
  · subst e; simp [h2, hj]
  · rw [if_neg e, if_neg (fun g => e g.symm), h3 k hk]
theorem OutB.drew {w : World} {g : Nat} {T : TypeId} {l : List Int} (h : OutB w g T l) : OutB w.drew g T l := h
theorem OutB.drewN {w : World} {g : Nat} {T : TypeId} {l : List Int} (h : OutB w g T l) (n : Nat) : OutB (w.drewN n) g T l := h
theorem OutB.lt {w : World} {g : Nat} {T : TypeId} {l : List Int} (h : OutB w g T l) : g < w.heap.size := by
  obtain ⟨cs, h1, _⟩ := h; exact heap_lt h1
theorem OutB.is {w : World} {g : Nat} {T : TypeId} {l : List Int} (h : OutB w g T l) (n : Nat) (hn : n ≤ l.length) : Is .i64 w w.heap.size (some ⟨g, 0, none⟩) (l.take n) := fun h0 =>
  ⟨g, 0, rfl, h.lt, fun j hj => by
    have hj' : j < n := by simp at hj; omega
    have := h.cell (j := j) (by omega)
    rw [Nat.zero_add, this]
    simp [nth, List.getD_eq_getElem?_getD, hj']⟩
theorem OutB.far {w : World} {g : Nat} {T : TypeId} {l : List Int} (h : OutB w g T l) {p : Addr} (hp : g ≠ p.block) (u : Value) : OutB (w.setCell p u) g T l := by
  obtain ⟨cs, h1, h2, h3⟩ := h
  exact ⟨cs, (Below.heap_setCell _ _ _ _ hp).trans h1, h2, h3⟩
theorem run_makeN {P : Program} (t e : TypeId) (i : TypeInfo) (z : Value) (ht : P.underlying t = some (.slice e)) (hi : P.info? e = some i) (hz : i.zero = some z)
    (n : Nat) (hb : i.bytes ≤ 1000) (hn : n ≤ 1000000) (w : World) :
    (Instr.makeSlice t (.int .i64 (n : Int)) (.int .i64 (n : Int))).run P w = .ok (.slice (some ⟨w.heap.size, 0, none⟩) n n) (w.alloc (.cells (madeCells z.cells (n * i.size)) e)) := by
  have h0 : i.bytes * n ≤ 1000 * 1000000 := Nat.mul_le_mul hb hn
  have h1 : (i.bytes : Int) * (n : Int) ≤ 281474976710656 := by
    have h : ((i.bytes * n : Nat) : Int) ≤ 281474976710656 := by omega
    rwa [Int.natCast_mul] at h
  have hr := run_make (P := P) w t e i z ht hi hz .i64 .i64 n n (by omega) (by omega) h1 (by omega)
  simp only [Int.toNat_natCast] at hr
  exact hr
theorem setH {w : World} {g : Nat} {cs : Array Value} {T : TypeId} {i : Nat} {a : Value} (h : w.heap[g]? = some (.cells cs T (0, 0))) :
    (w.setCell ⟨g, i, none⟩ a).heap[g]? = some (.cells (cs.setIfInBounds i a) T (0, 0)) := by
  simp [World.setCell, Array.getElem?_modify, h]
theorem made_at (n j : Nat) (h : j < n) : (madeCells #[Value.int .i64 0] n)[j]? = some (.int .i64 0) := by
  simp [madeCells, h, Nat.mod_one]
theorem nth_zero (n j : Nat) : nth (List.replicate n 0) j = 0 := by
  unfold nth; rw [List.getD_eq_getElem?_getD, List.getElem?_replicate]; split <;> rfl
theorem OutB.own {w : World} {g B : Nat} {T : TypeId} {l : List Int} (h : OutB w g T l) (hB : B ≤ g) : Own .i64 w B (some ⟨g, 0, none⟩) T l := fun _ => by
  obtain ⟨cs, h1, h2, h3⟩ := h
  exact ⟨g, cs, rfl, hB, h1, h3⟩
theorem OutB.made (w : World) (n : Nat) : OutB (w.alloc (.cells (madeCells #[.int .i64 0] n) 3)) w.heap.size 3 (List.replicate n 0) :=
  ⟨_, heap_alloc_new _ _, by rw [size_madeCells]; simp, fun j hj => by
    simp at hj
    rw [nth_zero]
    simp [madeCells, hj, Nat.mod_one]⟩
theorem OutB.below {w w1 : World} {g : Nat} {T : TypeId} {l : List Int} (h : OutB w g T l) (hb : Below w.heap.size w w1) : OutB w1 g T l := by
  obtain ⟨cs, h1, h2, h3⟩ := h
  exact ⟨cs, (hb.block g (heap_lt h1)).trans h1, h2, h3⟩
theorem own_nil {w : World} {B : Nat} {T : TypeId} {A : Option Addr} : Own .i64 w B A T [] := fun h => by simp at h
theorem Own.far {k : IntKind} {w : World} {B : Nat} {A : Option Addr} {T : TypeId} {xs : List Int} (h : Own k w B A T xs) {p : Addr} (hp : p.block < B) (v : Value) : Own k (w.setCell p v) B A T xs := fun hn => by
  obtain ⟨g, cs, e, hB, hh, hc⟩ := h hn
  exact ⟨g, cs, e, hB, (Below.heap_setCell _ _ _ _ (show g ≠ p.block by omega)).trans hh, hc⟩
theorem Own.allocd {k : IntKind} {w : World} {B : Nat} {A : Option Addr} {T : TypeId} {xs : List Int} (h : Own k w B A T xs) (o : Obj) : Own k (w.alloc o) B A T xs := h.below ((Below.refl _ _).alloc (Nat.le_refl _) _)
theorem Own.c0 {k : IntKind} {w : World} {B : Nat} {A : Option Addr} {T : TypeId} {xs : List Int} (h : Own k w B A T xs) (hn : 0 < xs.length) : ∃ g, A = some ⟨g, 0, none⟩ ∧ B ≤ g ∧ g < w.heap.size ∧ ∀ j, j < xs.length → w.cell? ⟨g, j, none⟩ = some (.int k (nth xs j)) := by
  obtain ⟨g, cs, e, hB, hh, hc⟩ := h hn
  exact ⟨g, e, hB, heap_lt hh, fun j hj => by simp [World.cell?, hh, hc j hj]⟩
/-- The world wr is w behind some draws. -/
def DrN (w wr : World) : Prop := ∃ n, w.drewN n = wr
theorem DrN.refl (w : World) : DrN w w := ⟨0, rfl⟩
theorem DrN.on {w wr : World} (h : DrN w wr) (n : Nat) : DrN w (wr.drewN n) := by
  obtain ⟨m, rfl⟩ := h
  exact ⟨m + n, by rw [World.drewN_drewN]⟩
theorem DrN.is {w wr : World} (h : DrN w wr) {k : IntKind} {B : Nat} {A : Option Addr} {xs : List Int} (hA : Is k w B A xs) : Is k wr B A xs := by obtain ⟨m, rfl⟩ := h; exact hA
theorem Acc.mono {k : IntKind} {w : World} {base base' : Nat} {e : TypeId} {size n : Nat} {v : Value} {ys : List Int} (h : Acc k w base' e size v n ys) (hb : base ≤ base') : Acc k w base e size v n ys := by
  obtain ⟨hl, h0 | ⟨g, cap, cur, e1, h1, h2⟩⟩ := h
  · exact ⟨hl, .inl h0⟩
  · exact ⟨hl, .inr ⟨g, cap, cur, e1, Nat.le_trans hb h1, h2⟩⟩
theorem DrN.cell {w wr : World} (h : DrN w wr) {a : Addr} {v : Value} (hc : w.cell? a = some v) : wr.cell? a = some v := by obtain ⟨m, rfl⟩ := h; exact hc
theorem DrN.below {w wr : World} (h : DrN w wr) : Below w.heap.size w wr := by obtain ⟨m, rfl⟩ := h; exact below_drewN (Below.refl _ _) _
theorem cell_in {w : World} {g : Nat} {cs : Array Value} {T : TypeId} (h : w.heap[g]? = some (.cells cs T (0, 0))) {i : Nat} (hi : i < cs.size) : (∃ u, w.cell? ⟨g, i, none⟩ = some u) ∧ w.frozen? ⟨g, i, none⟩ = false := by
  refine ⟨⟨cs[i], ?_⟩, ?_⟩ <;> simp [World.cell?, World.frozen?, h, hi]
theorem heap_alloc_at (w : World) (o : Obj) (n : Nat) (h : n = w.heap.size) : (w.alloc o).heap[n]? = some o := by subst h; exact heap_alloc_new w o
theorem Is.lit {k : IntKind} {w : World} {B g : Nat} {T : TypeId} {xs : List Int} (h : w.heap[g]? = some (.cells (xs.map (Value.int k)).toArray T (0, 0))) (hg : g < B) : Is k w B (some ⟨g, 0, none⟩) xs := fun _ =>
  ⟨g, 0, rfl, hg, fun j hj => by simp [World.cell?, h, hj, nth, List.getD_eq_getElem?_getD]⟩
theorem wpList_appV {P : Program} {ops : Array Oper} {rest : List Oper} {o : Oper} {a : Act} {Q : Exit → Act → World → Prop} {w : World} (hgd : o.guard = none) (s x : Operand) (t : TypeId)
    (ho : o.op = .call { callee := .builtin .append, args := #[s, x], argTypes := #[t, t] })
    (base : Nat) (e : TypeId) (i : TypeInfo) (z : Value) (bytes : Nat) (ht : P.underlying t = some (.slice e)) (hi : P.info? e = some i) (hz : i.zero = some z)
    (hsize : i.size = 1) (hby : i.bytes = bytes) (hzs : z.cells.size = 1)
    (v : Value) (n : Nat) (vs : List Value) (y : Value) (hy : y.oneCell' = true) (hs : a.eval s = v) (hown : w.ownsRow base e 1 v n vs)
    (ob : Obj) (hob : ob = .cells #[y] e) (hx : a.eval x = .slice (some ⟨w.heap.size, 0, none⟩) 1 1)
    (hn : n ≤ 1000000) (hb1 : bytes ≤ 1000) (hbase : base ≤ w.heap.size)
    (h : ∀ v' w', w'.ownsRow base e 1 v' (n + 1) (vs ++ [y]) → (w.alloc ob).grownBy w' v.ownBlock → Below base w w' → wpList P ops Q rest (a.put o.dst v') w') : wpList P ops Q (o :: rest) a (w.alloc ob) := by
  subst hob
  have hbytes : (n + 1) * bytes ≤ 1000001 * 1000 := Nat.mul_le_mul (by omega) hb1
  refine wpList_append_own _ hgd s x t ho base e i z 1 bytes ht hi hz hsize hby hzs (by decide) v n _ hs (World.ownsRow.alloc hown _) ⟨w.heap.size, 0, none⟩ 1 1 [y] hx rfl (fun j u hu => ?_) (fun u hu => ?_) (by unfold maxLen; omega) (by omega) (by simp; omega) ?_
  · cases j with
    | zero =>
      obtain rfl : y = u := by simpa using hu
      exact World.cell?_alloc_at _ _ _ _ rfl
    | succ j => simp at hu
  · obtain rfl : u = y := by simpa using hu
    exact hy
  · intro v' w' hown' hg _
    exact h v' w' hown' hg (((Below.refl base w).alloc hbase _).grown hg (by simp; omega) fun g hg' => (World.ownsRow.lt hown g hg').1)
theorem Own.grown {k : IntKind} {W w1 : World} {B n0 : Nat} {A : Option Addr} {T e : TypeId} {xs : List Int} {size n : Nat} {v : Value} {vs : List Value} {tmp : Obj} (h : Own k W B A T xs) (hT : T ≠ e) (hrow : W.ownsRow n0 e size v n vs) (hg : (W.alloc tmp).grownBy w1 v.ownBlock) : Own k w1 B A T xs := fun hn => by
  obtain ⟨g, cs, e1, hB, hh, hc⟩ := h hn
  refine ⟨g, cs, e1, hB, ?_, hc⟩
  have h1 : (W.alloc tmp).heap[g]? = some (.cells cs T (0, 0)) := (Below.heap_alloc W _ g (heap_lt hh)).trans hh
  rw [hg.block g (heap_lt h1) (fun e2 => ?_), h1]
  rcases hrow.2 with ⟨rfl, _⟩ | ⟨g', cap, cur, rfl, _, hgg, _⟩
  · simp [Value.ownBlock] at e2
  · obtain rfl : g = g' := by simpa [Value.ownBlock] using e2
    rw [hh] at hgg
    cases hgg
    exact hT rfl
theorem ownsRow_below {w w1 : World} {base : Nat} {e : TypeId} {size n : Nat} {v : Value} {xs : List Value} (h : w.ownsRow base e size v n xs) (hb : Below w.heap.size w w1) : w1.ownsRow base e size v n xs := by
  refine h.kept (row := none) ⟨hb.os, hb.tape, hb.output, hb.size, fun i hi _ => hb.block i hi⟩ ?_
  rcases hv : v.ownBlock with _ | g
  · exact .inl rfl
  · exact .inr (by simp)
/-- The rows that have been copied. -/
def CpR (w : World) (B : Nat) (xss : List (List Int)) (vs : List Value) : Prop := ∀ r, r < vs.length → ∃ Ar Cr, vs[r]? = some (.slice Ar (row xss r).length Cr) ∧ Own .i64 w B Ar 3 (row xss r)
theorem Own.lt {k : IntKind} {w : World} {B : Nat} {A : Option Addr} {T : TypeId} {xs : List Int} (h : Own k w B A T xs) : 0 < xs.length → ∀ g, A = some ⟨g, 0, none⟩ → g < w.heap.size := fun hn g e => by
  obtain ⟨g', cs, e1, e2, e3, -⟩ := h hn
  rw [e1] at e
  cases e
  exact heap_lt e3
theorem own_other {k : IntKind} {w w1 : World} {B B' n : Nat} {A A2 : Option Addr} {T : TypeId} {xs : List Int} (h : Own k w B' A T xs) (hf : ∀ g', (0 < n → A2 ≠ some ⟨g', 0, none⟩) → w1.heap[g']? = w.heap[g']?) (hb : B ≤ B') (hlt : 0 < n → ∀ g, A2 = some ⟨g, 0, none⟩ → g < B') : Own k w1 B A T xs := fun hn => by
  obtain ⟨g, cs, e1, e2, e3, e4⟩ := h hn
  exact ⟨g, cs, e1, by omega, (hf g (fun h0 e => absurd (hlt h0 g e) (by omega))).trans e3, e4⟩
theorem Is.far9 {w : World} {g k : Nat} {A : Option Addr} {xs : List Int} (h : Is .i64 w g A xs) (v : Value) : Is .i64 (w.setCell ⟨g, k, none⟩ v) g A xs := fun hn => by
  obtain ⟨b, off, e, hb, hc⟩ := h hn
  exact ⟨b, off, e, hb, fun j hj => (World.cell?_of_block (w := w) (Below.heap_setCell _ _ _ _ (Nat.ne_of_lt hb))).trans (hc j hj)⟩
theorem u8_at {ys : List Int} (hwf : ∀ n ∈ ys, (Lit.int .u8 n).wf = true) {k : Nat} (hk : k < ys.length) : 0 ≤ nth ys k ∧ nth ys k ≤ 255 := by
  have hm : nth ys k ∈ ys := by unfold nth; rw [List.getD_eq_getElem?_getD, List.getElem?_eq_getElem hk]; exact List.getElem_mem hk
  have := hwf _ hm
  simpa [Lit.wf, IntKind.min, IntKind.max, IntKind.signed, IntKind.bits] using this
theorem Is.nxt {W W1 : World} {A : Option Addr} {xs : List Int} (h : Is .i64 W W.heap.size A xs) (hb : Below W.heap.size W W1) : Is .i64 W1 W1.heap.size A xs := (h.below hb).mono hb.size
end Go.Proofs.Ytbonniladhablaa
