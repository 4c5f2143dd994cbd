/- squitter: pairs of numbers; one table of the law's own; the matrix of History. -/
import Derived.Test.YtkikokldijccnaaDoorRows
import Derived.WalkKit
import Derived.WalkLawsBesides
import Derived.WalkSpells
import Derived.ProofKit
import Derived.Below
import Derived.Outline
import Derived.Lib.Hide
import Derived.Deep.RegionWith
import Derived.Deep.RegionHeld3
import Derived.Deep.DrawnRows
import Derived.StillTailTactics
import Derived.BigQuiet
import Derived.Deep.QuietTactic
import Derived.Deep.LoopGhost
import Derived.IntWalk
import Derived.Laws.MakeOwn
import Derived.Test.YtkikokldijccnaaDoorSqU
namespace Go.Proofs.YtkikokldijccnaaDoor
open Go.RowKit Go.Maps
attribute [local go_sem ↓] Go.wp_at_zero Go.wp_at_succ
attribute [local go_sem] wrap_lit
/-! ### Steps: a list of pairs of numbers -/
def stl (st : List (Int × Int)) (j : Nat) : Int := (st.getD j (0, 0)).1
def sth (st : List (Int × Int)) (j : Nat) : Int := (st.getD j (0, 0)).2
def flatS (l : List (Int × Int)) : List Int := l.flatMap fun p => [p.1, p.2]
theorem flatS_snoc (l : List (Int × Int)) (p : Int × Int) : flatS (l ++ [p]) = flatS l ++ [p.1, p.2] := by simp [flatS]
theorem flatS_len : ∀ l : List (Int × Int), (flatS l).length = l.length * 2
  | [] => rfl
  | p :: l => by
    show (p.1 :: p.2 :: flatS l).length = _
    simp only [List.length_cons, flatS_len l]; omega
theorem flatS_nth : ∀ (l : List (Int × Int)) (k : Nat), k < l.length → nth (flatS l) (k * 2) = stl l k ∧ nth (flatS l) (k * 2 + 1) = sth l k
  | [], k, h => by simp at h
  | p :: l, 0, _ => ⟨rfl, rfl⟩
  | p :: l, k + 1, h => by
    have ih := flatS_nth l k (by simpa using h)
    have e1 : (k + 1) * 2 = k * 2 + 1 + 1 := by omega
    rw [e1]
    exact ih
theorem sts_ext {l l' : List (Int × Int)} (hl : l.length = l'.length) (h : ∀ k, k < l.length → stl l k = stl l' k ∧ sth l k = sth l' k) : l = l' := by
  apply List.ext_getElem hl
  intro i h1 h2
  have := h i h1
  unfold stl sth at this
  rw [List.getD_eq_getElem?_getD, List.getD_eq_getElem?_getD, List.getElem?_eq_getElem h1, List.getElem?_eq_getElem h2] at this
  exact Prod.ext this.1 this.2
theorem sts_at {l : List (Int × Int)} {k : Nat} (h : k < l.length) : (stl l k, sth l k) ∈ l := by
  unfold stl sth
  rw [List.getD_eq_getElem?_getD, List.getElem?_eq_getElem h]
  exact List.getElem_mem h
/-- A list of 2 n numbers is a list of n steps. -/
def unflat (xs : List Int) : Nat → List (Int × Int)
  | 0 => []
  | k + 1 => unflat xs k ++ [(nth xs (k * 2), nth xs (k * 2 + 1))]
theorem unflat_len (xs : List Int) : ∀ k, (unflat xs k).length = k
  | 0 => rfl
  | k + 1 => by simp [unflat, unflat_len xs k]
theorem unflat_flat (xs : List Int) : ∀ k, k * 2 ≤ xs.length → flatS (unflat xs k) = xs.take (k * 2)
  | 0, _ => rfl
  | k + 1, h => by
    have e1 : (k + 1) * 2 = k * 2 + 1 + 1 := by omega
    rw [unflat, flatS_snoc, unflat_flat xs k (by omega), e1, take_nth _ _ (by omega), take_nth _ _ (by omega)]
    simp
theorem cell_in {w : World} {g : Nat} {cs : Array Value} {T : TypeId} (h : w.heap[g]? = some (.cells cs T (0, 0))) {i : Nat} (hi : i < cs.size) : (∃ u, w.cell? ⟨g, i, none⟩ = some u) ∧ w.frozen? ⟨g, i, none⟩ = false := by
  refine ⟨⟨cs[i], ?_⟩, ?_⟩ <;> simp [World.cell?, World.frozen?, h, hi]
theorem setH {w : World} {g : Nat} {cs : Array Value} {T : TypeId} {i : Nat} {a : Value} (h : w.heap[g]? = some (.cells cs T (0, 0))) :
    (w.setCell ⟨g, i, none⟩ a).heap[g]? = some (.cells (cs.setIfInBounds i a) T (0, 0)) := by
  simp [World.setCell, Array.getElem?_modify, h]
theorem run_makeN {P : Program} (t e : TypeId) (i : TypeInfo) (z : Value) (ht : P.underlying t = some (.slice e)) (hi : P.info? e = some i) (hz : i.zero = some z)
    (n : Nat) (hb : i.bytes ≤ 1000) (hn : n ≤ 1000000) (w : World) :
    (Instr.makeSlice t (.int .i64 (n : Int)) (.int .i64 (n : Int))).run P w = .ok (.slice (some ⟨w.heap.size, 0, none⟩) n n) (w.alloc (.cells (madeCells z.cells (n * i.size)) e)) := by
  have h0 : i.bytes * n ≤ 1000 * 1000000 := Nat.mul_le_mul hb hn
  have h1 : (i.bytes : Int) * (n : Int) ≤ 281474976710656 := by
    have h : ((i.bytes * n : Nat) : Int) ≤ 281474976710656 := by omega
    rwa [Int.natCast_mul] at h
  have hr := run_make (P := P) w t e i z ht hi hz .i64 .i64 n n (by omega) (by omega) h1 (by omega)
  simp only [Int.toNat_natCast] at hr
  exact hr
theorem overInts28 (A : Option Addr) (cap : Nat) (xs : List Int) (B : Nat) (T : TypeId) (w : World) (hA : Own .i64 w B A T xs) (hl : xs.length ≤ 1000000) :
    Calls Tryd.prog 22 #[.slice A xs.length cap] w fun e w' => e = .returned (.tuple #[]) ∧ Below B w w' := by
  go_enter Tryd.func22, Tryd.ntmps22
  go_wp2_with fail
  go_loopw [2] (fun i wr => ∃ k : Nat, k ≤ xs.length ∧ i = .int .i64 k ∧ Below B w wr ∧ (0 < xs.length → ∃ g cs, A = some ⟨g, 0, none⟩ ∧ B ≤ g ∧ wr.heap[g]? = some (.cells cs T (0, 0)) ∧ xs.length ≤ cs.size)) (fun i _ => xs.length - (intOf i).toNat)
  case atStart =>
    refine ⟨0, Nat.zero_le _, rfl, Below.refl _ _, fun hn => ?_⟩
    obtain ⟨g, cs, e1, e2, e3, e4⟩ := hA hn
    have := (Array.getElem?_eq_some_iff.1 (e4 (xs.length - 1) (by omega))).1
    exact ⟨g, cs, e1, e2, e3, by omega⟩
  case round =>
    obtain ⟨k, hk, rfl, hb, hg⟩ := hrel
    by_cases hlt : k < xs.length
    · obtain ⟨g, cs, rfl, h1, h2, h3⟩ := hg (by omega)
      obtain ⟨⟨u, c0⟩, p0⟩ := cell_in h2 (i := k) (by omega)
      have Hg := Lib.hid hg; clear hg
      have hlI : (k : Int) < (xs.length : Int) := by omega
      go_wp2_with fail
      exact ⟨⟨k + 1, by omega, by go_num, hb.setCell h1 _, fun _ => ⟨g, _, rfl, h1, setH h2, by simpa using h3⟩⟩, by simp [intOf]; omega⟩
    · obtain rfl : k = xs.length := by omega
      clear hg
      go_wp2_with fail
      go_end0
      exact ⟨rfl, hb⟩

theorem bool_info : (Tryd.prog.info? 4).map (fun i => (i.zero, i.size, i.bytes)) = some (some (.bool false), 1, 1) := by kernel_rfl
theorem lb_info : (Tryd.prog.info? 45).map (fun i => (i.zero, i.size, i.bytes)) = some (some (.slice none 0 0), 1, 24) := by kernel_rfl
theorem make5 (W : World) : (Instr.makeSlice 44 (.int .i64 5) (.int .i64 5)).run Tryd.prog W = .ok (.slice (some ⟨W.heap.size, 0, none⟩) 5 5) (W.alloc (.cells (madeCells #[.slice none 0 0] 5) 45)) := by
  obtain ⟨i0, hi0, hz0, hz1, hz2⟩ := info_parts lb_info
  have := run_makeN (P := Tryd.prog) 44 45 i0 _ Tryd.underlying44 hi0 hz0 5 (by omega) (by omega) W
  rw [hz1] at this
  exact this
theorem make301 (W : World) : (Instr.makeSlice 45 (.int .i64 301) (.int .i64 301)).run Tryd.prog W = .ok (.slice (some ⟨W.heap.size, 0, none⟩) 301 301) (W.alloc (.cells (madeCells #[.bool false] 301) 4)) := by
  obtain ⟨i0, hi0, hz0, hz1, hz2⟩ := info_parts bool_info
  have := run_makeN (P := Tryd.prog) 45 4 i0 _ Tryd.underlying45 hi0 hz0 301 (by omega) (by omega) W
  rw [hz1] at this
  exact this
/-! ### one table -/
structure StQ (B : Nat) (w0 w : World) (F : Nat → Prop) (H : Nat) (t : Ts) (O : Nat → Prop) : Prop where
  ok : Ok t
  tab : TabO w H t O
  new : ∀ k, O k → B ≤ k
  bel : Below B w0 w
  hB : B ≤ w.heap.size
  fr : ∀ k, F k → B ≤ k ∧ k < w.heap.size ∧ ¬ O k
/-- a table of the call's own; F: other blocks of the call's own -/
def St1 (B : Nat) (w0 w : World) (F : Nat → Prop) (H : Nat) (t : Ts) : Prop := ∃ O, StQ B w0 w F H t O
theorem St1.okt {B : Nat} {w0 w : World} {F : Nat → Prop} {H : Nat} {t : Ts} (h : St1 B w0 w F H t) : Ok t := by obtain ⟨O, h⟩ := h; exact h.ok
theorem St1.bel {B : Nat} {w0 w : World} {F : Nat → Prop} {H : Nat} {t : Ts} (h : St1 B w0 w F H t) : Below B w0 w := by obtain ⟨O, h⟩ := h; exact h.bel
theorem St1.hB {B : Nat} {w0 w : World} {F : Nat → Prop} {H : Nat} {t : Ts} (h : St1 B w0 w F H t) : B ≤ w.heap.size := by obtain ⟨O, h⟩ := h; exact h.hB
theorem St1.lt {B : Nat} {w0 w : World} {F : Nat → Prop} {H : Nat} {t : Ts} (h : St1 B w0 w F H t) : ∀ k, F k → k < w.heap.size := by
  obtain ⟨O, h⟩ := h
  exact fun k hk => (h.fr k hk).2.1
theorem St1.ge {B : Nat} {w0 w : World} {F : Nat → Prop} {H : Nat} {t : Ts} (h : St1 B w0 w F H t) : ∀ k, F k → B ≤ k := by
  obtain ⟨O, h⟩ := h
  exact fun k hk => (h.fr k hk).1
theorem St1.below {B : Nat} {w0 w : World} {F : Nat → Prop} {H : Nat} {t : Ts} {w' : World} (h : St1 B w0 w F H t) (hb : Below w.heap.size w w') : St1 B w0 w' (NewB w w' F) H t := by
  obtain ⟨O, h⟩ := h
  refine ⟨O, h.ok, h.tab.below hb, h.new, h.bel.trans (hb.mono h.hB), Nat.le_trans h.hB hb.size, fun k hk => ?_⟩
  rcases hk with hk | hk
  · exact ⟨(h.fr k hk).1, Nat.lt_of_lt_of_le (h.fr k hk).2.1 hb.size, (h.fr k hk).2.2⟩
  · exact ⟨Nat.le_trans h.hB hk.1, hk.2, fun g => by have := h.tab.lt k g; omega⟩
theorem St1.mono {B : Nat} {w0 w : World} {F : Nat → Prop} {H : Nat} {t : Ts} {F' : Nat → Prop} (h : St1 B w0 w F H t) (hF : ∀ k, F' k → F k) : St1 B w0 w F' H t := by
  obtain ⟨O, h⟩ := h
  exact ⟨O, h.ok, h.tab, h.new, h.bel, h.hB, fun k hk => h.fr k (hF k hk)⟩
theorem St1.set {B : Nat} {w0 w : World} {F : Nat → Prop} {H : Nat} {t : Ts} (h : St1 B w0 w F H t) {g i : Nat} (hg : F g) (v : Value) : St1 B w0 (w.setCell ⟨g, i, none⟩ v) F H t := by
  obtain ⟨O, h⟩ := h
  obtain ⟨g1, g2, g3⟩ := h.fr g hg
  have hT : Turn (fun k => k = g) w (w.setCell ⟨g, i, none⟩ v) := (Turn.refl (fun k => k = g) w).setCell (p := ⟨g, i, none⟩) (.inl (show (fun k => k = g) g from rfl)) v
  exact ⟨O, h.ok, h.tab.turn hT (fun _ hk e => g3 (e ▸ hk)), h.new, Turn.below h.bel h.hB hT (fun i e => by subst e; exact g1), Nat.le_trans h.hB hT.size, fun k hk => ⟨(h.fr k hk).1, Nat.lt_of_lt_of_le (h.fr k hk).2.1 hT.size, (h.fr k hk).2.2⟩⟩
theorem St1.drew {B : Nat} {w0 w : World} {F : Nat → Prop} {H : Nat} {t : Ts} (h : St1 B w0 w F H t) : St1 B w0 w.drew F H t := (h.below ((Below.refl _ w).drew)).mono fun _ h => .inl h
theorem St1.made {w w1 : World} {H : Nat} {t : Ts} {O : Nat → Prop} (h1 : TabO w1 H t O) (n1 : ∀ k, O k → w.heap.size ≤ k) (b1 : Below w.heap.size w w1) (k1 : Ok t) : St1 w.heap.size w w1 (fun _ => False) H t :=
  ⟨O, k1, h1, n1, b1, b1.size, fun _ hk => hk.elim⟩
theorem St1.turned {B : Nat} {w0 w : World} {F : Nat → Prop} {H : Nat} {t : Ts} {t' : Ts} {w' : World} {O : Nat → Prop} (h : StQ B w0 w F H t O) (hok : Ok t') (ht : Turned w w' H t' O) : St1 B w0 w' F H t' ∧ ∀ k, F k → w'.heap[k]? = w.heap[k]? := by
  obtain ⟨O', h1, h2, h3, h4⟩ := ht
  refine ⟨⟨O', hok, h1, fun k hk => ?_, Turn.below h.bel h.hB h2 h.new, Nat.le_trans h.hB h2.size, fun k hk => ?_⟩, fun k hk => h2.block k (h.fr k hk).2.1 (h.fr k hk).2.2⟩
  · rcases h4 k hk with g | g
    · exact h.new k g
    · have := h.hB; omega
  · refine ⟨(h.fr k hk).1, Nat.lt_of_lt_of_le (h.fr k hk).2.1 h2.size, fun g => ?_⟩
    rcases h4 k g with g' | g'
    · exact (h.fr k hk).2.2 g'
    · have := (h.fr k hk).2.1; omega
theorem stepB {B : Nat} {w0 w : World} {F : Nat → Prop} {H : Nat} {t : Ts} (h : St1 B w0 w F H t) (a s : Int) : Calls Tryd.prog 13 #[.pointer (some ⟨H, 0, none⟩), .agg #[.int .i64 a, .int .i64 s]] w fun e w' => e = .returned (.int .i64 (stepE t a s)) ∧ St1 B w0 w' F H (stepT t a s) ∧ ∀ k, F k → w'.heap[k]? = w.heap[k]? := by
  obtain ⟨O, h⟩ := h
  obtain ⟨mb, bk, gk, hT⟩ := h.tab
  refine (step13 h.ok a s hT).mono ?_
  rintro e w' ⟨rfl, ht⟩
  exact ⟨rfl, St1.turned h (h.ok.step a s) ht⟩
theorem nowB {B : Nat} {w0 w : World} {F : Nat → Prop} {H : Nat} {t : Ts} (h : St1 B w0 w F H t) : Calls Tryd.prog 14 #[.pointer (some ⟨H, 0, none⟩)] w fun e w' => e = .returned (.int .i64 t.now) ∧ w' = w := by
  obtain ⟨O, h⟩ := h
  obtain ⟨mb, bk, gk, hT⟩ := h.tab
  exact now14 hT
theorem knownB {B : Nat} {w0 w : World} {F : Nat → Prop} {H : Nat} {t : Ts} (h : St1 B w0 w F H t) : Calls Tryd.prog 15 #[.pointer (some ⟨H, 0, none⟩)] w fun e w' => ∃ A cap, e = .returned (.slice A (addrsT t true).length cap) ∧ FOwn w' (NewB w w' F) A (addrsT t true) ∧ (addrsT t true).length ≤ cap ∧ St1 B w0 w' (NewB w w' F) H t ∧ Below w.heap.size w w' := by
  have hS := h
  obtain ⟨O, h⟩ := h
  obtain ⟨mb, bk, gk, hT⟩ := h.tab
  refine (known15 h.ok hT).mono ?_
  rintro e w' ⟨A, cap, rfl, h1, h2, h3⟩
  exact ⟨A, cap, rfl, FOwn.of h1, h2, hS.below h3, h3⟩
theorem pendB {B : Nat} {w0 w : World} {F : Nat → Prop} {H : Nat} {t : Ts} (h : St1 B w0 w F H t) : Calls Tryd.prog 16 #[.pointer (some ⟨H, 0, none⟩)] w fun e w' => ∃ A cap, e = .returned (.slice A (addrsT t false).length cap) ∧ FOwn w' (NewB w w' F) A (addrsT t false) ∧ (addrsT t false).length ≤ cap ∧ St1 B w0 w' (NewB w w' F) H t ∧ Below w.heap.size w w' := by
  have hS := h
  obtain ⟨O, h⟩ := h
  obtain ⟨mb, bk, gk, hT⟩ := h.tab
  refine (pend16 h.ok hT).mono ?_
  rintro e w' ⟨A, cap, rfl, h1, h2, h3⟩
  exact ⟨A, cap, rfl, FOwn.of h1, h2, hS.below h3, h3⟩
theorem saveB {K : Nat} {B : Nat} {w0 w : World} {F : Nat → Prop} {H : Nat} {t : Ts} (E : Env K w0) (hK : K ≤ B) (h : St1 B w0 w F H t) : Calls Tryd.prog 20 #[.pointer (some ⟨H, 0, none⟩)] w fun e w' => e = .returned (.string (S (saveT t))) ∧ St1 B w0 w' (NewB w w' F) H t ∧ Below w.heap.size w w' := by
  have hS := h
  obtain ⟨O, h⟩ := h
  obtain ⟨mb, bk, gk, hT⟩ := h.tab
  refine (save20 (E.below (h.bel.mono hK)) (Nat.le_trans hK h.hB) h.ok hT).mono ?_
  rintro e w' ⟨rfl, h3⟩
  exact ⟨rfl, hS.below h3, h3⟩
/-! ### the matrix -/
structure Mx (w : World) (F : Nat → Prop) (m n : Nat) (gs : Nat → Nat) (Hs : Nat → Int → Bool) : Prop where
  fm : F m
  top : ∃ cs, w.heap[m]? = some (.cells cs 45 (0, 0)) ∧ cs.size = 5 ∧ ∀ a, a < n → cs[a]? = some (.slice (some ⟨gs a, 0, none⟩) 301 301)
  fg : ∀ a, a < n → F (gs a)
  row : ∀ a, a < n → ∃ bs, w.heap[gs a]? = some (.cells bs 4 (0, 0)) ∧ bs.size = 301 ∧ ∀ j : Nat, j < 301 → bs[j]? = some (.bool (Hs a j))
  inj : ∀ a b, a < n → b < n → gs a = gs b → a = b
theorem Mx.keep {w w' : World} {F F' : Nat → Prop} {m n : Nat} {gs : Nat → Nat} {Hs : Nat → Int → Bool} (h : Mx w F m n gs Hs) (hF : ∀ k, F k → F' k) (hk : ∀ k, F k → w'.heap[k]? = w.heap[k]?) : Mx w' F' m n gs Hs := by
  obtain ⟨cs, c1, c2, c3⟩ := h.top
  refine ⟨hF _ h.fm, ⟨cs, (hk m h.fm).trans c1, c2, c3⟩, fun a ha => hF _ (h.fg a ha), fun a ha => ?_, h.inj⟩
  obtain ⟨bs, b1, b2, b3⟩ := h.row a ha
  exact ⟨bs, (hk _ (h.fg a ha)).trans b1, b2, b3⟩
theorem Mx.at_ {w : World} {F : Nat → Prop} {m n : Nat} {gs : Nat → Nat} {Hs : Nat → Int → Bool} (h : Mx w F m n gs Hs) {a : Nat} (ha : a < n) : w.cell? ⟨m, a, none⟩ = some (.slice (some ⟨gs a, 0, none⟩) 301 301) ∧ (∀ j : Nat, j < 301 → w.cell? ⟨gs a, j, none⟩ = some (.bool (Hs a j))) ∧ ∀ j, w.frozen? ⟨gs a, j, none⟩ = false := by
  obtain ⟨cs, c1, c2, c3⟩ := h.top
  obtain ⟨bs, b1, b2, b3⟩ := h.row a ha
  exact ⟨(cellOf c1).trans (c3 a ha), fun j hj => (cellOf b1).trans (b3 j hj), fun j => frozenOf b1⟩
theorem Mx.spot {w : World} {F : Nat → Prop} {m n : Nat} {gs : Nat → Nat} {Hs : Nat → Int → Bool} (h : Mx w F m n gs Hs) {a : Nat} (ha : a < 5) : (∃ u, w.cell? ⟨m, a, none⟩ = some u) ∧ w.frozen? ⟨m, a, none⟩ = false := by
  obtain ⟨cs, c1, c2, c3⟩ := h.top
  exact cell_in c1 (by omega)
theorem lb_ne : 45 ≠ 4 := by decide
theorem Mx.apart {w : World} {F : Nat → Prop} {m n : Nat} {gs : Nat → Nat} {Hs : Nat → Int → Bool} (h : Mx w F m n gs Hs) {a : Nat} (ha : a < n) : gs a ≠ m := by
  obtain ⟨cs, c1, c2, c3⟩ := h.top
  obtain ⟨bs, b1, b2, b3⟩ := h.row a ha
  refine ne_of_cells b1 c1 fun e => ?_
  injection e with _ e
  exact lb_ne e.symm
theorem Mx.set {w : World} {F : Nat → Prop} {m n : Nat} {gs : Nat → Nat} {Hs : Nat → Int → Bool} (h : Mx w F m n gs Hs) {a s : Nat} (ha : a < n) (hs : s < 301) : Mx (w.setCell ⟨gs a, s, none⟩ (.bool true)) F m n gs (fun b c => if b = a ∧ c = (s : Int) then true else Hs b c) := by
  obtain ⟨cs, c1, c2, c3⟩ := h.top
  refine ⟨h.fm, ⟨cs, (Below.heap_setCell _ _ _ _ (Ne.symm (h.apart ha))).trans c1, c2, c3⟩, h.fg, fun b hb => ?_, h.inj⟩
  obtain ⟨bs, b1, b2, b3⟩ := h.row b hb
  by_cases e : b = a
  · subst e
    refine ⟨_, setCell_cells b1, by simpa using b2, fun j hj => ?_⟩
    rw [Array.getElem?_setIfInBounds]
    by_cases g : s = j
    · subst g; simp [b2, hs]
    · have g' : ¬ (j : Int) = (s : Int) := by omega
      rw [if_neg g, b3 j hj]; simp [g']
  · refine ⟨bs, (Below.heap_setCell _ _ _ _ fun g => e (h.inj _ _ hb ha g)).trans b1, b2, fun j hj => ?_⟩
    rw [b3 j hj]; simp [e]
theorem Mx.more {w : World} {F : Nat → Prop} {m n : Nat} {gs : Nat → Nat} (h : Mx w F m n gs (fun _ _ => false)) (hF : ∀ k, F k → k < w.heap.size) (hn : n < 5) : Mx ((w.alloc (.cells (madeCells #[.bool false] 301) 4)).setCell ⟨m, n, none⟩ (.slice (some ⟨w.heap.size, 0, none⟩) 301 301)) (NewB w (w.alloc (.cells (madeCells #[.bool false] 301) 4)) F) m (n + 1) (fun a => if a = n then w.heap.size else gs a) (fun _ _ => false) := by
  have hm := hF m h.fm
  have hb : Below w.heap.size w (w.alloc (.cells (madeCells #[.bool false] 301) 4)) := (Below.refl _ w).alloc (Nat.le_refl _) _
  obtain ⟨cs, c1, c2, c3⟩ := h.top
  have hlt : ∀ a, a < n → gs a < w.heap.size := fun a ha => hF _ (h.fg a ha)
  refine ⟨.inl h.fm, ⟨_, setCell_cells ((hb.block m hm).trans c1), by simpa using c2, fun a ha => ?_⟩, fun a ha => ?_, fun a ha => ?_, fun a b ha hb' e => ?_⟩
  · rw [Array.getElem?_setIfInBounds]
    by_cases g : a = n
    · subst g; simp [c2, hn]
    · rw [if_neg (Ne.symm g), if_neg g]
      exact c3 a (by omega)
  · by_cases g : a = n
    · rw [if_pos g]; exact .inr ⟨Nat.le_refl _, by rw [size_alloc]; exact Nat.lt_succ_self _⟩
    · rw [if_neg g]; exact .inl (h.fg a (by omega))
  · by_cases g : a = n
    · rw [if_pos g]
      refine ⟨_, (Below.heap_setCell _ _ _ _ (Nat.ne_of_gt hm)).trans (heap_alloc_new w _), by simp [madeCells], fun j hj => by simp [madeCells, hj, Nat.mod_one]⟩
    · rw [if_neg g]
      obtain ⟨bs, b1, b2, b3⟩ := h.row a (by omega)
      exact ⟨bs, (Below.heap_setCell _ _ _ _ (h.apart (show a < n by omega))).trans ((hb.block _ (hlt a (by omega))).trans b1), b2, b3⟩
  · by_cases g : a = n
    · by_cases g' : b = n
      · omega
      · rw [if_pos g, if_neg g'] at e
        have := hlt b (by omega)
        omega
    · by_cases g' : b = n
      · rw [if_neg g, if_pos g'] at e
        have := hlt a (by omega)
        omega
      · rw [if_neg g, if_neg g'] at e
        exact h.inj a b (by omega) (by omega) e
theorem Mx.new (w : World) (F : Nat → Prop) (gs : Nat → Nat) (Hs : Nat → Int → Bool) : Mx (w.alloc (.cells (madeCells #[.slice none 0 0] 5) 45)) (NewB w (w.alloc (.cells (madeCells #[.slice none 0 0] 5) 45)) F) w.heap.size 0 gs Hs :=
  ⟨.inr ⟨Nat.le_refl _, by rw [size_alloc]; exact Nat.lt_succ_self _⟩, ⟨_, heap_alloc_new w _, by simp [madeCells], fun a ha => by omega⟩, fun a ha => by omega, fun a ha => by omega, fun a b ha => by omega⟩
end Go.Proofs.YtkikokldijccnaaDoor
