/- CopyInts, own of the law. -/
import Derived.Test.YtbonniladhablaaRows
import Derived.WalkKit
import Derived.WalkLawsBesides
import Derived.WalkSpells
import Derived.ProofKit
import Derived.Below
import Derived.Outline
import Derived.Lib.Hide
import Derived.Deep.RegionWith
import Derived.Deep.RegionHeld3
import Derived.Deep.DrawnRows
import Derived.StillTailTactics
import Derived.BigQuiet
import Derived.Deep.QuietTactic
import Derived.Deep.LoopGhost
import Derived.IntWalk
import Derived.Laws.AppendOwnNone
import Derived.Test.YtbonniladhablaaTcU
import Derived.Test.YtbonniladhablaaKW
namespace Go.Proofs.Ytbonniladhablaa
open Go.RowKit
attribute [local go_sem ↓] Go.wp_at_zero Go.wp_at_succ
attribute [local go_sem] wrap_lit
set_option maxHeartbeats 1000000 in
theorem copyInts (A : Option Addr) (cap : Nat) (xs : List Int) (w : World) (hA : Is .i64 w w.heap.size A xs) (hl : xs.length ≤ 1000000) :
    Calls Try.prog 40 #[.slice A xs.length cap] w fun e w' => ∃ v, e = .returned v ∧ Acc .i64 w' w.heap.size 3 1 v xs.length xs ∧ Below w.heap.size w w' := by
  obtain ⟨i0, hi0, hz0, hz1, hz2⟩ := info_parts int_info
  go_enter Try.func40, Try.ntmps40
  go_wp2_with fail
  go_loopw [3, 4] (fun v i wr => ∃ k : Nat, k ≤ xs.length ∧ i = .int .i64 k ∧ Acc .i64 wr w.heap.size 3 1 v k (xs.take k) ∧ Below w.heap.size w wr) (fun _ i _ => xs.length - (intOf i).toNat)
  case atStart => exact ⟨0, Nat.zero_le _, rfl, Acc.nil _ _ _ _ _, Below.refl _ _⟩
  case round =>
    obtain ⟨k, hk, rfl, hown, hb⟩ := hrel
    by_cases hlt : k < xs.length
    · obtain ⟨b, off, rfl, hbb, hc⟩ := hA (by omega)
      have hcell : wr.cell? ⟨b, off + k, none⟩ = some (.int .i64 (nth xs k)) := (hb.cell (p := ⟨b, off + k, none⟩) hbb).trans (hc k hlt)
      clear hc
      have hlI : (k : Int) < (xs.length : Int) := by omega
      go_wp2_with (at_builtin; refine wpList_app rfl _ _ 47 rfl .i64 w.heap.size 3 i0 _ 1 8 Try.underlying47 hi0 hz0 hz1 hz2 rfl (by decide) _ _ _ [nth xs k] rfl hown _ rfl rfl rfl (by omega) (by decide) hb.size ?_; intro v' w1 hown1 hb1)
      exact ⟨⟨k + 1, by omega, by go_num, by rw [take_nth _ _ hlt]; exact hown1, hb.trans hb1⟩, by simp [intOf]; omega⟩
    · obtain rfl : k = xs.length := by omega
      rw [List.take_length] at hown
      go_wp2_with fail
      go_ret
      exact ⟨_, rfl, hown, hb⟩

theorem Lv_info : (Try.prog.info? 27).map (fun i => (i.zero, i.size, i.bytes)) = some (some (.agg #[.int .i64 0, .int .i64 0, .int .i64 0, .int .i64 0]), 4, 32) := by kernel_rfl
/-- append of a slice to nil: a copy. -/
theorem wpList_copy {P : Program} {ops : Array Oper} {rest : List Oper} {o : Oper} {a : Act} {Q : Exit → Act → World → Prop} {w : World} (hgd : o.guard = none) (x : Operand) (t : TypeId)
    (ho : o.op = .call { callee := .builtin .append, args := #[.const (.slice none 0 0), x], argTypes := #[t, t] }) (k : IntKind)
    (e : TypeId) (i : TypeInfo) (z : Value) (size bytes : Nat) (ht : P.underlying t = some (.slice e)) (hi : P.info? e = some i) (hz : i.zero = some z)
    (hsize : i.size = size) (hby : i.bytes = bytes) (hzs : z.cells.size = size) (hsz : 0 < size)
    (A : Option Addr) (cap n : Nat) (xs : List Int) (hx : a.eval x = .slice A n cap) (hA : Is k w w.heap.size A xs) (hl : xs.length = n * size) (hnil : A = none → cap = 0)
    (hn : n ≤ 1000000) (hb1 : bytes ≤ 1000)
    (h : ∀ v' w', Acc k w' w.heap.size e size v' n xs → Below w.heap.size w w' → wpList P ops Q rest (a.put o.dst v') w') : wpList P ops Q (o :: rest) a w := by
  rcases A with _ | ad
  · obtain rfl := hnil rfl
    have h0 : n = 0 := by
      rcases Nat.eq_zero_or_pos n with g | g
      · exact g
      · obtain ⟨b, off, e', -⟩ := hA (by rw [hl]; exact Nat.mul_pos g hsz)
        cases e'
    subst h0
    obtain rfl : xs = [] := List.eq_nil_of_length_eq_zero (by simpa using hl)
    exact wpList_append_own_none hgd _ x t ho w.heap.size e i size ht hi (.slice none 0 0) 0 [] rfl (World.ownsRow_nil _ _ _ _) hx (h _ _ (Acc.nil _ _ _ _ _) (Below.refl _ _))
  · have Hc : ∀ j, j < xs.length → w.cell? (ad.add j) = some (.int k (nth xs j)) := fun j hj => by
      obtain ⟨b, off, e', hb, hc⟩ := hA (by omega)
      obtain rfl : ad = ⟨b, off, none⟩ := by simpa using e'
      rw [addr_add]; exact hc j hj
    have hbytes : n * bytes ≤ 1000000 * 1000 := Nat.mul_le_mul hn hb1
    refine wpList_append_own _ hgd _ x t ho w.heap.size e i z size bytes ht hi hz hsize hby hzs hsz (.slice none 0 0) 0 [] rfl (World.ownsRow_nil _ _ _ _) ad n cap (xs.map (Value.int k)) hx (by simp [hl]) (fun j v hv => ?_) (fun v hv => ?_) (by rw [Nat.zero_add]; unfold maxLen; omega) (by rw [Nat.zero_add]; omega) (Nat.le_refl _) ?_
    · rw [List.getElem?_map] at hv
      rcases hj : xs[j]? with _ | y
      · rw [hj] at hv; simp at hv
      · obtain ⟨hjl, rfl⟩ := List.getElem?_eq_some_iff.1 hj
        rw [hj] at hv
        rw [Hc j hjl]
        simpa [nth, List.getD_eq_getElem?_getD, hjl] using hv
    · obtain ⟨q, _, rfl⟩ := List.mem_map.1 hv; rfl
    · intro v' w1 hown hg _
      exact h v' w1 (by unfold Acc; simpa using hown) ((Below.refl _ w).grown hg (Nat.le_refl _) (fun k hk => by simp [Value.ownBlock] at hk))
/-- The blocks of own: the table and the result. -/
structure OwS (w : World) (p : Nat) (c0 c1 c2 c3 c4 : Value) (ds : Array Value) (W : World) : Prop where
  h0 : W.heap[p]? = some (.cells #[c0, c1, c2, c3, c4] 50 (0, 0))
  h1 : W.heap[p + 1]? = some (.cells ds 50 (0, 0))
  hd : ds.size = 5
  bw : Below w.heap.size w W
  lt : p + 1 < W.heap.size
  ge : w.heap.size ≤ p
theorem heap_alloc_past (w : World) (o : Obj) (n : Nat) (h : n < w.heap.size) : (w.alloc o).heap[n]? = w.heap[n]? := ((Below.refl _ w).alloc (Nat.le_refl _) o).block n h
theorem OwS.on {w : World} {p B : Nat} {c0 c1 c2 c3 c4 : Value} {ds : Array Value} {W W1 : World} (h : OwS w p c0 c1 c2 c3 c4 ds W) (hb : Below B W W1) (hB : p + 1 < B) : OwS w p c0 c1 c2 c3 c4 ds W1 where
  h0 := (hb.block p (by omega)).trans h.h0
  h1 := (hb.block (p + 1) hB).trans h.h1
  hd := h.hd
  bw := h.bw.trans (hb.mono (by have := h.ge; omega))
  lt := Nat.lt_of_lt_of_le h.lt hb.size
  ge := h.ge
theorem OwS.c {w : World} {p : Nat} {c0 c1 c2 c3 c4 : Value} {ds : Array Value} {W : World} (h : OwS w p c0 c1 c2 c3 c4 ds W) (i : Nat) : W.cell? ⟨p, i, none⟩ = #[c0, c1, c2, c3, c4][i]? := by
  simp [World.cell?, h.h0]
theorem Acc.lower {k : IntKind} {w : World} {base base' : Nat} {e : TypeId} {size n : Nat} {v : Value} {ys : List Int} (h : Acc k w base e size v n ys) (hb : base' ≤ base) : Acc k w base' e size v n ys := by
  obtain ⟨hl, h0 | ⟨g, cap, cur, e1, hg, hrest⟩⟩ := h
  · exact ⟨hl, .inl h0⟩
  · exact ⟨hl, .inr ⟨g, cap, cur, e1, Nat.le_trans hb hg, hrest⟩⟩
theorem OwS.set {w : World} {p : Nat} {c0 c1 c2 c3 c4 : Value} {ds : Array Value} {W : World} (h : OwS w p c0 c1 c2 c3 c4 ds W) (i : Nat) (hi : i < 5) (v : Value) : OwS w p ((#[c0, c1, c2, c3, c4].setIfInBounds i v).getD 0 v) ((#[c0, c1, c2, c3, c4].setIfInBounds i v).getD 1 v) ((#[c0, c1, c2, c3, c4].setIfInBounds i v).getD 2 v) ((#[c0, c1, c2, c3, c4].setIfInBounds i v).getD 3 v) ((#[c0, c1, c2, c3, c4].setIfInBounds i v).getD 4 v) ds (W.setCell ⟨p, i, none⟩ v) where
  h0 := by
    rw [setH h.h0]
    rcases (by omega : i = 0 ∨ i = 1 ∨ i = 2 ∨ i = 3 ∨ i = 4) with rfl | rfl | rfl | rfl | rfl <;> rfl
  h1 := (Below.heap_setCell _ _ _ _ (by show p + 1 ≠ p; omega)).trans h.h1
  hd := h.hd
  bw := h.bw.setCell h.ge _
  lt := by have := h.lt; simpa using this
  ge := h.ge
set_option maxRecDepth 100000 in
set_option maxHeartbeats 4000000 in
theorem own20 (F A B' : Option Addr) (cf na ca nb cb : Nat) (fl xa xb : List Int) (far tall : Int) (w : World) (hF : Is .i64 w w.heap.size F fl) (hA : Is .i64 w w.heap.size A xa) (hB' : Is .i64 w w.heap.size B' xb) (hna : xa.length = na * 4) (hnb : xb.length = nb * 4) (hlf : fl.length ≤ 1000) (hla : na ≤ 1000) (hlb : nb ≤ 1000) (zA : A = none → ca = 0) (zB : B' = none → cb = 0) :
    Calls Try.prog 20 #[.agg #[.slice F fl.length cf, .slice A na ca, .slice B' nb cb, .int .i64 far, .int .i64 tall]] w fun e w' => ∃ vf va vb, e = .returned (.agg #[vf, va, vb, .int .i64 far, .int .i64 tall]) ∧ Acc .i64 w' w.heap.size 3 1 vf fl.length fl ∧ Acc .i64 w' w.heap.size 27 4 va na xa ∧ Acc .i64 w' w.heap.size 27 4 vb nb xb ∧ Below w.heap.size w w' := by
  obtain ⟨i0, hi0, hz0, hz1, hz2⟩ := info_parts Lv_info
  have bX : Below w.heap.size w ((w.alloc (.cells #[.slice F fl.length cf, .slice A na ca, .slice B' nb cb, .int .i64 far, .int .i64 tall] 50)).alloc (.cells #[.slice none 0 0, .slice none 0 0, .slice none 0 0, .int .i64 0, .int .i64 0] 50)) := ((Below.refl _ _).alloc (Nat.le_refl _) _).alloc (by simp) _
  have C := Lib.hid (copyInts F cf fl ((w.alloc (.cells #[.slice F fl.length cf, .slice A na ca, .slice B' nb cb, .int .i64 far, .int .i64 tall] 50)).alloc (.cells #[.slice none 0 0, .slice none 0 0, .slice none 0 0, .int .i64 0, .int .i64 0] 50)) ((hF.below bX).mono bX.size) (by omega))
  go_enter Try.func20, Try.ntmps20
  go_wp2_with fail
  refine C.out.mono ?_
  rintro e w1 ⟨v1, rfl, o1, hb1⟩
  obtain ⟨A1, k1, rfl, -⟩ := o1.own
  obtain ⟨X, hX⟩ : ∃ X, X = (w.alloc (.cells #[.slice F fl.length cf, .slice A na ca, .slice B' nb cb, .int .i64 far, .int .i64 tall] 50)).alloc (.cells #[.slice none 0 0, .slice none 0 0, .slice none 0 0, .int .i64 0, .int .i64 0] 50) := ⟨_, rfl⟩
  have hXs : X.heap.size = w.heap.size + 2 := by rw [hX]; simp
  have S0 : OwS w w.heap.size (.slice F fl.length cf) (.slice A na ca) (.slice B' nb cb) (.int .i64 far) (.int .i64 tall) #[.slice none 0 0, .slice none 0 0, .slice none 0 0, .int .i64 0, .int .i64 0] X := by
    rw [hX]
    exact ⟨(heap_alloc_past _ _ _ (by simp)).trans (heap_alloc_at _ _ _ rfl), heap_alloc_at _ _ _ (by simp), rfl, bX, by simp, Nat.le_refl _⟩
  rw [← hX] at hb1 o1
  clear hX bX C
  have S1 := S0.on hb1 (by omega)
  have T1 := S1.set 0 (by decide) (.slice A1 fl.length k1)
  have O1 := Lib.hid (o1.setCell (p := ⟨w.heap.size, 0, none⟩) (by show w.heap.size < _; omega) (.slice A1 fl.length k1))
  have HIA := Lib.hid ((hA.below T1.bw).mono T1.bw.size)
  have HIB := Lib.hid hB'
  have T1 := Lib.hid T1
  have hbase : w.heap.size + 2 = X.heap.size := hXs.symm
  rw [← hbase] at O1
  have e0 := S1.c 0
  have e1 := T1.out.c 1
  have z0 := (cell_in S1.h0 (i := 0) (by simp)).2
  clear S0 S1 hb1 hXs o1 hF hA hB' hbase
  have sz1 : w.heap.size + 1 < (w1.setCell ⟨w.heap.size, 0, none⟩ (.slice A1 fl.length k1)).heap.size := T1.out.lt
  go_wp2_with (first
    | (at_builtin; refine wpList_copy rfl _ 48 rfl .i64 27 i0 _ 4 32 Try.underlying48 hi0 hz0 hz1 hz2 rfl (by decide) A ca na xa rfl HIA.out hna zA (by omega) (by decide) ?_; intro v2 w2 o2 hb2; obtain ⟨A2, k2, rfl, -⟩ := o2.own; have S2 := T1.out.on hb2 sz1; have f1 := S2.c 1; have y1 := (cell_in S2.h0 (i := 1) (by simp)).2; have T2 := S2.set 1 (by decide) (.slice A2 na k2); have f2 := T2.c 2; have Q1 := Lib.hid ((O1.out.below (hb2.mono (Nat.le_refl _))).setCell (p := ⟨w.heap.size, 1, none⟩) (by show w.heap.size < _; omega) (.slice A2 na k2)); have Q2 := Lib.hid (o2.setCell (p := ⟨w.heap.size, 1, none⟩) (by show w.heap.size < _; omega) (.slice A2 na k2)); have sz2 := T2.lt; have HIB2 := Lib.hid ((HIB.out.below T2.bw).mono T2.bw.size); replace T2 := Lib.hid T2; clear o2 hb2 S2 O1)
    | (at_builtin; refine wpList_copy rfl _ 48 rfl .i64 27 i0 _ 4 32 Try.underlying48 hi0 hz0 hz1 hz2 rfl (by decide) B' cb nb xb rfl HIB2.out hnb zB (by omega) (by decide) ?_; intro v3 w3 o3 hb3; obtain ⟨A3, k3, rfl, -⟩ := o3.own; have S3 := T2.out.on hb3 sz2; have g2 := S3.c 2; have y2 := (cell_in S3.h0 (i := 2) (by simp)).2; have T3 := S3.set 2 (by decide) (.slice A3 nb k3); have g0 := T3.c 0; have g1 := T3.c 1; have g2' := T3.c 2; have g3 := T3.c 3; have g4 := T3.c 4; have R1 := Lib.hid ((Q1.out.below hb3).setCell (p := ⟨w.heap.size, 2, none⟩) (by show w.heap.size < _; omega) (.slice A3 nb k3)); have R2 := Lib.hid ((Q2.out.below hb3).setCell (p := ⟨w.heap.size, 2, none⟩) (by show w.heap.size < _; omega) (.slice A3 nb k3)); have R3 := Lib.hid (o3.setCell (p := ⟨w.heap.size, 2, none⟩) (by show w.heap.size < _; omega) (.slice A3 nb k3)); have sz3 := T3.lt; obtain ⟨⟨u0, d0⟩, x0⟩ := cell_in T3.h1 (i := 0) (by rw [T3.hd]; decide); obtain ⟨⟨u1, d1⟩, x1⟩ := cell_in T3.h1 (i := 1) (by rw [T3.hd]; decide); obtain ⟨⟨u2, d2⟩, x2⟩ := cell_in T3.h1 (i := 2) (by rw [T3.hd]; decide); obtain ⟨⟨u3, d3⟩, x3⟩ := cell_in T3.h1 (i := 3) (by rw [T3.hd]; decide); obtain ⟨⟨u4, d4⟩, x4⟩ := cell_in T3.h1 (i := 4) (by rw [T3.hd]; decide); replace T3 := Lib.hid T3; clear o3 hb3 S3 Q1 Q2 T2))
  refine bodyPost_ret (v := .agg #[.slice A1 fl.length k1, .slice A2 na k2, .slice A3 nb k3, .int .i64 far, .int .i64 tall]) (by simp [results, Try.results20, go_sem, d0, d1, d2, d3, d4]) rfl ⟨_, _, _, rfl, ?_, ?_, ?_, ?_⟩
  · exact (((((((((((R1.out).setCell (p := ⟨w.heap.size + 1, 0, none⟩) (by show w.heap.size + 1 < _; omega) _)).setCell (p := ⟨w.heap.size + 1, 1, none⟩) (by show w.heap.size + 1 < _; omega) _)).setCell (p := ⟨w.heap.size + 1, 2, none⟩) (by show w.heap.size + 1 < _; omega) _)).setCell (p := ⟨w.heap.size + 1, 3, none⟩) (by show w.heap.size + 1 < _; omega) _)).setCell (p := ⟨w.heap.size + 1, 4, none⟩) (by show w.heap.size + 1 < _; omega) _)).lower (by omega)
  · exact (((((((((((R2.out).setCell (p := ⟨w.heap.size + 1, 0, none⟩) (by show w.heap.size + 1 < _; omega) _)).setCell (p := ⟨w.heap.size + 1, 1, none⟩) (by show w.heap.size + 1 < _; omega) _)).setCell (p := ⟨w.heap.size + 1, 2, none⟩) (by show w.heap.size + 1 < _; omega) _)).setCell (p := ⟨w.heap.size + 1, 3, none⟩) (by show w.heap.size + 1 < _; omega) _)).setCell (p := ⟨w.heap.size + 1, 4, none⟩) (by show w.heap.size + 1 < _; omega) _)).lower (by omega)
  · exact (((((((((((R3.out).setCell (p := ⟨w.heap.size + 1, 0, none⟩) (by show w.heap.size + 1 < _; omega) _)).setCell (p := ⟨w.heap.size + 1, 1, none⟩) (by show w.heap.size + 1 < _; omega) _)).setCell (p := ⟨w.heap.size + 1, 2, none⟩) (by show w.heap.size + 1 < _; omega) _)).setCell (p := ⟨w.heap.size + 1, 3, none⟩) (by show w.heap.size + 1 < _; omega) _)).setCell (p := ⟨w.heap.size + 1, 4, none⟩) (by show w.heap.size + 1 < _; omega) _)).lower (by omega)
  · exact ((((((((((T3.out.bw).setCell (p := ⟨w.heap.size + 1, 0, none⟩) (by show w.heap.size ≤ w.heap.size + 1; omega) _)).setCell (p := ⟨w.heap.size + 1, 1, none⟩) (by show w.heap.size ≤ w.heap.size + 1; omega) _)).setCell (p := ⟨w.heap.size + 1, 2, none⟩) (by show w.heap.size ≤ w.heap.size + 1; omega) _)).setCell (p := ⟨w.heap.size + 1, 3, none⟩) (by show w.heap.size ≤ w.heap.size + 1; omega) _)).setCell (p := ⟨w.heap.size + 1, 4, none⟩) (by show w.heap.size ≤ w.heap.size + 1; omega) _)
end Go.Proofs.Ytbonniladhablaa
