/- Package fruit: the matching of valid sweeps. -/
import Derived.Test.YtmkpblfacnnnoaaFrB
import Derived.Test.YtmkpblfacnnnoaaFrM
import Derived.Lib.MinMax
namespace Go.Proofs.Ytmkpblfacnnnoaa
open Go.RowKit Go.Shelf
attribute [local go_sem] Oper.semAt_some wide_fn

def flat (l : List (Nat × Nat)) : List Int := l.flatMap fun p => [(p.1 : Int), (p.2 : Int)]
theorem flat_snoc (l : List (Nat × Nat)) (p : Nat × Nat) : flat (l ++ [p]) = flat l ++ [(p.1 : Int), (p.2 : Int)] := by simp [flat]
theorem flat_len (l : List (Nat × Nat)) : (flat l).length = l.length * 2 := by
  induction l with
  | nil => rfl
  | cons p l ih => show (_ :: _ :: flat l).length = _; simp [ih]; omega
/-- 'append' of one element onto a row of the call's own, inside a fence; what was written is told. -/
theorem wpListIn_app {F : Fence} {m : Nat} {P : Program} {ops : Array Oper} {rest : List Oper} {o : Oper} {a : Act} {Q : Exit → Act → World → Prop} {w : World} (hgd : o.guard = none) (s x : Operand) (t : TypeId)
    (ho : o.op = .call { callee := .builtin .append, args := #[s, x], argTypes := #[t, t] }) (k : IntKind)
    (base : Nat) (e : TypeId) (i : TypeInfo) (z : Value) (size bytes : Nat) (ht : P.underlying t = some (.slice e)) (hi : P.info? e = some i) (hz : i.zero = some z)
    (hsize : i.size = size) (hby : i.bytes = bytes) (hzs : z.cells.size = size) (hsz : 0 < size)
    (v : Value) (n : Nat) (ys news : List Int) (hs : a.eval s = v) (hown : w.ownsRow base e size v n (ys.map (Value.int k)))
    (ob : Obj) (hob : ob = .cells (news.map (Value.int k)).toArray e) (hx : a.eval x = .slice (some ⟨w.heap.size, 0, none⟩) 1 1) (hl : news.length = size)
    (hn : n ≤ 1000000) (hb1 : bytes ≤ 1000) (hbase : base ≤ w.heap.size)
    (h : ∀ v' w', w'.ownsRow base e size v' (n + 1) ((ys ++ news).map (Value.int k)) → (w.alloc ob).grownBy w' v.ownBlock → wpListIn F m P ops Q rest (a.put o.dst v') w') : wpListIn F m P ops Q (o :: rest) a (w.alloc ob) := by
  subst hob
  have hcells : ∀ (j : Nat) (u : Value), (news.map (Value.int k))[j]? = some u → (w.alloc (.cells (news.map (Value.int k)).toArray e)).cell? ((⟨w.heap.size, 0, none⟩ : Addr).add j) = some u := by
    intro j u hu
    have e1 : (⟨w.heap.size, 0, none⟩ : Addr).add j = ⟨w.heap.size, j, none⟩ := by
      unfold Addr.add
      by_cases h0 : j = 0
      · subst h0; rfl
      · simp [h0]
    rw [e1, World.cell?_alloc_at _ _ _ _ rfl]
    simpa using hu
  have hbytes : (n + 1) * bytes ≤ 1000001 * 1000 := Nat.mul_le_mul (by omega) hb1
  refine wpListIn_append_own _ hgd s x t ho base e i z size bytes ht hi hz hsize hby hzs hsz v n _ hs (World.ownsRow.alloc hown _) ⟨w.heap.size, 0, none⟩ 1 1 (news.map (Value.int k)) hx (by simp [hl]) hcells (fun u hu => ?_) (by unfold maxLen; omega) (by omega) (by simp; omega) ?_
  · obtain ⟨q, _, rfl⟩ := List.mem_map.1 hu; rfl
  · intro v' w' hown' hg _
    exact h v' w' (by rw [List.map_append]; exact hown') hg
/-- Another box behind an append and a store into the row's variable. -/
theorem boxed_far {W w1 : World} {n₀ B B' : Nat} {t e : TypeId} {size : Nat} {u v v' : Value} {k : Nat} {xs : List Value} {tmp : Obj}
    (hb : Boxed W B t u) (hte : t ≠ e) (hrow : W.ownsRow n₀ e size v k xs) (hgrow : (W.alloc tmp).grownBy w1 v.ownBlock) (hne : B ≠ B') : Boxed (w1.setCell ⟨B', 0, none⟩ v') B t u :=
  ((hb.alloc tmp).kept hgrow (hb.not_row hte hrow)).other hne v'
/-- The variable of a round: a block of two numbers. -/
def PBox (W : World) (B : Nat) (p : Nat × Nat) : Prop := W.heap[B]? = some (.cells #[.int .i64 (p.1 : Int), .int .i64 (p.2 : Int)] 46 (0, 0))
theorem PBox.c0 {W : World} {B : Nat} {p : Nat × Nat} (h : PBox W B p) : W.cell? ⟨B, 0, none⟩ = some (.int .i64 (p.1 : Int)) := by simp [World.cell?, show W.heap[B]? = _ from h]
theorem PBox.c1 {W : World} {B : Nat} {p : Nat × Nat} (h : PBox W B p) : W.cell? ⟨B, 1, none⟩ = some (.int .i64 (p.2 : Int)) := by simp [World.cell?, show W.heap[B]? = _ from h]
theorem Pair_info : (Try.prog.info? 46).map (fun i => (i.zero, i.size, i.bytes)) = some (some (.agg #[.int .i64 0, .int .i64 0]), 2, 16) := by kernel_rfl

set_option maxRecDepth 100000 in
set_option maxHeartbeats 4000000 in
theorem match31_in (n : Nat) (hn : 3 ≤ n) (A A' : Option Addr) (cap cap' : Nat) (a b : List Int) (u : Int) (w : World) (ha : okTo a a.length = true) (hb : okTo b b.length = true) (hla : a.length ≤ 64) (hlb : b.length ≤ 64)
    (hA : Is .i64 w w.heap.size A a) (hA' : Is .i64 w w.heap.size A' b) :
    CallsIn Fence.wide n Try.prog 31 #[.slice A a.length cap, .slice A' b.length cap', .int .i64 u] w fun e w' => ∃ v, e = .returned v ∧ Acc .i64 w' w.heap.size 46 2 v (gr u a b 0 0).length (flat (gr u a b 0 0)) ∧ Below w.heap.size w w' := by
  have h1 : 1 ≤ n := by omega
  obtain ⟨i0, hi0, hz0, hz1, hz2⟩ := info_parts Pair_info
  obtain ⟨m, hm⟩ : ∃ m : Nat, m = min a.length b.length := ⟨_, rfl⟩
  have hmI : min (a.length : Int) (b.length : Int) = (m : Int) := by omega
  have hm64 : m ≤ 64 := by omega
  have hmk : ∀ W : World, (Instr.makeSlice 26 (.int .i64 (m : Int)) (.int .i64 (m : Int))).run Try.prog W = .ok (.slice (some ⟨W.heap.size, 0, none⟩) m m) (W.alloc (.cells (madeCells #[.int .i64 0, .int .i64 0] (m * 2)) 46)) := fun W => by
    have h := run_makeN (P := Try.prog) 26 46 i0 _ Try.underlying26 hi0 hz0 m (by omega) (by omega) W
    rw [hz1] at h
    simpa [Value.cells] using h
  have HA := Lib.hid hA
  have HA' := Lib.hid hA'
  have Hha := Lib.hid ha
  have Hhb := Lib.hid hb
  have Hm := Lib.hid hm
  clear hA hA' ha hb hm
  refine callsIn_of_wp_marks Try.func31 rfl trivial ?_ rfl
  simp only [Try.ntmps31, List.size_toArray, List.length_cons, List.length_nil, Nat.reduceAdd, Nat.reduceSub, Array.replicate_succ, Array.replicate_zero, List.push_toArray, List.append_toArray, List.nil_append, List.cons_append]
  have P37 := fun w => pairs37 A A' a.length b.length cap cap' u w
  have BXU : bx u = .func (.func 36) #[.int .i64 u] #[] := rfl
  rw [BXU] at P37
  gi_wp2
  refine (callsIn_wide.2 (P37 _)).mono ?_
  rintro e w' ⟨rfl, rfl⟩
  clear P37 hmk
  gi_wp2
  have hown0 : (w.alloc (.cells (madeCells #[.int .i64 0, .int .i64 0] (m * 2)) 46)).ownsRow w.heap.size 46 2 (.slice (some ⟨w.heap.size, 0, none⟩) 0 m) 0 [] := World.ownsRow_made _ _ _ (Nat.le_refl _) (by unfold maxLen; omega) (by simp [madeCells])
  obtain ⟨X, hX⟩ : ∃ X, X = w.alloc (.cells (madeCells #[.int .i64 0, .int .i64 0] (m * 2)) 46) := ⟨_, rfl⟩
  have hXs : X.heap.size = w.heap.size + 1 := by rw [hX]; simp
  have hXB : Below w.heap.size w X := by rw [hX]; exact (Below.refl _ _).alloc (Nat.le_refl _) _
  rw [← hX] at hown0 ⊢
  clear hX
  have bL := (((Boxed.new X 26 (.slice (some ⟨w.heap.size, 0, none⟩) 0 m)).alloc (.cells #[.slice A a.length cap] 22)).alloc (.cells #[.slice A' b.length cap'] 22)).alloc (.cells #[.func (.func 36) #[.int .i64 u] #[]] 59)
  have c1 := ((Boxed.new (X.alloc (.cells #[.slice (some ⟨w.heap.size, 0, none⟩) 0 m] 26)) 22 (.slice A a.length cap)).alloc (.cells #[.slice A' b.length cap'] 22)).alloc (.cells #[.func (.func 36) #[.int .i64 u] #[]] 59)
  have c2 := (Boxed.new ((X.alloc (.cells #[.slice (some ⟨w.heap.size, 0, none⟩) 0 m] 26)).alloc (.cells #[.slice A a.length cap] 22)) 22 (.slice A' b.length cap')).alloc (.cells #[.func (.func 36) #[.int .i64 u] #[]] 59)
  have c3 := Boxed.new (((X.alloc (.cells #[.slice (some ⟨w.heap.size, 0, none⟩) 0 m] 26)).alloc (.cells #[.slice A a.length cap] 22)).alloc (.cells #[.slice A' b.length cap'] 22)) 59 (.func (.func 36) #[.int .i64 u] #[])
  have hB0 : Below w.heap.size w ((((X.alloc (.cells #[.slice (some ⟨w.heap.size, 0, none⟩) 0 m] 26)).alloc (.cells #[.slice A a.length cap] 22)).alloc (.cells #[.slice A' b.length cap'] 22)).alloc (.cells #[.func (.func 36) #[.int .i64 u] #[]] 59)) :=
    (((hXB.alloc (by omega) _).alloc (by simp; omega) _).alloc (by simp; omega) _).alloc (by simp; omega) _
  have hr0 := (((hown0.alloc (.cells #[.slice (some ⟨w.heap.size, 0, none⟩) 0 m] 26)).alloc (.cells #[.slice A a.length cap] 22)).alloc (.cells #[.slice A' b.length cap'] 22)).alloc (.cells #[.func (.func 36) #[.int .i64 u] #[]] 59)
  have hsz : ((((X.alloc (.cells #[.slice (some ⟨w.heap.size, 0, none⟩) 0 m] 26)).alloc (.cells #[.slice A a.length cap] 22)).alloc (.cells #[.slice A' b.length cap'] 22)).alloc (.cells #[.func (.func 36) #[.int .i64 u] #[]] 59)).heap.size = w.heap.size + 5 := by simp; omega
  simp only [World.size_alloc, hXs] at bL c1 c2 c3
  obtain ⟨Y, hY⟩ : ∃ Y, Y = (((X.alloc (.cells #[.slice (some ⟨w.heap.size, 0, none⟩) 0 m] 26)).alloc (.cells #[.slice A a.length cap] 22)).alloc (.cells #[.slice A' b.length cap'] 22)).alloc (.cells #[.func (.func 36) #[.int .i64 u] #[]] 59) := ⟨_, rfl⟩
  rw [← hY] at bL c1 c2 c3 hB0 hr0 hsz ⊢
  clear hY hown0 hXB hXs
  have hgl := (gr_le u a b _ 0 0 (Nat.le_refl _)).1
  refine wpIn_rangeFunc_ownH rfl h1 (gf := 39) (lb := #[.pointer (some ⟨w.heap.size + 1 + 1, 0, none⟩), .pointer (some ⟨w.heap.size + 1 + 1 + 1, 0, none⟩), .pointer (some ⟨w.heap.size + 1 + 1 + 1 + 1, 0, none⟩)]) rfl trivial (enters_of Try.func39 (by kernel_rfl) rfl)
    (pairs_stops (n - 1) (by omega) (w.heap.size + 1 + 1) w.heap.size A A' cap cap' a b u Hha.out Hhb.out hla hlb Y (by omega) c1 c2 c3 (HA.out.below hB0) (HA'.out.below hB0)) KpB.t (KpB.b (by omega) (by omega)) (Below.refl _ _) (fun _ => rfl)
    (fun pre W => ((∃ v, Boxed W (w.heap.size + 1) 26 v ∧ W.ownsRow w.heap.size 46 2 v pre.length ((flat pre).map (Value.int .i64)) ∧ True) ∧ (Boxed W (w.heap.size + 1 + 1) 22 (.slice A a.length cap) ∧ Boxed W (w.heap.size + 1 + 1 + 1) 22 (.slice A' b.length cap') ∧ Boxed W (w.heap.size + 1 + 1 + 1 + 1) 59 (bx u))) ∧ Below w.heap.size w W)
    (fun _ _ _ => False)
    (OwnFrom.and (OwnFrom.and (Go.Own.from (holdsRow_own w.heap.size (w.heap.size + 1) 26 46 2 (fun pre => pre.length) (fun pre => (flat pre).map (Value.int .i64)) (fun _ _ => True)) _) (OwnFrom.and (Go.Own.from (boxed_own _ _ (fun (_ : List (Nat × Nat)) => Value.slice A a.length cap)) _) (OwnFrom.and (Go.Own.from (boxed_own _ _ (fun (_ : List (Nat × Nat)) => Value.slice A' b.length cap')) _) (Go.Own.from (boxed_own _ _ (fun (_ : List (Nat × Nat)) => bx u)) _)))) (ownFrom_below (Nat.le_refl _) (by omega)))
    (fun _ _ _ _ _ hs _ _ => hs)
    ⟨⟨⟨_, bL, hr0, trivial⟩, c1, c2, c3⟩, hB0⟩
    (fun x a' W => ∃ Bx, PBox W Bx x ∧ a' = { tmps := #[.slice A a.length cap, .slice A' b.length cap', .int .i64 u, undef, undef, undef, .slice none 0 0, .func (.func 36) #[.int .i64 u] #[], .slice (some ⟨w.heap.size, 0, none⟩) m m, .pointer (some ⟨w.heap.size + 1, 0, none⟩), .pointer (some ⟨Bx, 0, none⟩), .int .i64 u, .func (.func 36) #[.int .i64 u] #[], .slice A a.length cap, .int .i64 (a.length : Int), .slice A' b.length cap', .int .i64 (b.length : Int), .int .i64 (m : Int), .slice (some ⟨w.heap.size, 0, none⟩) m m, .slice (some ⟨w.heap.size, 0, none⟩) m m, .slice (some ⟨w.heap.size, 0, none⟩) m m, .int .i64 (m : Int), .slice (some ⟨w.heap.size, 0, none⟩) 0 m, .slice A a.length cap, .slice A' b.length cap', .func (.func 36) #[.int .i64 u] #[], .func (.func 39) #[] #[.pointer (some ⟨w.heap.size + 1 + 1, 0, none⟩), .pointer (some ⟨w.heap.size + 1 + 1 + 1, 0, none⟩), .pointer (some ⟨w.heap.size + 1 + 1 + 1 + 1, 0, none⟩)], .agg #[.int .i64 (x.1 : Int), .int .i64 (x.2 : Int)], undef, undef, undef, undef, undef], defers := [] })
    (fun x a' _ W1 W2 row hs hg hr => by
      obtain ⟨Bx, h1, h3⟩ := hs
      refine ⟨Bx, (hg.block Bx (heap_lt h1) (fun e => ?_)).trans h1, h3⟩
      obtain ⟨-, o, ho, hc⟩ := hr Bx e.symm
      rw [show W1.heap[Bx]? = _ from h1] at ho
      cases ho; cases hc)
    ?assign ?body ?done ?stop
  case assign =>
    rintro l pre x W K ⟨⟨⟨v, hv, hrow, -⟩, c1, c2, c3⟩, hB⟩ hK
    unfold encP
    gi_wp2
    exact hK _ _ ((KeepsOthers.alloc _ _).from _) ⟨(Below.refl _ W).alloc hB.size _, fun g _ hg => Below.heap_alloc W _ g (by have := c3.lt; omega)⟩ ⟨⟨⟨v, hv.alloc _, hrow.alloc _, trivial⟩, c1.alloc _, c2.alloc _, c3.alloc _⟩, hB.alloc hB.size _⟩ ⟨W.heap.size, heap_alloc_new W _, rfl⟩
  case body =>
    rintro l pre x a' W hl ⟨r, hr⟩ ⟨⟨⟨v, hv, hrow, -⟩, c1, c2, c3⟩, hB⟩ ⟨Bx, bX, rfl⟩ hlt
    have hc := hv.cell
    have x0 := bX.c0
    have x1 := bX.c1
    have hBs := hB.size
    gi_wp2_with (gi_at_builtin; refine wpListIn_app rfl _ _ 26 rfl .i64 w.heap.size 46 i0 _ 2 16 Try.underlying26 hi0 hz0 hz1 hz2 rfl (by decide) _ _ _ [(x.1 : Int), (x.2 : Int)] rfl hrow _ rfl rfl rfl (by omega) (by decide) hBs ?_; intro v' w1 hown' hgrow; obtain ⟨g', cap', rfl⟩ := ownsRow_succ hown'; obtain ⟨hv1, hv2, hr2, hk2, hb2⟩ := hv.appended (by decide) hrow hBs (by omega) hown' hgrow; have d1 := boxed_far (B' := w.heap.size + 1) (v' := .slice (some ⟨g', 0, none⟩) (pre.length + 1) cap') c1 (by decide) hrow hgrow (by omega); have d2 := boxed_far (B' := w.heap.size + 1) (v' := .slice (some ⟨g', 0, none⟩) (pre.length + 1) cap') c2 (by decide) hrow hgrow (by omega); have d3 := boxed_far (B' := w.heap.size + 1) (v' := .slice (some ⟨g', 0, none⟩) (pre.length + 1) cap') c3 (by decide) hrow hgrow (by omega); have hc1 := hv1.cell; have hf1 := hv1.frozen)
    refine ⟨hk2.from _, ⟨hb2, fun g g1 g2 => ?_⟩, ⟨⟨_, hv2, by rw [flat_snoc]; simpa using hr2, trivial⟩, d1, d2, d3⟩, hB.trans hb2⟩
    rcases (by omega : g = w.heap.size + 1 + 1 ∨ g = w.heap.size + 1 + 1 + 1 ∨ g = w.heap.size + 1 + 1 + 1 + 1) with rfl | rfl | rfl
    · exact d1.trans c1.symm
    · exact d2.trans c2.symm
    · exact d3.trans c3.symm
  case done =>
    rintro D ys W hD rfl ⟨⟨⟨v, hv, hrow, -⟩, -⟩, hB⟩ hK
    have hc := hv.cell
    gi_wp2
    refine ⟨by simp, .inl ⟨_, _, rfl, run_takeDeferred hK, ?_⟩⟩
    exact ⟨_, results_tmp rfl _ _ _, v, rfl, ownsRow_putObj hrow _ hK rfl, hB.trans (belowK_b (w := w) (Nat.le_refl _) W D _ _ (by omega) hK rfl rfl)⟩
  case stop =>
    rintro D c pre W _ _ h _
    exact h.elim
theorem match31 (A A' : Option Addr) (cap cap' : Nat) (a b : List Int) (u : Int) (B : Nat) (w : World) (ha : okTo a a.length = true) (hb : okTo b b.length = true) (hla : a.length ≤ 64) (hlb : b.length ≤ 64) (hBw : B ≤ w.heap.size)
    (hA : Is .i64 w B A a) (hA' : Is .i64 w B A' b) :
    Calls Try.prog 31 #[.slice A a.length cap, .slice A' b.length cap', .int .i64 u] w fun e w' => ∃ v, e = .returned v ∧ Acc .i64 w' w.heap.size 46 2 v (gr u a b 0 0).length (flat (gr u a b 0 0)) ∧ Below w.heap.size w w' :=
  callsIn_wide.1 (match31_in 3 (Nat.le_refl _) A A' cap cap' a b u w ha hb hla hlb (hA.mono hBw) (hA'.mono hBw))
end Go.Proofs.Ytmkpblfacnnnoaa
